/-
  The document's layer 7: what may be.
-/
import Derived.Test.YtbaoodlkcbiclaaRf
namespace Go.Proofs.Ytbaoodlkcbiclaa
open Go.RowKit Go.Sort

theorem rNamed_any (n : Nm) (w : World) : Calls Try.prog 21 #[.agg n.cells] w fun e w' => e = .returned (.bool n.named) ∧ Below w.heap.size w w' := by
  have M := Mem.start w
  refine calls_enter Try.func21 rfl 31 rfl rfl ?_; intro a S
  refine wp_seq ?_
  -- region 0 ref.go:9
  refine wp_region_lit ?_
  refine st_box S M rfl rfl rfl #[_, _, _] rfl ?_; clear S M a; intro a w1 b1 S M hB
  refine st_y S rfl rfl rfl (y_assign S rfl) ?_; clear S a; intro a S
  refine wpList_nil ?_
  replace S := S.sub [(0, _), (1, _), (2, _)] rfl
  refine then_normal ?_
  refine wp_seq ?_
  -- region 1 ref.go:10
  refine wp_region_lit ?_
  refine st_y S rfl rfl rfl (y_fieldAddr (k := 0) S (by kernel_rfl) rfl) ?_; clear S a; intro a S
  refine st_y S rfl rfl rfl (y_load S (by kernel_rfl) rfl (M.cell 0 rfl rfl)) ?_; clear S a; intro a S
  refine st_y S rfl rfl rfl (y_int S rfl rfl rfl) ?_; clear S a; intro a S
  refine st_y S rfl rfl rfl (y_move S rfl) ?_; clear S a; intro a S
  refine st_split (t := 6) S rfl ?_ ?_
  · clear S; intro h6 S
    first | replace h6 := nrmA h6 | replace h6 := nrmB h6 | skip
    first | replace h6 := nrm1 h6 | replace h6 := nrm2 h6 | replace h6 := nrm3 h6 | replace h6 := nrm4 h6 | replace h6 := nrm5 h6 | replace h6 := nrm6 h6 | replace h6 := of_decide_eq_true h6 | replace h6 := of_decide_eq_false h6 | skip
    refine st_y S rfl rfl rfl (y_fieldAddr (k := 0) S (by kernel_rfl) rfl) ?_; clear S a; intro a S
    refine st_y S rfl rfl rfl (y_load S (by kernel_rfl) rfl (M.cell 0 rfl rfl)) ?_; clear S a; intro a S
    refine st_y S rfl rfl rfl (y_int S rfl rfl rfl) ?_; clear S a; intro a S
    refine st_y S rfl rfl rfl (y_pickT S rfl rfl) ?_; clear S a; intro a S
    refine st_y S rfl rfl rfl (y_move S rfl) ?_; clear S a; intro a S
    refine st_split (t := 11) S rfl ?_ ?_
    · clear S; intro h11 S
      first | replace h11 := nrmA h11 | replace h11 := nrmB h11 | skip
      first | replace h11 := nrm1 h11 | replace h11 := nrm2 h11 | replace h11 := nrm3 h11 | replace h11 := nrm4 h11 | replace h11 := nrm5 h11 | replace h11 := nrm6 h11 | replace h11 := of_decide_eq_true h11 | replace h11 := of_decide_eq_false h11 | skip
      refine st_y S rfl rfl rfl (y_fieldAddr (k := 1) S (by kernel_rfl) rfl) ?_; clear S a; intro a S
      refine st_y S rfl rfl rfl (y_load S (by kernel_rfl) rfl (M.cell 0 rfl rfl)) ?_; clear S a; intro a S
      refine st_y S rfl rfl rfl (y_int S rfl rfl rfl) ?_; clear S a; intro a S
      refine st_y S rfl rfl rfl (y_pickT S rfl rfl) ?_; clear S a; intro a S
      refine st_y S rfl rfl rfl (y_move S rfl) ?_; clear S a; intro a S
      refine st_split (t := 16) S rfl ?_ ?_
      · clear S; intro h16 S
        first | replace h16 := nrmA h16 | replace h16 := nrmB h16 | skip
        first | replace h16 := nrm1 h16 | replace h16 := nrm2 h16 | replace h16 := nrm3 h16 | replace h16 := nrm4 h16 | replace h16 := nrm5 h16 | replace h16 := nrm6 h16 | replace h16 := of_decide_eq_true h16 | replace h16 := of_decide_eq_false h16 | skip
        refine st_y S rfl rfl rfl (y_fieldAddr (k := 1) S (by kernel_rfl) rfl) ?_; clear S a; intro a S
        refine st_y S rfl rfl rfl (y_load S (by kernel_rfl) rfl (M.cell 0 rfl rfl)) ?_; clear S a; intro a S
        refine st_y S rfl rfl rfl (y_int S rfl rfl rfl) ?_; clear S a; intro a S
        refine st_y S rfl rfl rfl (y_pickT S rfl rfl) ?_; clear S a; intro a S
        refine st_y S rfl rfl rfl (y_move S rfl) ?_; clear S a; intro a S
        refine st_split (t := 21) S rfl ?_ ?_
        · clear S; intro h21 S
          first | replace h21 := nrmA h21 | replace h21 := nrmB h21 | skip
          first | replace h21 := nrm1 h21 | replace h21 := nrm2 h21 | replace h21 := nrm3 h21 | replace h21 := nrm4 h21 | replace h21 := nrm5 h21 | replace h21 := nrm6 h21 | replace h21 := of_decide_eq_true h21 | replace h21 := of_decide_eq_false h21 | skip
          refine st_y S rfl rfl rfl (y_fieldAddr (k := 2) S (by kernel_rfl) rfl) ?_; clear S a; intro a S
          refine st_y S rfl rfl rfl (y_load S (by kernel_rfl) rfl (M.cell 0 rfl rfl)) ?_; clear S a; intro a S
          refine st_y S rfl rfl rfl (y_int S rfl rfl rfl) ?_; clear S a; intro a S
          refine st_y S rfl rfl rfl (y_pickT S rfl rfl) ?_; clear S a; intro a S
          refine st_y S rfl rfl rfl (y_move S rfl) ?_; clear S a; intro a S
          refine st_split (t := 26) S rfl ?_ ?_
          · clear S; intro h26 S
            first | replace h26 := nrmA h26 | replace h26 := nrmB h26 | skip
            first | replace h26 := nrm1 h26 | replace h26 := nrm2 h26 | replace h26 := nrm3 h26 | replace h26 := nrm4 h26 | replace h26 := nrm5 h26 | replace h26 := nrm6 h26 | replace h26 := of_decide_eq_true h26 | replace h26 := of_decide_eq_false h26 | skip
            refine st_y S rfl rfl rfl (y_fieldAddr (k := 2) S (by kernel_rfl) rfl) ?_; clear S a; intro a S
            refine st_y S rfl rfl rfl (y_load S (by kernel_rfl) rfl (M.cell 0 rfl rfl)) ?_; clear S a; intro a S
            refine st_y S rfl rfl rfl (y_int S rfl rfl rfl) ?_; clear S a; intro a S
            refine st_y S rfl rfl rfl (y_pickT S rfl rfl) ?_; clear S a; intro a S
            refine st_y S rfl rfl rfl (y_assign S rfl) ?_; clear S a; intro a S
            refine wpList_nil ?_
            replace S := S.sub [(0, _), (1, _), (2, _)] rfl
            refine then_normal ?_
            refine wp_ret ?_
            refine end_one S rfl (res_tmp rfl) ?_
            refine ⟨ret_bool ?_, M.below⟩; clear S M; rw [Bool.eq_iff_iff, named_iff]; (first | (simp; done) | (simp; omega) | omega)
          · clear S; intro h26 S
            first | replace h26 := nrmA h26 | replace h26 := nrmB h26 | skip
            first | replace h26 := nrm1 h26 | replace h26 := nrm2 h26 | replace h26 := nrm3 h26 | replace h26 := nrm4 h26 | replace h26 := nrm5 h26 | replace h26 := nrm6 h26 | replace h26 := of_decide_eq_true h26 | replace h26 := of_decide_eq_false h26 | skip
            refine st_no S rfl rfl rfl ?_; clear S a; intro a S
            refine st_no S rfl rfl rfl ?_; clear S a; intro a S
            refine st_no S rfl rfl rfl ?_; clear S a; intro a S
            refine st_y S rfl rfl rfl (y_pickF S rfl rfl) ?_; clear S a; intro a S
            refine st_y S rfl rfl rfl (y_assign S rfl) ?_; clear S a; intro a S
            refine wpList_nil ?_
            replace S := S.sub [(0, _), (1, _), (2, _)] rfl
            refine then_normal ?_
            refine wp_ret ?_
            refine end_one S rfl (res_tmp rfl) ?_
            refine ⟨ret_bool ?_, M.below⟩; clear S M; rw [Bool.eq_iff_iff, named_iff]; (first | (simp; done) | (simp; omega) | omega)
        · clear S; intro h21 S
          first | replace h21 := nrmA h21 | replace h21 := nrmB h21 | skip
          first | replace h21 := nrm1 h21 | replace h21 := nrm2 h21 | replace h21 := nrm3 h21 | replace h21 := nrm4 h21 | replace h21 := nrm5 h21 | replace h21 := nrm6 h21 | replace h21 := of_decide_eq_true h21 | replace h21 := of_decide_eq_false h21 | skip
          refine st_no S rfl rfl rfl ?_; clear S a; intro a S
          refine st_no S rfl rfl rfl ?_; clear S a; intro a S
          refine st_no S rfl rfl rfl ?_; clear S a; intro a S
          refine st_y S rfl rfl rfl (y_pickF S rfl rfl) ?_; clear S a; intro a S
          refine st_y S rfl rfl rfl (y_move S rfl) ?_; clear S a; intro a S
          refine st_no S rfl rfl rfl ?_; clear S a; intro a S
          refine st_no S rfl rfl rfl ?_; clear S a; intro a S
          refine st_no S rfl rfl rfl ?_; clear S a; intro a S
          refine st_y S rfl rfl rfl (y_pickF S rfl rfl) ?_; clear S a; intro a S
          refine st_y S rfl rfl rfl (y_assign S rfl) ?_; clear S a; intro a S
          refine wpList_nil ?_
          replace S := S.sub [(0, _), (1, _), (2, _)] rfl
          refine then_normal ?_
          refine wp_ret ?_
          refine end_one S rfl (res_tmp rfl) ?_
          refine ⟨ret_bool ?_, M.below⟩; clear S M; rw [Bool.eq_iff_iff, named_iff]; (first | (simp; done) | (simp; omega) | omega)
      · clear S; intro h16 S
        first | replace h16 := nrmA h16 | replace h16 := nrmB h16 | skip
        first | replace h16 := nrm1 h16 | replace h16 := nrm2 h16 | replace h16 := nrm3 h16 | replace h16 := nrm4 h16 | replace h16 := nrm5 h16 | replace h16 := nrm6 h16 | replace h16 := of_decide_eq_true h16 | replace h16 := of_decide_eq_false h16 | skip
        refine st_no S rfl rfl rfl ?_; clear S a; intro a S
        refine st_no S rfl rfl rfl ?_; clear S a; intro a S
        refine st_no S rfl rfl rfl ?_; clear S a; intro a S
        refine st_y S rfl rfl rfl (y_pickF S rfl rfl) ?_; clear S a; intro a S
        refine st_y S rfl rfl rfl (y_move S rfl) ?_; clear S a; intro a S
        refine st_no S rfl rfl rfl ?_; clear S a; intro a S
        refine st_no S rfl rfl rfl ?_; clear S a; intro a S
        refine st_no S rfl rfl rfl ?_; clear S a; intro a S
        refine st_y S rfl rfl rfl (y_pickF S rfl rfl) ?_; clear S a; intro a S
        refine st_y S rfl rfl rfl (y_move S rfl) ?_; clear S a; intro a S
        refine st_no S rfl rfl rfl ?_; clear S a; intro a S
        refine st_no S rfl rfl rfl ?_; clear S a; intro a S
        refine st_no S rfl rfl rfl ?_; clear S a; intro a S
        refine st_y S rfl rfl rfl (y_pickF S rfl rfl) ?_; clear S a; intro a S
        refine st_y S rfl rfl rfl (y_assign S rfl) ?_; clear S a; intro a S
        refine wpList_nil ?_
        replace S := S.sub [(0, _), (1, _), (2, _)] rfl
        refine then_normal ?_
        refine wp_ret ?_
        refine end_one S rfl (res_tmp rfl) ?_
        refine ⟨ret_bool ?_, M.below⟩; clear S M; rw [Bool.eq_iff_iff, named_iff]; (first | (simp; done) | (simp; omega) | omega)
    · clear S; intro h11 S
      first | replace h11 := nrmA h11 | replace h11 := nrmB h11 | skip
      first | replace h11 := nrm1 h11 | replace h11 := nrm2 h11 | replace h11 := nrm3 h11 | replace h11 := nrm4 h11 | replace h11 := nrm5 h11 | replace h11 := nrm6 h11 | replace h11 := of_decide_eq_true h11 | replace h11 := of_decide_eq_false h11 | skip
      refine st_no S rfl rfl rfl ?_; clear S a; intro a S
      refine st_no S rfl rfl rfl ?_; clear S a; intro a S
      refine st_no S rfl rfl rfl ?_; clear S a; intro a S
      refine st_y S rfl rfl rfl (y_pickF S rfl rfl) ?_; clear S a; intro a S
      refine st_y S rfl rfl rfl (y_move S rfl) ?_; clear S a; intro a S
      refine st_no S rfl rfl rfl ?_; clear S a; intro a S
      refine st_no S rfl rfl rfl ?_; clear S a; intro a S
      refine st_no S rfl rfl rfl ?_; clear S a; intro a S
      refine st_y S rfl rfl rfl (y_pickF S rfl rfl) ?_; clear S a; intro a S
      refine st_y S rfl rfl rfl (y_move S rfl) ?_; clear S a; intro a S
      refine st_no S rfl rfl rfl ?_; clear S a; intro a S
      refine st_no S rfl rfl rfl ?_; clear S a; intro a S
      refine st_no S rfl rfl rfl ?_; clear S a; intro a S
      refine st_y S rfl rfl rfl (y_pickF S rfl rfl) ?_; clear S a; intro a S
      refine st_y S rfl rfl rfl (y_move S rfl) ?_; clear S a; intro a S
      refine st_no S rfl rfl rfl ?_; clear S a; intro a S
      refine st_no S rfl rfl rfl ?_; clear S a; intro a S
      refine st_no S rfl rfl rfl ?_; clear S a; intro a S
      refine st_y S rfl rfl rfl (y_pickF S rfl rfl) ?_; clear S a; intro a S
      refine st_y S rfl rfl rfl (y_assign S rfl) ?_; clear S a; intro a S
      refine wpList_nil ?_
      replace S := S.sub [(0, _), (1, _), (2, _)] rfl
      refine then_normal ?_
      refine wp_ret ?_
      refine end_one S rfl (res_tmp rfl) ?_
      refine ⟨ret_bool ?_, M.below⟩; clear S M; rw [Bool.eq_iff_iff, named_iff]; (first | (simp; done) | (simp; omega) | omega)
  · clear S; intro h6 S
    first | replace h6 := nrmA h6 | replace h6 := nrmB h6 | skip
    first | replace h6 := nrm1 h6 | replace h6 := nrm2 h6 | replace h6 := nrm3 h6 | replace h6 := nrm4 h6 | replace h6 := nrm5 h6 | replace h6 := nrm6 h6 | replace h6 := of_decide_eq_true h6 | replace h6 := of_decide_eq_false h6 | skip
    refine st_no S rfl rfl rfl ?_; clear S a; intro a S
    refine st_no S rfl rfl rfl ?_; clear S a; intro a S
    refine st_no S rfl rfl rfl ?_; clear S a; intro a S
    refine st_y S rfl rfl rfl (y_pickF S rfl rfl) ?_; clear S a; intro a S
    refine st_y S rfl rfl rfl (y_move S rfl) ?_; clear S a; intro a S
    refine st_no S rfl rfl rfl ?_; clear S a; intro a S
    refine st_no S rfl rfl rfl ?_; clear S a; intro a S
    refine st_no S rfl rfl rfl ?_; clear S a; intro a S
    refine st_y S rfl rfl rfl (y_pickF S rfl rfl) ?_; clear S a; intro a S
    refine st_y S rfl rfl rfl (y_move S rfl) ?_; clear S a; intro a S
    refine st_no S rfl rfl rfl ?_; clear S a; intro a S
    refine st_no S rfl rfl rfl ?_; clear S a; intro a S
    refine st_no S rfl rfl rfl ?_; clear S a; intro a S
    refine st_y S rfl rfl rfl (y_pickF S rfl rfl) ?_; clear S a; intro a S
    refine st_y S rfl rfl rfl (y_move S rfl) ?_; clear S a; intro a S
    refine st_no S rfl rfl rfl ?_; clear S a; intro a S
    refine st_no S rfl rfl rfl ?_; clear S a; intro a S
    refine st_no S rfl rfl rfl ?_; clear S a; intro a S
    refine st_y S rfl rfl rfl (y_pickF S rfl rfl) ?_; clear S a; intro a S
    refine st_y S rfl rfl rfl (y_move S rfl) ?_; clear S a; intro a S
    refine st_no S rfl rfl rfl ?_; clear S a; intro a S
    refine st_no S rfl rfl rfl ?_; clear S a; intro a S
    refine st_no S rfl rfl rfl ?_; clear S a; intro a S
    refine st_y S rfl rfl rfl (y_pickF S rfl rfl) ?_; clear S a; intro a S
    refine st_y S rfl rfl rfl (y_assign S rfl) ?_; clear S a; intro a S
    refine wpList_nil ?_
    replace S := S.sub [(0, _), (1, _), (2, _)] rfl
    refine then_normal ?_
    refine wp_ret ?_
    refine end_one S rfl (res_tmp rfl) ?_
    refine ⟨ret_bool ?_, M.below⟩; clear S M; rw [Bool.eq_iff_iff, named_iff]; (first | (simp; done) | (simp; omega) | omega)
theorem rLess_any (p q : Nm) (w : World) : Calls Try.prog 25 #[.agg p.cells, .agg q.cells] w fun e w' => e = .returned (.bool (p.less q)) ∧ Below w.heap.size w w' := by
  have M := Mem.start w
  refine calls_enter Try.func25 rfl 30 rfl rfl ?_; intro a S
  refine wp_seq ?_
  -- region 0 ref.go:14
  refine wp_region_lit ?_
  refine st_box S M rfl rfl rfl #[_, _, _] rfl ?_; clear S M a; intro a w1 b1 S M hB
  refine st_box S M rfl rfl rfl #[_, _, _] rfl ?_; clear S M a; intro a w2 b2 S M hB
  refine st_y S rfl rfl rfl (y_assign S rfl) ?_; clear S a; intro a S
  refine wpList_nil ?_
  replace S := S.sub [(0, _), (1, _), (2, _), (3, _), (4, _)] rfl
  refine then_normal ?_
  refine wp_seq ?_
  refine wp_seq ?_
  -- region 1 ref.go:15
  refine wp_region_lit ?_
  refine st_y S rfl rfl rfl (y_fieldAddr (k := 0) S (by kernel_rfl) rfl) ?_; clear S a; intro a S
  refine st_y S rfl rfl rfl (y_load S (by kernel_rfl) rfl (M.cell 1 rfl rfl)) ?_; clear S a; intro a S
  refine st_y S rfl rfl rfl (y_fieldAddr (k := 0) S (by kernel_rfl) rfl) ?_; clear S a; intro a S
  refine st_y S rfl rfl rfl (y_load S (by kernel_rfl) rfl (M.cell 0 rfl rfl)) ?_; clear S a; intro a S
  refine st_y S rfl rfl rfl (y_int S rfl rfl rfl) ?_; clear S a; intro a S
  refine wpList_nil ?_
  replace S := S.sub [(0, _), (1, _), (2, _), (3, _), (4, _), (9, _)] rfl
  refine then_normal ?_
  refine st_split (t := 9) S rfl ?_ ?_
  · clear S; intro h9 S
    first | replace h9 := nrmA h9 | replace h9 := nrmB h9 | skip
    first | replace h9 := nrm1 h9 | replace h9 := nrm2 h9 | replace h9 := nrm3 h9 | replace h9 := nrm4 h9 | replace h9 := nrm5 h9 | replace h9 := nrm6 h9 | replace h9 := of_decide_eq_true h9 | replace h9 := of_decide_eq_false h9 | skip
    refine st_condT S rfl ?_
    refine wp_seq ?_
    -- region 2 ref.go:16
    refine wp_region_lit ?_
    refine st_y S rfl rfl rfl (y_fieldAddr (k := 0) S (by kernel_rfl) rfl) ?_; clear S a; intro a S
    refine st_y S rfl rfl rfl (y_load S (by kernel_rfl) rfl (M.cell 1 rfl rfl)) ?_; clear S a; intro a S
    refine st_y S rfl rfl rfl (y_fieldAddr (k := 0) S (by kernel_rfl) rfl) ?_; clear S a; intro a S
    refine st_y S rfl rfl rfl (y_load S (by kernel_rfl) rfl (M.cell 0 rfl rfl)) ?_; clear S a; intro a S
    refine st_y S rfl rfl rfl (y_int S rfl rfl rfl) ?_; clear S a; intro a S
    refine st_y S rfl rfl rfl (y_assign S rfl) ?_; clear S a; intro a S
    refine wpList_nil ?_
    replace S := S.sub [(0, _), (1, _), (2, _), (3, _), (9, _), (4, _)] rfl
    refine then_normal ?_
    refine wp_ret ?_
    refine then_ret ?_
    refine end_one S rfl (res_tmp rfl) ?_
    refine ⟨ret_bool ?_, M.below⟩; clear S M; unfold Nm.less; rw [Bool.eq_iff_iff]; simp only [decide_eq_true_eq]; omega
  · clear S; intro h9 S
    first | replace h9 := nrmA h9 | replace h9 := nrmB h9 | skip
    first | replace h9 := nrm1 h9 | replace h9 := nrm2 h9 | replace h9 := nrm3 h9 | replace h9 := nrm4 h9 | replace h9 := nrm5 h9 | replace h9 := nrm6 h9 | replace h9 := of_decide_eq_true h9 | replace h9 := of_decide_eq_false h9 | skip
    refine st_condF S rfl ?_
    refine wp_skip ?_
    refine then_normal ?_
    refine wp_seq ?_
    refine wp_seq ?_
    -- region 3 ref.go:18
    refine wp_region_lit ?_
    refine st_y S rfl rfl rfl (y_fieldAddr (k := 1) S (by kernel_rfl) rfl) ?_; clear S a; intro a S
    refine st_y S rfl rfl rfl (y_load S (by kernel_rfl) rfl (M.cell 1 rfl rfl)) ?_; clear S a; intro a S
    refine st_y S rfl rfl rfl (y_fieldAddr (k := 1) S (by kernel_rfl) rfl) ?_; clear S a; intro a S
    refine st_y S rfl rfl rfl (y_load S (by kernel_rfl) rfl (M.cell 0 rfl rfl)) ?_; clear S a; intro a S
    refine st_y S rfl rfl rfl (y_int S rfl rfl rfl) ?_; clear S a; intro a S
    refine wpList_nil ?_
    replace S := S.sub [(0, _), (1, _), (2, _), (3, _), (4, _), (9, _), (19, _)] rfl
    refine then_normal ?_
    refine st_split (t := 19) S rfl ?_ ?_
    · clear S; intro h19 S
      first | replace h19 := nrmA h19 | replace h19 := nrmB h19 | skip
      first | replace h19 := nrm1 h19 | replace h19 := nrm2 h19 | replace h19 := nrm3 h19 | replace h19 := nrm4 h19 | replace h19 := nrm5 h19 | replace h19 := nrm6 h19 | replace h19 := of_decide_eq_true h19 | replace h19 := of_decide_eq_false h19 | skip
      refine st_condT S rfl ?_
      refine wp_seq ?_
      -- region 4 ref.go:19
      refine wp_region_lit ?_
      refine st_y S rfl rfl rfl (y_fieldAddr (k := 1) S (by kernel_rfl) rfl) ?_; clear S a; intro a S
      refine st_y S rfl rfl rfl (y_load S (by kernel_rfl) rfl (M.cell 1 rfl rfl)) ?_; clear S a; intro a S
      refine st_y S rfl rfl rfl (y_fieldAddr (k := 1) S (by kernel_rfl) rfl) ?_; clear S a; intro a S
      refine st_y S rfl rfl rfl (y_load S (by kernel_rfl) rfl (M.cell 0 rfl rfl)) ?_; clear S a; intro a S
      refine st_y S rfl rfl rfl (y_int S rfl rfl rfl) ?_; clear S a; intro a S
      refine st_y S rfl rfl rfl (y_assign S rfl) ?_; clear S a; intro a S
      refine wpList_nil ?_
      replace S := S.sub [(0, _), (1, _), (2, _), (3, _), (9, _), (19, _), (4, _)] rfl
      refine then_normal ?_
      refine wp_ret ?_
      refine then_ret ?_
      refine end_one S rfl (res_tmp rfl) ?_
      refine ⟨ret_bool ?_, M.below⟩; clear S M; unfold Nm.less; rw [Bool.eq_iff_iff]; simp only [decide_eq_true_eq]; omega
    · clear S; intro h19 S
      first | replace h19 := nrmA h19 | replace h19 := nrmB h19 | skip
      first | replace h19 := nrm1 h19 | replace h19 := nrm2 h19 | replace h19 := nrm3 h19 | replace h19 := nrm4 h19 | replace h19 := nrm5 h19 | replace h19 := nrm6 h19 | replace h19 := of_decide_eq_true h19 | replace h19 := of_decide_eq_false h19 | skip
      refine st_condF S rfl ?_
      refine wp_skip ?_
      refine then_normal ?_
      refine wp_seq ?_
      -- region 5 ref.go:21
      refine wp_region_lit ?_
      refine st_y S rfl rfl rfl (y_fieldAddr (k := 2) S (by kernel_rfl) rfl) ?_; clear S a; intro a S
      refine st_y S rfl rfl rfl (y_load S (by kernel_rfl) rfl (M.cell 1 rfl rfl)) ?_; clear S a; intro a S
      refine st_y S rfl rfl rfl (y_fieldAddr (k := 2) S (by kernel_rfl) rfl) ?_; clear S a; intro a S
      refine st_y S rfl rfl rfl (y_load S (by kernel_rfl) rfl (M.cell 0 rfl rfl)) ?_; clear S a; intro a S
      refine st_y S rfl rfl rfl (y_int S rfl rfl rfl) ?_; clear S a; intro a S
      refine st_y S rfl rfl rfl (y_assign S rfl) ?_; clear S a; intro a S
      refine wpList_nil ?_
      replace S := S.sub [(0, _), (1, _), (2, _), (3, _), (9, _), (19, _), (4, _)] rfl
      refine then_normal ?_
      refine wp_ret ?_
      refine end_one S rfl (res_tmp rfl) ?_
      refine ⟨ret_bool ?_, M.below⟩; clear S M; unfold Nm.less; rw [Bool.eq_iff_iff]; simp only [decide_eq_true_eq]; omega
def lastB (x : List Wr) (k : Nat) : Int := match k with
  | 0 => -1
  | k + 1 => ((x[k]?).map Wr.block).getD 0
theorem wcells_block {x : List Wr} {k : Nat} {p : Wr} {lo hi : Nat} {w : World} {v : Value} (h : Ws lo hi w v x) (hp : x[k]? = some p) : w.cell? ⟨(adr v).block, (adr v).off + k * 9, none⟩ = some (.int .i64 p.block) := by
  have := (h.at_.row (i := k) (wcells_get hp) rfl) 0 (by simp)
  simpa using this
theorem rWritten_any (v : Value) (x : List Wr) (w : World) (hx : Ws 0 w.heap.size w v x) : Calls Try.prog 23 #[v] w fun e w' => e = .returned (.bool (writtenB x)) ∧ Below w.heap.size w w' := by
  have M := Mem.start w
  refine calls_enter Try.func23 rfl 45 rfl rfl ?_; intro a S
  refine wp_seq ?_
  -- region 0 ref.go:25
  refine wp_region_lit ?_
  refine st_y S rfl rfl rfl (y_assign S rfl) ?_; clear S a; intro a S
  refine wpList_nil ?_
  replace S := S.sub [(0, _), (2, _)] rfl
  refine then_normal ?_
  refine wp_seq ?_
  refine wp_seq ?_
  -- region 1 ref.go:26
  refine wp_region_lit ?_
  refine st_y S rfl rfl rfl (y_move S rfl) ?_; clear S a; intro a S
  refine st_y S rfl rfl rfl (y_lenR (E := 67) S rfl (M.arg hx) (by kernel_rfl)) ?_; clear S a; intro a S
  refine st_y S rfl rfl rfl (y_int S rfl rfl rfl) ?_; clear S a; intro a S
  refine wpList_nil ?_
  replace S := S.sub [(0, _), (2, _), (6, _)] rfl
  refine then_normal ?_
  refine st_split (t := 6) S rfl ?_ ?_
  · clear S; intro h6 S
    first | replace h6 := nrmA h6 | replace h6 := nrmB h6 | skip
    first | replace h6 := nrm1 h6 | replace h6 := nrm2 h6 | replace h6 := nrm3 h6 | replace h6 := nrm4 h6 | replace h6 := nrm5 h6 | replace h6 := nrm6 h6 | replace h6 := of_decide_eq_true h6 | replace h6 := of_decide_eq_false h6 | skip
    refine st_condT S rfl ?_
    refine wp_seq ?_
    -- region 2 ref.go:27
    refine wp_region_lit ?_
    refine st_y S rfl rfl rfl (y_assign S rfl) ?_; clear S a; intro a S
    refine wpList_nil ?_
    replace S := S.sub [(0, _), (6, _), (2, _)] rfl
    refine then_normal ?_
    refine wp_ret ?_
    refine then_ret ?_
    refine end_one S rfl (res_tmp rfl) ?_
    refine ⟨ret_bool ?_, M.below⟩; unfold writtenB; rw [decide_eq_false (by omega)]; rfl
  · clear S; intro h6 S
    first | replace h6 := nrmA h6 | replace h6 := nrmB h6 | skip
    first | replace h6 := nrm1 h6 | replace h6 := nrm2 h6 | replace h6 := nrm3 h6 | replace h6 := nrm4 h6 | replace h6 := nrm5 h6 | replace h6 := nrm6 h6 | replace h6 := of_decide_eq_true h6 | replace h6 := of_decide_eq_false h6 | skip
    refine st_condF S rfl ?_
    refine wp_skip ?_
    refine then_normal ?_
    refine wp_seq ?_
    refine wp_seq ?_
    -- region 3 ref.go:29
    refine wp_region_lit ?_
    refine st_y S rfl rfl rfl (y_assign S rfl) ?_; clear S a; intro a S
    refine wpList_nil ?_
    replace S := S.sub [(0, _), (2, _), (6, _), (3, _)] rfl
    refine then_normal ?_
    refine wp_block ?_
    refine wp_loop_g (fun m a w' => ∃ (k : Nat), k ≤ x.length ∧ m = x.length - k ∧ Sees 45 a [(0, v), (3, .int .i64 (k : Int))] ∧ Mem w w' [] ∧ risingB (-1) x = risingB (lastB x k) (x.drop k) ∧ -1 ≤ lastB x k) (x.length) ?_ ?_
    · skip
      exact ⟨0, Nat.zero_le _, rfl, S.sub _ rfl, M, rfl, by simp [lastB]⟩
    · clear S M a; intro m a wl
      rintro ⟨k, hk, rfl, S, M, hpre, hlast⟩
      refine wp_seq ?_
      refine wp_seq ?_
      -- region 4 ref.go:29
      refine wp_region_lit ?_
      refine st_y S rfl rfl rfl (y_move S rfl) ?_; clear S a; intro a S
      refine st_y S rfl rfl rfl (y_move S rfl) ?_; clear S a; intro a S
      refine st_y S rfl rfl rfl (y_lenR (E := 67) S rfl ((M.arg hx)) (by kernel_rfl)) ?_; clear S a; intro a S
      refine st_y S rfl rfl rfl (y_int S rfl rfl rfl) ?_; clear S a; intro a S
      refine wpList_nil ?_
      replace S := S.sub [(0, _), (3, _), (10, _)] rfl
      refine then_normal ?_
      refine st_split (t := 10) S rfl ?_ ?_
      · clear S; intro h10 S
        first | replace h10 := nrmA h10 | replace h10 := nrmB h10 | skip
        first | replace h10 := nrm1 h10 | replace h10 := nrm2 h10 | replace h10 := nrm3 h10 | replace h10 := nrm4 h10 | replace h10 := nrm5 h10 | replace h10 := nrm6 h10 | replace h10 := of_decide_eq_true h10 | replace h10 := of_decide_eq_false h10 | skip
        refine st_condT S rfl ?_
        refine wp_skip ?_
        refine then_normal ?_
        refine wp_seq ?_
        refine wp_block ?_
        refine wp_seq ?_
        -- region 6 ref.go:30
        obtain ⟨p, hp⟩ : ∃ p, x[k]? = some p := ⟨_, List.getElem?_eq_getElem (by omega)⟩
        have hlp : lastB x (k + 1) = p.block := by simp [lastB, hp]
        rw [drop_get hp] at hpre
        obtain ⟨q, hqq⟩ : ∃ q : Wr, 0 < k → x[((k : Int) - 1).toNat]? = some q ∧ lastB x k = q.block := by
          cases k with
          | zero => exact ⟨p, fun h => absurd h (by omega)⟩
          | succ k =>
            obtain ⟨q, hq⟩ : ∃ q, x[k]? = some q := ⟨_, List.getElem?_eq_getElem (by omega)⟩
            exact ⟨q, fun _ => ⟨by rw [show (((k + 1 : Nat) : Int) - 1).toNat = k by omega]; exact hq, by simp [lastB, hq]⟩⟩
        refine wp_quiet M (by kernel_rfl) (by kernel_rfl) ?_
        refine qt_y S rfl rfl rfl (fun w M => y_move S rfl) ?_; clear S a; intro a S
        refine qt_y S rfl rfl rfl (fun w M => y_move S rfl) ?_; clear S a; intro a S
        refine qt_y S rfl rfl rfl (fun w M => y_indexR (e := 67) (sz := 9) S (by kernel_rfl) rfl ((M.arg hx)) rfl (by first | omega | (simp; done) | (simp; omega))) ?_; clear S a; intro a S
        try simp only [Int.toNat_natCast, Nat.mul_one, Nat.zero_add] at S
        refine qt_y S rfl rfl rfl (fun w M => y_fieldAddr (k := 0) S (by kernel_rfl) rfl) ?_; clear S a; intro a S
        refine qt_y S rfl rfl rfl (fun w M => y_load S (by kernel_rfl) rfl (wcells_block (M.arg hx) hp)) ?_; clear S a; intro a S
        refine qt_y S rfl rfl rfl (fun w M => y_int S rfl rfl rfl) ?_; clear S a; intro a S
        refine qt_y S rfl rfl rfl (fun w M => y_move S rfl) ?_; clear S a; intro a S
        refine st_split (t := 19) S rfl ?_ ?_
        · clear S; intro h19 S
          first | replace h19 := nrmA h19 | replace h19 := nrmB h19 | skip
          first | replace h19 := nrm1 h19 | replace h19 := nrm2 h19 | replace h19 := nrm3 h19 | replace h19 := nrm4 h19 | replace h19 := nrm5 h19 | replace h19 := nrm6 h19 | replace h19 := of_decide_eq_true h19 | replace h19 := of_decide_eq_false h19 | skip
          refine qt_no S rfl rfl rfl ?_; clear S a; intro a S
          refine qt_no S rfl rfl rfl ?_; clear S a; intro a S
          refine qt_no S rfl rfl rfl ?_; clear S a; intro a S
          refine qt_no S rfl rfl rfl ?_; clear S a; intro a S
          refine qt_no S rfl rfl rfl ?_; clear S a; intro a S
          refine qt_no S rfl rfl rfl ?_; clear S a; intro a S
          refine qt_y S rfl rfl rfl (fun w M => y_pickT S rfl rfl) ?_; clear S a; intro a S
          refine qt_y S rfl rfl rfl (fun w M => y_move S rfl) ?_; clear S a; intro a S
          refine qt_no S rfl rfl rfl ?_; clear S a; intro a S
          refine qt_no S rfl rfl rfl ?_; clear S a; intro a S
          refine qt_no S rfl rfl rfl ?_; clear S a; intro a S
          refine qt_no S rfl rfl rfl ?_; clear S a; intro a S
          refine qt_no S rfl rfl rfl ?_; clear S a; intro a S
          refine qt_no S rfl rfl rfl ?_; clear S a; intro a S
          refine qt_no S rfl rfl rfl ?_; clear S a; intro a S
          refine qt_no S rfl rfl rfl ?_; clear S a; intro a S
          refine qt_no S rfl rfl rfl ?_; clear S a; intro a S
          refine qt_no S rfl rfl rfl ?_; clear S a; intro a S
          refine qt_no S rfl rfl rfl ?_; clear S a; intro a S
          refine qt_no S rfl rfl rfl ?_; clear S a; intro a S
          refine qt_no S rfl rfl rfl ?_; clear S a; intro a S
          refine qt_no S rfl rfl rfl ?_; clear S a; intro a S
          refine qt_no S rfl rfl rfl ?_; clear S a; intro a S
          refine qt_no S rfl rfl rfl ?_; clear S a; intro a S
          refine qt_y S rfl rfl rfl (fun w M => y_pickT S rfl rfl) ?_; clear S a; intro a S
          refine wpQuiet_nil ?_; clear M; intro w1 M
          replace S := S.sub [(0, _), (3, _), (10, _), (44, _)] rfl
          refine then_normal ?_
          refine st_condT S rfl ?_
          refine wp_seq ?_
          -- region 7 ref.go:31
          refine wp_region_lit ?_
          refine st_y S rfl rfl rfl (y_assign S rfl) ?_; clear S a; intro a S
          refine wpList_nil ?_
          replace S := S.sub [(0, _), (3, _), (10, _), (44, _), (2, _)] rfl
          refine then_normal ?_
          refine wp_ret ?_
          refine block_ret ?_
          refine then_ret ?_
          refine then_ret ?_
          refine block_ret ?_
          refine then_ret ?_
          refine end_one S rfl (res_tmp rfl) ?_
          refine ⟨ret_bool ?_, M.below⟩; clear S M; unfold writtenB; rw [hpre]; unfold risingB
          have hno : ¬ (lastB x k < p.block ∧ p.block < 32) := by first | omega | (have := (hqq (by omega)).2; omega)
          rw [decide_eq_false hno]; simp
        · clear S; intro h19 S
          first | replace h19 := nrmA h19 | replace h19 := nrmB h19 | skip
          first | replace h19 := nrm1 h19 | replace h19 := nrm2 h19 | replace h19 := nrm3 h19 | replace h19 := nrm4 h19 | replace h19 := nrm5 h19 | replace h19 := nrm6 h19 | replace h19 := of_decide_eq_true h19 | replace h19 := of_decide_eq_false h19 | skip
          refine qt_y S rfl rfl rfl (fun w M => y_move S rfl) ?_; clear S a; intro a S
          refine qt_y S rfl rfl rfl (fun w M => y_move S rfl) ?_; clear S a; intro a S
          refine qt_y S rfl rfl rfl (fun w M => y_indexR (e := 67) (sz := 9) S (by kernel_rfl) rfl ((M.arg hx)) rfl (by first | omega | (simp; done) | (simp; omega))) ?_; clear S a; intro a S
          try simp only [Int.toNat_natCast, Nat.mul_one, Nat.zero_add] at S
          refine qt_y S rfl rfl rfl (fun w M => y_fieldAddr (k := 0) S (by kernel_rfl) rfl) ?_; clear S a; intro a S
          refine qt_y S rfl rfl rfl (fun w M => y_load S (by kernel_rfl) rfl (wcells_block (M.arg hx) hp)) ?_; clear S a; intro a S
          refine qt_y S rfl rfl rfl (fun w M => y_int S rfl rfl rfl) ?_; clear S a; intro a S
          refine qt_y S rfl rfl rfl (fun w M => y_pickF S rfl rfl) ?_; clear S a; intro a S
          refine qt_y S rfl rfl rfl (fun w M => y_move S rfl) ?_; clear S a; intro a S
          refine st_split (t := 27) S rfl ?_ ?_
          · clear S; intro h27 S
            first | replace h27 := nrmA h27 | replace h27 := nrmB h27 | skip
            first | replace h27 := nrm1 h27 | replace h27 := nrm2 h27 | replace h27 := nrm3 h27 | replace h27 := nrm4 h27 | replace h27 := nrm5 h27 | replace h27 := nrm6 h27 | replace h27 := of_decide_eq_true h27 | replace h27 := of_decide_eq_false h27 | skip
            refine qt_no S rfl rfl rfl ?_; clear S a; intro a S
            refine qt_no S rfl rfl rfl ?_; clear S a; intro a S
            refine qt_no S rfl rfl rfl ?_; clear S a; intro a S
            refine qt_no S rfl rfl rfl ?_; clear S a; intro a S
            refine qt_no S rfl rfl rfl ?_; clear S a; intro a S
            refine qt_no S rfl rfl rfl ?_; clear S a; intro a S
            refine qt_no S rfl rfl rfl ?_; clear S a; intro a S
            refine qt_no S rfl rfl rfl ?_; clear S a; intro a S
            refine qt_no S rfl rfl rfl ?_; clear S a; intro a S
            refine qt_no S rfl rfl rfl ?_; clear S a; intro a S
            refine qt_no S rfl rfl rfl ?_; clear S a; intro a S
            refine qt_no S rfl rfl rfl ?_; clear S a; intro a S
            refine qt_no S rfl rfl rfl ?_; clear S a; intro a S
            refine qt_no S rfl rfl rfl ?_; clear S a; intro a S
            refine qt_no S rfl rfl rfl ?_; clear S a; intro a S
            refine qt_no S rfl rfl rfl ?_; clear S a; intro a S
            refine qt_y S rfl rfl rfl (fun w M => y_pickT S rfl rfl) ?_; clear S a; intro a S
            refine wpQuiet_nil ?_; clear M; intro w2 M
            replace S := S.sub [(0, _), (3, _), (10, _), (44, _)] rfl
            refine then_normal ?_
            refine st_condT S rfl ?_
            refine wp_seq ?_
            -- region 7 ref.go:31
            refine wp_region_lit ?_
            refine st_y S rfl rfl rfl (y_assign S rfl) ?_; clear S a; intro a S
            refine wpList_nil ?_
            replace S := S.sub [(0, _), (3, _), (10, _), (44, _), (2, _)] rfl
            refine then_normal ?_
            refine wp_ret ?_
            refine block_ret ?_
            refine then_ret ?_
            refine then_ret ?_
            refine block_ret ?_
            refine then_ret ?_
            refine end_one S rfl (res_tmp rfl) ?_
            refine ⟨ret_bool ?_, M.below⟩; clear S M; unfold writtenB; rw [hpre]; unfold risingB
            have hno : ¬ (lastB x k < p.block ∧ p.block < 32) := by first | omega | (have := (hqq (by omega)).2; omega)
            rw [decide_eq_false hno]; simp
          · clear S; intro h27 S
            first | replace h27 := nrmA h27 | replace h27 := nrmB h27 | skip
            first | replace h27 := nrm1 h27 | replace h27 := nrm2 h27 | replace h27 := nrm3 h27 | replace h27 := nrm4 h27 | replace h27 := nrm5 h27 | replace h27 := nrm6 h27 | replace h27 := of_decide_eq_true h27 | replace h27 := of_decide_eq_false h27 | skip
            refine qt_y S rfl rfl rfl (fun w M => y_move S rfl) ?_; clear S a; intro a S
            refine qt_y S rfl rfl rfl (fun w M => y_int S rfl rfl rfl) ?_; clear S a; intro a S
            refine qt_y S rfl rfl rfl (fun w M => y_move S rfl) ?_; clear S a; intro a S
            refine st_split (t := 30) S rfl ?_ ?_
            · clear S; intro h30 S
              first | replace h30 := nrmA h30 | replace h30 := nrmB h30 | skip
              first | replace h30 := nrm1 h30 | replace h30 := nrm2 h30 | replace h30 := nrm3 h30 | replace h30 := nrm4 h30 | replace h30 := nrm5 h30 | replace h30 := nrm6 h30 | replace h30 := of_decide_eq_true h30 | replace h30 := of_decide_eq_false h30 | skip
              refine qt_y S rfl rfl rfl (fun w M => y_move S rfl) ?_; clear S a; intro a S
              refine qt_y S rfl rfl rfl (fun w M => y_move S rfl) ?_; clear S a; intro a S
              refine qt_y S rfl rfl rfl (fun w M => y_indexR (e := 67) (sz := 9) S (by kernel_rfl) rfl ((M.arg hx)) rfl (by first | omega | (simp; done) | (simp; omega))) ?_; clear S a; intro a S
              try simp only [Int.toNat_natCast, Nat.mul_one, Nat.zero_add] at S
              refine qt_y S rfl rfl rfl (fun w M => y_fieldAddr (k := 0) S (by kernel_rfl) rfl) ?_; clear S a; intro a S
              refine qt_y S rfl rfl rfl (fun w M => y_load S (by kernel_rfl) rfl (wcells_block (M.arg hx) hp)) ?_; clear S a; intro a S
              refine qt_y S rfl rfl rfl (fun w M => y_move S rfl) ?_; clear S a; intro a S
              refine qt_y S rfl rfl rfl (fun w M => y_move S rfl) ?_; clear S a; intro a S
              (first | refine qt_y S rfl rfl rfl (fun w M => y_subN S rfl rfl (by omega)) ?_ | refine qt_y S rfl rfl rfl (fun w M => y_int S rfl rfl rfl) ?_); clear S a; intro a S
              refine qt_y S rfl rfl rfl (fun w M => y_indexR (e := 67) (sz := 9) S (by kernel_rfl) rfl ((M.arg hx)) rfl (by first | omega | (simp; done) | (simp; omega))) ?_; clear S a; intro a S
              try simp only [Int.toNat_natCast, Nat.mul_one, Nat.zero_add] at S
              refine qt_y S rfl rfl rfl (fun w M => y_fieldAddr (k := 0) S (by kernel_rfl) rfl) ?_; clear S a; intro a S
              refine qt_y S rfl rfl rfl (fun w M => y_load S (by kernel_rfl) rfl (wcells_block (M.arg hx) (hqq (by omega)).1)) ?_; clear S a; intro a S
              refine qt_y S rfl rfl rfl (fun w M => y_int S rfl rfl rfl) ?_; clear S a; intro a S
              refine qt_y S rfl rfl rfl (fun w M => y_pickT S rfl rfl) ?_; clear S a; intro a S
              refine qt_y S rfl rfl rfl (fun w M => y_pickF S rfl rfl) ?_; clear S a; intro a S
              refine wpQuiet_nil ?_; clear M; intro w3 M
              replace S := S.sub [(0, _), (3, _), (10, _), (44, _)] rfl
              refine then_normal ?_
              refine st_split (t := 44) S rfl ?_ ?_
              · clear S; intro h44 S
                first | replace h44 := nrmA h44 | replace h44 := nrmB h44 | skip
                first | replace h44 := nrm1 h44 | replace h44 := nrm2 h44 | replace h44 := nrm3 h44 | replace h44 := nrm4 h44 | replace h44 := nrm5 h44 | replace h44 := nrm6 h44 | replace h44 := of_decide_eq_true h44 | replace h44 := of_decide_eq_false h44 | skip
                refine st_condT S rfl ?_
                refine wp_seq ?_
                -- region 7 ref.go:31
                refine wp_region_lit ?_
                refine st_y S rfl rfl rfl (y_assign S rfl) ?_; clear S a; intro a S
                refine wpList_nil ?_
                replace S := S.sub [(0, _), (3, _), (10, _), (44, _), (2, _)] rfl
                refine then_normal ?_
                refine wp_ret ?_
                refine block_ret ?_
                refine then_ret ?_
                refine then_ret ?_
                refine block_ret ?_
                refine then_ret ?_
                refine end_one S rfl (res_tmp rfl) ?_
                refine ⟨ret_bool ?_, M.below⟩; clear S M; unfold writtenB; rw [hpre]; unfold risingB
                have hno : ¬ (lastB x k < p.block ∧ p.block < 32) := by first | omega | (have := (hqq (by omega)).2; omega)
                rw [decide_eq_false hno]; simp
              · clear S; intro h44 S
                first | replace h44 := nrmA h44 | replace h44 := nrmB h44 | skip
                first | replace h44 := nrm1 h44 | replace h44 := nrm2 h44 | replace h44 := nrm3 h44 | replace h44 := nrm4 h44 | replace h44 := nrm5 h44 | replace h44 := nrm6 h44 | replace h44 := of_decide_eq_true h44 | replace h44 := of_decide_eq_false h44 | skip
                refine st_condF S rfl ?_
                refine wp_skip ?_
                refine block_normal ?_
                refine then_normal ?_
                -- region 5 ref.go:29
                refine wp_region_lit ?_
                refine st_y S rfl rfl rfl (y_move S rfl) ?_; clear S a; intro a S
                (first | refine st_y S rfl rfl rfl (y_addN S rfl rfl (by omega)) ?_ | refine st_y S rfl rfl rfl (y_int S rfl rfl rfl) ?_); clear S a; intro a S
                refine st_y S rfl rfl rfl (y_assign S rfl) ?_; clear S a; intro a S
                refine wpList_nil ?_
                replace S := S.sub [(0, _), (10, _), (44, _), (3, _)] rfl
                refine then_normal ?_
                refine ⟨x.length - (k + 1), by omega, k + 1, by omega, rfl, S.sub _ rfl, M, ?_, by rw [hlp]; omega⟩
                have hyes : lastB x k < p.block ∧ p.block < 32 := by
                  rcases Nat.eq_zero_or_pos k with h0 | h0
                  · subst h0; simp [lastB]; omega
                  · have := (hqq h0).2; omega
                rw [hpre, hlp]; unfold risingB; rw [decide_eq_true hyes]; cases hd : x.drop (k + 1) <;> simp [risingB]
            · clear S; intro h30 S
              first | replace h30 := nrmA h30 | replace h30 := nrmB h30 | skip
              first | replace h30 := nrm1 h30 | replace h30 := nrm2 h30 | replace h30 := nrm3 h30 | replace h30 := nrm4 h30 | replace h30 := nrm5 h30 | replace h30 := nrm6 h30 | replace h30 := of_decide_eq_true h30 | replace h30 := of_decide_eq_false h30 | skip
              refine qt_no S rfl rfl rfl ?_; clear S a; intro a S
              refine qt_no S rfl rfl rfl ?_; clear S a; intro a S
              refine qt_no S rfl rfl rfl ?_; clear S a; intro a S
              refine qt_no S rfl rfl rfl ?_; clear S a; intro a S
              refine qt_no S rfl rfl rfl ?_; clear S a; intro a S
              refine qt_no S rfl rfl rfl ?_; clear S a; intro a S
              refine qt_no S rfl rfl rfl ?_; clear S a; intro a S
              refine qt_no S rfl rfl rfl ?_; clear S a; intro a S
              refine qt_no S rfl rfl rfl ?_; clear S a; intro a S
              refine qt_no S rfl rfl rfl ?_; clear S a; intro a S
              refine qt_no S rfl rfl rfl ?_; clear S a; intro a S
              refine qt_no S rfl rfl rfl ?_; clear S a; intro a S
              refine qt_y S rfl rfl rfl (fun w M => y_pickF S rfl rfl) ?_; clear S a; intro a S
              refine qt_y S rfl rfl rfl (fun w M => y_pickF S rfl rfl) ?_; clear S a; intro a S
              refine wpQuiet_nil ?_; clear M; intro w4 M
              replace S := S.sub [(0, _), (3, _), (10, _), (44, _)] rfl
              refine then_normal ?_
              refine st_condF S rfl ?_
              refine wp_skip ?_
              refine block_normal ?_
              refine then_normal ?_
              -- region 5 ref.go:29
              refine wp_region_lit ?_
              refine st_y S rfl rfl rfl (y_move S rfl) ?_; clear S a; intro a S
              (first | refine st_y S rfl rfl rfl (y_addN S rfl rfl (by omega)) ?_ | refine st_y S rfl rfl rfl (y_int S rfl rfl rfl) ?_); clear S a; intro a S
              refine st_y S rfl rfl rfl (y_assign S rfl) ?_; clear S a; intro a S
              refine wpList_nil ?_
              replace S := S.sub [(0, _), (10, _), (44, _), (3, _)] rfl
              refine then_normal ?_
              refine ⟨x.length - (k + 1), by omega, k + 1, by omega, rfl, S.sub _ rfl, M, ?_, by rw [hlp]; omega⟩
              have hyes : lastB x k < p.block ∧ p.block < 32 := by
                rcases Nat.eq_zero_or_pos k with h0 | h0
                · subst h0; simp [lastB]; omega
                · have := (hqq h0).2; omega
              rw [hpre, hlp]; unfold risingB; rw [decide_eq_true hyes]; cases hd : x.drop (k + 1) <;> simp [risingB]
      · clear S; intro h10 S
        first | replace h10 := nrmA h10 | replace h10 := nrmB h10 | skip
        first | replace h10 := nrm1 h10 | replace h10 := nrm2 h10 | replace h10 := nrm3 h10 | replace h10 := nrm4 h10 | replace h10 := nrm5 h10 | replace h10 := nrm6 h10 | replace h10 := of_decide_eq_true h10 | replace h10 := of_decide_eq_false h10 | skip
        refine st_condF S rfl ?_
        refine wp_exit ?_
        refine then_exit ?_
        refine then_exit ?_
        refine block_hit ?_
        refine then_normal ?_
        refine wp_seq ?_
        -- region 8 ref.go:34
        refine wp_region_lit ?_
        refine st_y S rfl rfl rfl (y_assign S rfl) ?_; clear S a; intro a S
        refine wpList_nil ?_
        replace S := S.sub [(0, _), (3, _), (10, _), (2, _)] rfl
        refine then_normal ?_
        refine wp_ret ?_
        refine end_one S rfl (res_tmp rfl) ?_
        obtain rfl : k = x.length := by omega
        refine ⟨ret_bool ?_, M.below⟩; unfold writtenB; rw [decide_eq_true (by omega), hpre, List.drop_length]; rfl
theorem sameWrites_any (va vb : Value) (x y : List Wr) (w : World) (hx : Ws 0 w.heap.size w va x) (hy : Ws 0 w.heap.size w vb y) :
    Calls Try.prog 50 #[va, vb] w fun e w' => e = .returned (.bool (eqWs x y)) ∧ Below w.heap.size w w' := by
  have M := Mem.start w
  have hl := hx.2.1
  unfold maxLen at hl
  have hne : x.length ≠ y.length → eqWs x y = false := fun h => by
    cases e : eqWs x y with
    | false => rfl
    | true => exact absurd (by rw [eqWs_iff.1 e]) h
  refine calls_enter Try.func50 rfl 26 rfl rfl ?_; intro a S
  refine wp_seq ?_
  -- region 0 ref.go:38
  refine wp_region_lit ?_
  refine st_y S rfl rfl rfl (y_assign S rfl) ?_; clear S a; intro a S
  refine wpList_nil ?_
  replace S := S.sub [(0, _), (1, _), (4, _)] rfl
  refine then_normal ?_
  refine wp_seq ?_
  refine wp_seq ?_
  -- region 1 ref.go:39
  refine wp_region_lit ?_
  refine st_y S rfl rfl rfl (y_move S rfl) ?_; clear S a; intro a S
  refine st_y S rfl rfl rfl (y_lenR (E := 67) S rfl (M.arg hx) (by kernel_rfl)) ?_; clear S a; intro a S
  refine st_y S rfl rfl rfl (y_move S rfl) ?_; clear S a; intro a S
  refine st_y S rfl rfl rfl (y_lenR (E := 67) S rfl (M.arg hy) (by kernel_rfl)) ?_; clear S a; intro a S
  refine st_y S rfl rfl rfl (y_int S rfl rfl rfl) ?_; clear S a; intro a S
  refine wpList_nil ?_
  replace S := S.sub [(0, _), (1, _), (4, _), (10, _)] rfl
  refine then_normal ?_
  refine st_split (t := 10) S rfl ?_ ?_
  · clear S; intro h10 S
    first | replace h10 := nrmA h10 | replace h10 := nrmB h10 | skip
    first | replace h10 := nrm1 h10 | replace h10 := nrm2 h10 | replace h10 := nrm3 h10 | replace h10 := nrm4 h10 | replace h10 := nrm5 h10 | replace h10 := nrm6 h10 | replace h10 := of_decide_eq_true h10 | replace h10 := of_decide_eq_false h10 | skip
    refine st_condT S rfl ?_
    refine wp_seq ?_
    -- region 2 ref.go:40
    refine wp_region_lit ?_
    refine st_y S rfl rfl rfl (y_assign S rfl) ?_; clear S a; intro a S
    refine wpList_nil ?_
    replace S := S.sub [(0, _), (1, _), (10, _), (4, _)] rfl
    refine then_normal ?_
    refine wp_ret ?_
    refine then_ret ?_
    refine end_one S rfl (res_tmp rfl) ?_
    exact ⟨ret_bool (hne (by omega)).symm, M.below⟩
  · clear S; intro h10 S
    first | replace h10 := nrmA h10 | replace h10 := nrmB h10 | skip
    first | replace h10 := nrm1 h10 | replace h10 := nrm2 h10 | replace h10 := nrm3 h10 | replace h10 := nrm4 h10 | replace h10 := nrm5 h10 | replace h10 := nrm6 h10 | replace h10 := of_decide_eq_true h10 | replace h10 := of_decide_eq_false h10 | skip
    refine st_condF S rfl ?_
    refine wp_skip ?_
    refine then_normal ?_
    refine wp_seq ?_
    refine wp_seq ?_
    -- region 3 ref.go:42
    refine wp_region_lit ?_
    refine st_y S rfl rfl rfl (y_assign S rfl) ?_; clear S a; intro a S
    refine wpList_nil ?_
    replace S := S.sub [(0, _), (1, _), (4, _), (10, _), (5, _)] rfl
    refine then_normal ?_
    refine wp_block ?_
    refine wp_loop_g (fun m a w' => ∃ (k : Nat), k ≤ x.length ∧ m = x.length - k ∧ Sees 26 a [(0, va), (1, vb), (5, .int .i64 (k : Int))] ∧ Mem w w' [] ∧ ∀ j, j < k → x[j]? = y[j]?) (x.length) ?_ ?_
    · skip
      exact ⟨0, Nat.zero_le _, rfl, S.sub _ rfl, M, fun j h => by omega⟩
    · clear S M a; intro m a wl
      rintro ⟨k, hk, rfl, S, M, hpre⟩
      refine wp_seq ?_
      refine wp_seq ?_
      -- region 4 ref.go:42
      refine wp_region_lit ?_
      refine st_y S rfl rfl rfl (y_move S rfl) ?_; clear S a; intro a S
      refine st_y S rfl rfl rfl (y_move S rfl) ?_; clear S a; intro a S
      refine st_y S rfl rfl rfl (y_lenR (E := 67) S rfl ((M.arg hx)) (by kernel_rfl)) ?_; clear S a; intro a S
      refine st_y S rfl rfl rfl (y_int S rfl rfl rfl) ?_; clear S a; intro a S
      refine wpList_nil ?_
      replace S := S.sub [(0, _), (1, _), (5, _), (14, _)] rfl
      refine then_normal ?_
      refine st_split (t := 14) S rfl ?_ ?_
      · clear S; intro h14 S
        first | replace h14 := nrmA h14 | replace h14 := nrmB h14 | skip
        first | replace h14 := nrm1 h14 | replace h14 := nrm2 h14 | replace h14 := nrm3 h14 | replace h14 := nrm4 h14 | replace h14 := nrm5 h14 | replace h14 := nrm6 h14 | replace h14 := of_decide_eq_true h14 | replace h14 := of_decide_eq_false h14 | skip
        refine st_condT S rfl ?_
        refine wp_skip ?_
        refine then_normal ?_
        refine wp_seq ?_
        refine wp_block ?_
        refine wp_seq ?_
        -- region 6 ref.go:43
        obtain ⟨p, hp⟩ : ∃ p, x[k]? = some p := ⟨_, List.getElem?_eq_getElem (by omega)⟩
        obtain ⟨q, hq⟩ : ∃ q, y[k]? = some q := ⟨_, List.getElem?_eq_getElem (by omega)⟩
        refine wp_quiet M (by kernel_rfl) (by kernel_rfl) ?_
        refine qt_y S rfl rfl rfl (fun w M => y_move S rfl) ?_; clear S a; intro a S
        refine qt_y S rfl rfl rfl (fun w M => y_move S rfl) ?_; clear S a; intro a S
        refine qt_y S rfl rfl rfl (fun w M => y_indexR (e := 67) (sz := 9) S (by kernel_rfl) rfl ((M.arg hx)) rfl (by first | omega | (simp; done) | (simp; omega))) ?_; clear S a; intro a S
        try simp only [Int.toNat_natCast, Nat.mul_one, Nat.zero_add] at S
        refine qt_y S rfl rfl rfl (fun w M => y_loadAgg S (by kernel_rfl) rfl rfl ((M.arg hx).at_.row (i := k) (wcells_get hp) rfl)) ?_; clear S a; intro a S
        refine qt_y S rfl rfl rfl (fun w M => y_move S rfl) ?_; clear S a; intro a S
        refine qt_y S rfl rfl rfl (fun w M => y_move S rfl) ?_; clear S a; intro a S
        refine qt_y S rfl rfl rfl (fun w M => y_indexR (e := 67) (sz := 9) S (by kernel_rfl) rfl ((M.arg hy)) rfl (by first | omega | (simp; done) | (simp; omega))) ?_; clear S a; intro a S
        try simp only [Int.toNat_natCast, Nat.mul_one, Nat.zero_add] at S
        refine qt_y S rfl rfl rfl (fun w M => y_loadAgg S (by kernel_rfl) rfl rfl ((M.arg hy).at_.row (i := k) (wcells_get hq) rfl)) ?_; clear S a; intro a S
        refine qt_y S rfl rfl rfl (fun w M => y_neqG (by kernel_rfl) S rfl rfl (fun w => equalWr 9997 p q w)) ?_; clear S a; intro a S
        refine wpQuiet_nil ?_; clear M; intro w1 M
        replace S := S.sub [(0, _), (1, _), (5, _), (14, _), (25, _)] rfl
        refine then_normal ?_
        refine st_split (t := 25) S rfl ?_ ?_
        · clear S; intro h25 S
          refine st_condT S rfl ?_
          refine wp_seq ?_
          -- region 7 ref.go:44
          refine wp_region_lit ?_
          refine st_y S rfl rfl rfl (y_assign S rfl) ?_; clear S a; intro a S
          refine wpList_nil ?_
          replace S := S.sub [(0, _), (1, _), (5, _), (14, _), (25, _), (4, _)] rfl
          refine then_normal ?_
          refine wp_ret ?_
          refine block_ret ?_
          refine then_ret ?_
          refine then_ret ?_
          refine block_ret ?_
          refine then_ret ?_
          refine end_one S rfl (res_tmp rfl) ?_
          refine ⟨ret_bool ?_, M.below⟩
          cases e : eqWs x y with
          | false => rfl
          | true =>
            rw [eqWs_iff.1 e, hq] at hp
            cases hp
            rw [Wr.eqb_iff.2 rfl] at h25
            cases h25
        · clear S; intro h25 S
          refine st_condF S rfl ?_
          refine wp_skip ?_
          refine block_normal ?_
          refine then_normal ?_
          -- region 5 ref.go:42
          refine wp_region_lit ?_
          refine st_y S rfl rfl rfl (y_move S rfl) ?_; clear S a; intro a S
          (first | refine st_y S rfl rfl rfl (y_addN S rfl rfl (by omega)) ?_ | refine st_y S rfl rfl rfl (y_int S rfl rfl rfl) ?_); clear S a; intro a S
          refine st_y S rfl rfl rfl (y_assign S rfl) ?_; clear S a; intro a S
          refine wpList_nil ?_
          replace S := S.sub [(0, _), (1, _), (14, _), (25, _), (5, _)] rfl
          refine then_normal ?_
          refine ⟨x.length - (k + 1), by omega, k + 1, by omega, rfl, S.sub _ rfl, M, fun j hj => ?_⟩
          rcases Nat.lt_or_ge j k with h | h
          · exact hpre j h
          · obtain rfl : j = k := by omega
            rw [hp, hq, (Wr.eqb_iff (a := p) (b := q)).1 (by simpa using h25)]
      · clear S; intro h14 S
        first | replace h14 := nrmA h14 | replace h14 := nrmB h14 | skip
        first | replace h14 := nrm1 h14 | replace h14 := nrm2 h14 | replace h14 := nrm3 h14 | replace h14 := nrm4 h14 | replace h14 := nrm5 h14 | replace h14 := nrm6 h14 | replace h14 := of_decide_eq_true h14 | replace h14 := of_decide_eq_false h14 | skip
        refine st_condF S rfl ?_
        refine wp_exit ?_
        refine then_exit ?_
        refine then_exit ?_
        refine block_hit ?_
        refine then_normal ?_
        refine wp_seq ?_
        -- region 8 ref.go:47
        refine wp_region_lit ?_
        refine st_y S rfl rfl rfl (y_assign S rfl) ?_; clear S a; intro a S
        refine wpList_nil ?_
        replace S := S.sub [(0, _), (1, _), (5, _), (14, _), (4, _)] rfl
        refine then_normal ?_
        refine wp_ret ?_
        refine end_one S rfl (res_tmp rfl) ?_
        obtain rfl : k = x.length := by omega
        refine ⟨ret_bool (eqWs_iff.2 (List.ext_getElem? fun j => ?_)).symm, M.below⟩
        by_cases hj : j < x.length
        · exact hpre j hj
        · rw [List.getElem?_eq_none (by omega), List.getElem?_eq_none (by omega)]
theorem rSame_any (a b : Rc) (va vb : Value) (x y : List Wr) (w : World) (hx : Ws 0 w.heap.size w va x) (hy : Ws 0 w.heap.size w vb y) :
    Calls Try.prog 24 #[.agg (a.cells va), .agg (b.cells vb)] w fun e w' => e = .returned (.bool (a.same b x y)) ∧ Below w.heap.size w w' := by
  obtain ⟨aa, ca, rfl, -, -⟩ := hx.form
  obtain ⟨ab, cb, rfl, -, -⟩ := hy.form
  have M := Mem.start w
  generalize hr : a.same b x y = R
  refine calls_enter Try.func24 rfl 66 rfl rfl ?_; intro a S
  refine wp_seq ?_
  -- region 0 ref.go:51
  refine wp_region_lit ?_
  refine st_box S M rfl rfl rfl #[_, _, _, _, _, _, _, _, _, _, _, _] rfl ?_; clear S M a; intro a w1 b1 S M hB
  refine st_box S M rfl rfl rfl #[_, _, _, _, _, _, _, _, _, _, _, _] rfl ?_; clear S M a; intro a w2 b2 S M hB
  refine st_y S rfl rfl rfl (y_assign S rfl) ?_; clear S a; intro a S
  refine wpList_nil ?_
  replace S := S.sub [(0, _), (1, _), (2, _), (3, _), (4, _)] rfl
  refine then_normal ?_
  refine wp_seq ?_
  -- region 1 ref.go:52
  refine wp_region_lit ?_
  refine st_y S rfl rfl rfl (y_fieldAddr (k := 0) S (by kernel_rfl) rfl) ?_; clear S a; intro a S
  refine st_y S rfl rfl rfl (y_load S (by kernel_rfl) rfl (M.cell 1 rfl rfl)) ?_; clear S a; intro a S
  refine st_y S rfl rfl rfl (y_fieldAddr (k := 0) S (by kernel_rfl) rfl) ?_; clear S a; intro a S
  refine st_y S rfl rfl rfl (y_load S (by kernel_rfl) rfl (M.cell 0 rfl rfl)) ?_; clear S a; intro a S
  refine st_y S rfl rfl rfl (y_int S rfl rfl rfl) ?_; clear S a; intro a S
  refine st_y S rfl rfl rfl (y_move S rfl) ?_; clear S a; intro a S
  refine st_split (t := 10) S rfl ?_ ?_
  · clear S; intro h10 S
    refine st_y S rfl rfl rfl (y_fieldAddr (k := 1) S (by kernel_rfl) rfl) ?_; clear S a; intro a S
    refine st_y S rfl rfl rfl (y_loadAgg (cs := [_, _, _]) S (by kernel_rfl) rfl rfl (M.cellsAt (k := 3) 1 rfl rfl)) ?_; clear S a; intro a S
    refine st_y S rfl rfl rfl (y_fieldAddr (k := 1) S (by kernel_rfl) rfl) ?_; clear S a; intro a S
    refine st_y S rfl rfl rfl (y_loadAgg (cs := [_, _, _]) S (by kernel_rfl) rfl rfl (M.cellsAt (k := 3) 0 rfl rfl)) ?_; clear S a; intro a S
    refine st_y S rfl rfl rfl (y_eqlG (by kernel_rfl) S rfl rfl (fun w => equalNm 9998 ⟨_, _, _⟩ ⟨_, _, _⟩ w)) ?_; clear S a; intro a S
    refine st_y S rfl rfl rfl (y_pickT S rfl rfl) ?_; clear S a; intro a S
    refine st_y S rfl rfl rfl (y_move S rfl) ?_; clear S a; intro a S
    refine st_split (t := 17) S rfl ?_ ?_
    · clear S; intro h17 S
      refine st_y S rfl rfl rfl (y_fieldAddr (k := 4) S (by kernel_rfl) rfl) ?_; clear S a; intro a S
      refine st_y S rfl rfl rfl (y_load S (by kernel_rfl) rfl (M.cell 1 rfl rfl)) ?_; clear S a; intro a S
      refine st_y S rfl rfl rfl (y_fieldAddr (k := 4) S (by kernel_rfl) rfl) ?_; clear S a; intro a S
      refine st_y S rfl rfl rfl (y_load S (by kernel_rfl) rfl (M.cell 0 rfl rfl)) ?_; clear S a; intro a S
      refine st_y S rfl rfl rfl (y_eqlBool (by kernel_rfl) S rfl rfl) ?_; clear S a; intro a S
      refine st_y S rfl rfl rfl (y_pickT S rfl rfl) ?_; clear S a; intro a S
      refine st_y S rfl rfl rfl (y_move S rfl) ?_; clear S a; intro a S
      refine st_split (t := 24) S rfl ?_ ?_
      · clear S; intro h24 S
        refine st_y S rfl rfl rfl (y_fieldAddr (k := 5) S (by kernel_rfl) rfl) ?_; clear S a; intro a S
        refine st_y S rfl rfl rfl (y_load S (by kernel_rfl) rfl (M.cell 1 rfl rfl)) ?_; clear S a; intro a S
        refine st_y S rfl rfl rfl (y_fieldAddr (k := 5) S (by kernel_rfl) rfl) ?_; clear S a; intro a S
        refine st_y S rfl rfl rfl (y_load S (by kernel_rfl) rfl (M.cell 0 rfl rfl)) ?_; clear S a; intro a S
        refine st_call (xs := [(Operand.tmp 26), (Operand.tmp 28)]) S (enters_of Try.func50 (by decide) rfl) rfl rfl rfl (sameWrites_any _ _ x y _ (M.argW hx) (M.argW hy)) ?_
        rintro _ w3 ⟨rfl, hK⟩; refine ⟨_, rfl, ?_⟩; clear S a; intro a S; replace M := M.grow hK
        refine st_y S rfl rfl rfl (y_pickT S rfl rfl) ?_; clear S a; intro a S
        refine st_y S rfl rfl rfl (y_move S rfl) ?_; clear S a; intro a S
        refine st_split (t := 31) S rfl ?_ ?_
        · clear S; intro h31 S
          refine st_y S rfl rfl rfl (y_fieldAddr (k := 6) S (by kernel_rfl) rfl) ?_; clear S a; intro a S
          refine st_y S rfl rfl rfl (y_load S (by kernel_rfl) rfl (M.cell 1 rfl rfl)) ?_; clear S a; intro a S
          refine st_y S rfl rfl rfl (y_fieldAddr (k := 6) S (by kernel_rfl) rfl) ?_; clear S a; intro a S
          refine st_y S rfl rfl rfl (y_load S (by kernel_rfl) rfl (M.cell 0 rfl rfl)) ?_; clear S a; intro a S
          refine st_y S rfl rfl rfl (y_int S rfl rfl rfl) ?_; clear S a; intro a S
          refine st_y S rfl rfl rfl (y_pickT S rfl rfl) ?_; clear S a; intro a S
          refine st_y S rfl rfl rfl (y_move S rfl) ?_; clear S a; intro a S
          refine st_split (t := 38) S rfl ?_ ?_
          · clear S; intro h38 S
            refine st_y S rfl rfl rfl (y_fieldAddr (k := 7) S (by kernel_rfl) rfl) ?_; clear S a; intro a S
            refine st_y S rfl rfl rfl (y_load S (by kernel_rfl) rfl (M.cell 1 rfl rfl)) ?_; clear S a; intro a S
            refine st_y S rfl rfl rfl (y_fieldAddr (k := 7) S (by kernel_rfl) rfl) ?_; clear S a; intro a S
            refine st_y S rfl rfl rfl (y_load S (by kernel_rfl) rfl (M.cell 0 rfl rfl)) ?_; clear S a; intro a S
            refine st_y S rfl rfl rfl (y_int S rfl rfl rfl) ?_; clear S a; intro a S
            refine st_y S rfl rfl rfl (y_pickT S rfl rfl) ?_; clear S a; intro a S
            refine st_y S rfl rfl rfl (y_move S rfl) ?_; clear S a; intro a S
            refine st_split (t := 45) S rfl ?_ ?_
            · clear S; intro h45 S
              refine st_y S rfl rfl rfl (y_fieldAddr (k := 8) S (by kernel_rfl) rfl) ?_; clear S a; intro a S
              refine st_y S rfl rfl rfl (y_load S (by kernel_rfl) rfl (M.cell 1 rfl rfl)) ?_; clear S a; intro a S
              refine st_y S rfl rfl rfl (y_fieldAddr (k := 8) S (by kernel_rfl) rfl) ?_; clear S a; intro a S
              refine st_y S rfl rfl rfl (y_load S (by kernel_rfl) rfl (M.cell 0 rfl rfl)) ?_; clear S a; intro a S
              refine st_y S rfl rfl rfl (y_int S rfl rfl rfl) ?_; clear S a; intro a S
              refine st_y S rfl rfl rfl (y_pickT S rfl rfl) ?_; clear S a; intro a S
              refine st_y S rfl rfl rfl (y_move S rfl) ?_; clear S a; intro a S
              refine st_split (t := 52) S rfl ?_ ?_
              · clear S; intro h52 S
                refine st_y S rfl rfl rfl (y_fieldAddr (k := 9) S (by kernel_rfl) rfl) ?_; clear S a; intro a S
                refine st_y S rfl rfl rfl (y_loadAgg (cs := [_, _]) S (by kernel_rfl) rfl rfl (M.cellsAt (k := 2) 1 rfl rfl)) ?_; clear S a; intro a S
                refine st_y S rfl rfl rfl (y_fieldAddr (k := 9) S (by kernel_rfl) rfl) ?_; clear S a; intro a S
                refine st_y S rfl rfl rfl (y_loadAgg (cs := [_, _]) S (by kernel_rfl) rfl rfl (M.cellsAt (k := 2) 0 rfl rfl)) ?_; clear S a; intro a S
                refine st_y S rfl rfl rfl (y_eqlG (by kernel_rfl) S rfl rfl (fun w => equalCh 9998 _ _ _ _ w)) ?_; clear S a; intro a S
                refine st_y S rfl rfl rfl (y_pickT S rfl rfl) ?_; clear S a; intro a S
                refine st_y S rfl rfl rfl (y_move S rfl) ?_; clear S a; intro a S
                refine st_split (t := 59) S rfl ?_ ?_
                · clear S; intro h59 S
                  refine st_y S rfl rfl rfl (y_fieldAddr (k := 11) S (by kernel_rfl) rfl) ?_; clear S a; intro a S
                  refine st_y S rfl rfl rfl (y_load S (by kernel_rfl) rfl (M.cell 1 rfl rfl)) ?_; clear S a; intro a S
                  refine st_y S rfl rfl rfl (y_fieldAddr (k := 11) S (by kernel_rfl) rfl) ?_; clear S a; intro a S
                  refine st_y S rfl rfl rfl (y_load S (by kernel_rfl) rfl (M.cell 0 rfl rfl)) ?_; clear S a; intro a S
                  refine st_y S rfl rfl rfl (y_int S rfl rfl rfl) ?_; clear S a; intro a S
                  refine st_y S rfl rfl rfl (y_pickT S rfl rfl) ?_; clear S a; intro a S
                  refine st_y S rfl rfl rfl (y_assign S rfl) ?_; clear S a; intro a S
                  refine wpList_nil ?_
                  replace S := S.sub [(0, _), (1, _), (2, _), (3, _), (4, _)] rfl
                  refine then_normal ?_
                  refine wp_ret ?_
                  refine end_one S rfl (res_tmp rfl) ?_
                  refine ⟨ret_bool ?_, M.below⟩; rw [← hr]; clear S M; simp [Rc.same, *]
                · clear S; intro h59 S
                  refine st_no S rfl rfl rfl ?_; clear S a; intro a S
                  refine st_no S rfl rfl rfl ?_; clear S a; intro a S
                  refine st_no S rfl rfl rfl ?_; clear S a; intro a S
                  refine st_no S rfl rfl rfl ?_; clear S a; intro a S
                  refine st_no S rfl rfl rfl ?_; clear S a; intro a S
                  refine st_y S rfl rfl rfl (y_pickF S rfl rfl) ?_; clear S a; intro a S
                  refine st_y S rfl rfl rfl (y_assign S rfl) ?_; clear S a; intro a S
                  refine wpList_nil ?_
                  replace S := S.sub [(0, _), (1, _), (2, _), (3, _), (4, _)] rfl
                  refine then_normal ?_
                  refine wp_ret ?_
                  refine end_one S rfl (res_tmp rfl) ?_
                  refine ⟨ret_bool ?_, M.below⟩; rw [← hr]; clear S M; simp [Rc.same, *]
              · clear S; intro h52 S
                refine st_no S rfl rfl rfl ?_; clear S a; intro a S
                refine st_no S rfl rfl rfl ?_; clear S a; intro a S
                refine st_no S rfl rfl rfl ?_; clear S a; intro a S
                refine st_no S rfl rfl rfl ?_; clear S a; intro a S
                refine st_no S rfl rfl rfl ?_; clear S a; intro a S
                refine st_y S rfl rfl rfl (y_pickF S rfl rfl) ?_; clear S a; intro a S
                refine st_y S rfl rfl rfl (y_move S rfl) ?_; clear S a; intro a S
                refine st_no S rfl rfl rfl ?_; clear S a; intro a S
                refine st_no S rfl rfl rfl ?_; clear S a; intro a S
                refine st_no S rfl rfl rfl ?_; clear S a; intro a S
                refine st_no S rfl rfl rfl ?_; clear S a; intro a S
                refine st_no S rfl rfl rfl ?_; clear S a; intro a S
                refine st_y S rfl rfl rfl (y_pickF S rfl rfl) ?_; clear S a; intro a S
                refine st_y S rfl rfl rfl (y_assign S rfl) ?_; clear S a; intro a S
                refine wpList_nil ?_
                replace S := S.sub [(0, _), (1, _), (2, _), (3, _), (4, _)] rfl
                refine then_normal ?_
                refine wp_ret ?_
                refine end_one S rfl (res_tmp rfl) ?_
                refine ⟨ret_bool ?_, M.below⟩; rw [← hr]; clear S M; simp [Rc.same, *]
            · clear S; intro h45 S
              refine st_no S rfl rfl rfl ?_; clear S a; intro a S
              refine st_no S rfl rfl rfl ?_; clear S a; intro a S
              refine st_no S rfl rfl rfl ?_; clear S a; intro a S
              refine st_no S rfl rfl rfl ?_; clear S a; intro a S
              refine st_no S rfl rfl rfl ?_; clear S a; intro a S
              refine st_y S rfl rfl rfl (y_pickF S rfl rfl) ?_; clear S a; intro a S
              refine st_y S rfl rfl rfl (y_move S rfl) ?_; clear S a; intro a S
              refine st_no S rfl rfl rfl ?_; clear S a; intro a S
              refine st_no S rfl rfl rfl ?_; clear S a; intro a S
              refine st_no S rfl rfl rfl ?_; clear S a; intro a S
              refine st_no S rfl rfl rfl ?_; clear S a; intro a S
              refine st_no S rfl rfl rfl ?_; clear S a; intro a S
              refine st_y S rfl rfl rfl (y_pickF S rfl rfl) ?_; clear S a; intro a S
              refine st_y S rfl rfl rfl (y_move S rfl) ?_; clear S a; intro a S
              refine st_no S rfl rfl rfl ?_; clear S a; intro a S
              refine st_no S rfl rfl rfl ?_; clear S a; intro a S
              refine st_no S rfl rfl rfl ?_; clear S a; intro a S
              refine st_no S rfl rfl rfl ?_; clear S a; intro a S
              refine st_no S rfl rfl rfl ?_; clear S a; intro a S
              refine st_y S rfl rfl rfl (y_pickF S rfl rfl) ?_; clear S a; intro a S
              refine st_y S rfl rfl rfl (y_assign S rfl) ?_; clear S a; intro a S
              refine wpList_nil ?_
              replace S := S.sub [(0, _), (1, _), (2, _), (3, _), (4, _)] rfl
              refine then_normal ?_
              refine wp_ret ?_
              refine end_one S rfl (res_tmp rfl) ?_
              refine ⟨ret_bool ?_, M.below⟩; rw [← hr]; clear S M; simp [Rc.same, *]
          · clear S; intro h38 S
            refine st_no S rfl rfl rfl ?_; clear S a; intro a S
            refine st_no S rfl rfl rfl ?_; clear S a; intro a S
            refine st_no S rfl rfl rfl ?_; clear S a; intro a S
            refine st_no S rfl rfl rfl ?_; clear S a; intro a S
            refine st_no S rfl rfl rfl ?_; clear S a; intro a S
            refine st_y S rfl rfl rfl (y_pickF S rfl rfl) ?_; clear S a; intro a S
            refine st_y S rfl rfl rfl (y_move S rfl) ?_; clear S a; intro a S
            refine st_no S rfl rfl rfl ?_; clear S a; intro a S
            refine st_no S rfl rfl rfl ?_; clear S a; intro a S
            refine st_no S rfl rfl rfl ?_; clear S a; intro a S
            refine st_no S rfl rfl rfl ?_; clear S a; intro a S
            refine st_no S rfl rfl rfl ?_; clear S a; intro a S
            refine st_y S rfl rfl rfl (y_pickF S rfl rfl) ?_; clear S a; intro a S
            refine st_y S rfl rfl rfl (y_move S rfl) ?_; clear S a; intro a S
            refine st_no S rfl rfl rfl ?_; clear S a; intro a S
            refine st_no S rfl rfl rfl ?_; clear S a; intro a S
            refine st_no S rfl rfl rfl ?_; clear S a; intro a S
            refine st_no S rfl rfl rfl ?_; clear S a; intro a S
            refine st_no S rfl rfl rfl ?_; clear S a; intro a S
            refine st_y S rfl rfl rfl (y_pickF S rfl rfl) ?_; clear S a; intro a S
            refine st_y S rfl rfl rfl (y_move S rfl) ?_; clear S a; intro a S
            refine st_no S rfl rfl rfl ?_; clear S a; intro a S
            refine st_no S rfl rfl rfl ?_; clear S a; intro a S
            refine st_no S rfl rfl rfl ?_; clear S a; intro a S
            refine st_no S rfl rfl rfl ?_; clear S a; intro a S
            refine st_no S rfl rfl rfl ?_; clear S a; intro a S
            refine st_y S rfl rfl rfl (y_pickF S rfl rfl) ?_; clear S a; intro a S
            refine st_y S rfl rfl rfl (y_assign S rfl) ?_; clear S a; intro a S
            refine wpList_nil ?_
            replace S := S.sub [(0, _), (1, _), (2, _), (3, _), (4, _)] rfl
            refine then_normal ?_
            refine wp_ret ?_
            refine end_one S rfl (res_tmp rfl) ?_
            refine ⟨ret_bool ?_, M.below⟩; rw [← hr]; clear S M; simp [Rc.same, *]
        · clear S; intro h31 S
          refine st_no S rfl rfl rfl ?_; clear S a; intro a S
          refine st_no S rfl rfl rfl ?_; clear S a; intro a S
          refine st_no S rfl rfl rfl ?_; clear S a; intro a S
          refine st_no S rfl rfl rfl ?_; clear S a; intro a S
          refine st_no S rfl rfl rfl ?_; clear S a; intro a S
          refine st_y S rfl rfl rfl (y_pickF S rfl rfl) ?_; clear S a; intro a S
          refine st_y S rfl rfl rfl (y_move S rfl) ?_; clear S a; intro a S
          refine st_no S rfl rfl rfl ?_; clear S a; intro a S
          refine st_no S rfl rfl rfl ?_; clear S a; intro a S
          refine st_no S rfl rfl rfl ?_; clear S a; intro a S
          refine st_no S rfl rfl rfl ?_; clear S a; intro a S
          refine st_no S rfl rfl rfl ?_; clear S a; intro a S
          refine st_y S rfl rfl rfl (y_pickF S rfl rfl) ?_; clear S a; intro a S
          refine st_y S rfl rfl rfl (y_move S rfl) ?_; clear S a; intro a S
          refine st_no S rfl rfl rfl ?_; clear S a; intro a S
          refine st_no S rfl rfl rfl ?_; clear S a; intro a S
          refine st_no S rfl rfl rfl ?_; clear S a; intro a S
          refine st_no S rfl rfl rfl ?_; clear S a; intro a S
          refine st_no S rfl rfl rfl ?_; clear S a; intro a S
          refine st_y S rfl rfl rfl (y_pickF S rfl rfl) ?_; clear S a; intro a S
          refine st_y S rfl rfl rfl (y_move S rfl) ?_; clear S a; intro a S
          refine st_no S rfl rfl rfl ?_; clear S a; intro a S
          refine st_no S rfl rfl rfl ?_; clear S a; intro a S
          refine st_no S rfl rfl rfl ?_; clear S a; intro a S
          refine st_no S rfl rfl rfl ?_; clear S a; intro a S
          refine st_no S rfl rfl rfl ?_; clear S a; intro a S
          refine st_y S rfl rfl rfl (y_pickF S rfl rfl) ?_; clear S a; intro a S
          refine st_y S rfl rfl rfl (y_move S rfl) ?_; clear S a; intro a S
          refine st_no S rfl rfl rfl ?_; clear S a; intro a S
          refine st_no S rfl rfl rfl ?_; clear S a; intro a S
          refine st_no S rfl rfl rfl ?_; clear S a; intro a S
          refine st_no S rfl rfl rfl ?_; clear S a; intro a S
          refine st_no S rfl rfl rfl ?_; clear S a; intro a S
          refine st_y S rfl rfl rfl (y_pickF S rfl rfl) ?_; clear S a; intro a S
          refine st_y S rfl rfl rfl (y_assign S rfl) ?_; clear S a; intro a S
          refine wpList_nil ?_
          replace S := S.sub [(0, _), (1, _), (2, _), (3, _), (4, _)] rfl
          refine then_normal ?_
          refine wp_ret ?_
          refine end_one S rfl (res_tmp rfl) ?_
          refine ⟨ret_bool ?_, M.below⟩; rw [← hr]; clear S M; simp [Rc.same, *]
      · clear S; intro h24 S
        refine st_no S rfl rfl rfl ?_; clear S a; intro a S
        refine st_no S rfl rfl rfl ?_; clear S a; intro a S
        refine st_no S rfl rfl rfl ?_; clear S a; intro a S
        refine st_no S rfl rfl rfl ?_; clear S a; intro a S
        refine st_no S rfl rfl rfl ?_; clear S a; intro a S
        refine st_y S rfl rfl rfl (y_pickF S rfl rfl) ?_; clear S a; intro a S
        refine st_y S rfl rfl rfl (y_move S rfl) ?_; clear S a; intro a S
        refine st_no S rfl rfl rfl ?_; clear S a; intro a S
        refine st_no S rfl rfl rfl ?_; clear S a; intro a S
        refine st_no S rfl rfl rfl ?_; clear S a; intro a S
        refine st_no S rfl rfl rfl ?_; clear S a; intro a S
        refine st_no S rfl rfl rfl ?_; clear S a; intro a S
        refine st_y S rfl rfl rfl (y_pickF S rfl rfl) ?_; clear S a; intro a S
        refine st_y S rfl rfl rfl (y_move S rfl) ?_; clear S a; intro a S
        refine st_no S rfl rfl rfl ?_; clear S a; intro a S
        refine st_no S rfl rfl rfl ?_; clear S a; intro a S
        refine st_no S rfl rfl rfl ?_; clear S a; intro a S
        refine st_no S rfl rfl rfl ?_; clear S a; intro a S
        refine st_no S rfl rfl rfl ?_; clear S a; intro a S
        refine st_y S rfl rfl rfl (y_pickF S rfl rfl) ?_; clear S a; intro a S
        refine st_y S rfl rfl rfl (y_move S rfl) ?_; clear S a; intro a S
        refine st_no S rfl rfl rfl ?_; clear S a; intro a S
        refine st_no S rfl rfl rfl ?_; clear S a; intro a S
        refine st_no S rfl rfl rfl ?_; clear S a; intro a S
        refine st_no S rfl rfl rfl ?_; clear S a; intro a S
        refine st_no S rfl rfl rfl ?_; clear S a; intro a S
        refine st_y S rfl rfl rfl (y_pickF S rfl rfl) ?_; clear S a; intro a S
        refine st_y S rfl rfl rfl (y_move S rfl) ?_; clear S a; intro a S
        refine st_no S rfl rfl rfl ?_; clear S a; intro a S
        refine st_no S rfl rfl rfl ?_; clear S a; intro a S
        refine st_no S rfl rfl rfl ?_; clear S a; intro a S
        refine st_no S rfl rfl rfl ?_; clear S a; intro a S
        refine st_no S rfl rfl rfl ?_; clear S a; intro a S
        refine st_y S rfl rfl rfl (y_pickF S rfl rfl) ?_; clear S a; intro a S
        refine st_y S rfl rfl rfl (y_move S rfl) ?_; clear S a; intro a S
        refine st_no S rfl rfl rfl ?_; clear S a; intro a S
        refine st_no S rfl rfl rfl ?_; clear S a; intro a S
        refine st_no S rfl rfl rfl ?_; clear S a; intro a S
        refine st_no S rfl rfl rfl ?_; clear S a; intro a S
        refine st_no S rfl rfl rfl ?_; clear S a; intro a S
        refine st_y S rfl rfl rfl (y_pickF S rfl rfl) ?_; clear S a; intro a S
        refine st_y S rfl rfl rfl (y_assign S rfl) ?_; clear S a; intro a S
        refine wpList_nil ?_
        replace S := S.sub [(0, _), (1, _), (2, _), (3, _), (4, _)] rfl
        refine then_normal ?_
        refine wp_ret ?_
        refine end_one S rfl (res_tmp rfl) ?_
        refine ⟨ret_bool ?_, M.below⟩; rw [← hr]; clear S M; simp [Rc.same, *]
    · clear S; intro h17 S
      refine st_no S rfl rfl rfl ?_; clear S a; intro a S
      refine st_no S rfl rfl rfl ?_; clear S a; intro a S
      refine st_no S rfl rfl rfl ?_; clear S a; intro a S
      refine st_no S rfl rfl rfl ?_; clear S a; intro a S
      refine st_no S rfl rfl rfl ?_; clear S a; intro a S
      refine st_y S rfl rfl rfl (y_pickF S rfl rfl) ?_; clear S a; intro a S
      refine st_y S rfl rfl rfl (y_move S rfl) ?_; clear S a; intro a S
      refine st_no S rfl rfl rfl ?_; clear S a; intro a S
      refine st_no S rfl rfl rfl ?_; clear S a; intro a S
      refine st_no S rfl rfl rfl ?_; clear S a; intro a S
      refine st_no S rfl rfl rfl ?_; clear S a; intro a S
      refine st_no S rfl rfl rfl ?_; clear S a; intro a S
      refine st_y S rfl rfl rfl (y_pickF S rfl rfl) ?_; clear S a; intro a S
      refine st_y S rfl rfl rfl (y_move S rfl) ?_; clear S a; intro a S
      refine st_no S rfl rfl rfl ?_; clear S a; intro a S
      refine st_no S rfl rfl rfl ?_; clear S a; intro a S
      refine st_no S rfl rfl rfl ?_; clear S a; intro a S
      refine st_no S rfl rfl rfl ?_; clear S a; intro a S
      refine st_no S rfl rfl rfl ?_; clear S a; intro a S
      refine st_y S rfl rfl rfl (y_pickF S rfl rfl) ?_; clear S a; intro a S
      refine st_y S rfl rfl rfl (y_move S rfl) ?_; clear S a; intro a S
      refine st_no S rfl rfl rfl ?_; clear S a; intro a S
      refine st_no S rfl rfl rfl ?_; clear S a; intro a S
      refine st_no S rfl rfl rfl ?_; clear S a; intro a S
      refine st_no S rfl rfl rfl ?_; clear S a; intro a S
      refine st_no S rfl rfl rfl ?_; clear S a; intro a S
      refine st_y S rfl rfl rfl (y_pickF S rfl rfl) ?_; clear S a; intro a S
      refine st_y S rfl rfl rfl (y_move S rfl) ?_; clear S a; intro a S
      refine st_no S rfl rfl rfl ?_; clear S a; intro a S
      refine st_no S rfl rfl rfl ?_; clear S a; intro a S
      refine st_no S rfl rfl rfl ?_; clear S a; intro a S
      refine st_no S rfl rfl rfl ?_; clear S a; intro a S
      refine st_no S rfl rfl rfl ?_; clear S a; intro a S
      refine st_y S rfl rfl rfl (y_pickF S rfl rfl) ?_; clear S a; intro a S
      refine st_y S rfl rfl rfl (y_move S rfl) ?_; clear S a; intro a S
      refine st_no S rfl rfl rfl ?_; clear S a; intro a S
      refine st_no S rfl rfl rfl ?_; clear S a; intro a S
      refine st_no S rfl rfl rfl ?_; clear S a; intro a S
      refine st_no S rfl rfl rfl ?_; clear S a; intro a S
      refine st_no S rfl rfl rfl ?_; clear S a; intro a S
      refine st_y S rfl rfl rfl (y_pickF S rfl rfl) ?_; clear S a; intro a S
      refine st_y S rfl rfl rfl (y_move S rfl) ?_; clear S a; intro a S
      refine st_no S rfl rfl rfl ?_; clear S a; intro a S
      refine st_no S rfl rfl rfl ?_; clear S a; intro a S
      refine st_no S rfl rfl rfl ?_; clear S a; intro a S
      refine st_no S rfl rfl rfl ?_; clear S a; intro a S
      refine st_no S rfl rfl rfl ?_; clear S a; intro a S
      refine st_y S rfl rfl rfl (y_pickF S rfl rfl) ?_; clear S a; intro a S
      refine st_y S rfl rfl rfl (y_assign S rfl) ?_; clear S a; intro a S
      refine wpList_nil ?_
      replace S := S.sub [(0, _), (1, _), (2, _), (3, _), (4, _)] rfl
      refine then_normal ?_
      refine wp_ret ?_
      refine end_one S rfl (res_tmp rfl) ?_
      refine ⟨ret_bool ?_, M.below⟩; rw [← hr]; clear S M; simp [Rc.same, *]
  · clear S; intro h10 S
    refine st_no S rfl rfl rfl ?_; clear S a; intro a S
    refine st_no S rfl rfl rfl ?_; clear S a; intro a S
    refine st_no S rfl rfl rfl ?_; clear S a; intro a S
    refine st_no S rfl rfl rfl ?_; clear S a; intro a S
    refine st_no S rfl rfl rfl ?_; clear S a; intro a S
    refine st_y S rfl rfl rfl (y_pickF S rfl rfl) ?_; clear S a; intro a S
    refine st_y S rfl rfl rfl (y_move S rfl) ?_; clear S a; intro a S
    refine st_no S rfl rfl rfl ?_; clear S a; intro a S
    refine st_no S rfl rfl rfl ?_; clear S a; intro a S
    refine st_no S rfl rfl rfl ?_; clear S a; intro a S
    refine st_no S rfl rfl rfl ?_; clear S a; intro a S
    refine st_no S rfl rfl rfl ?_; clear S a; intro a S
    refine st_y S rfl rfl rfl (y_pickF S rfl rfl) ?_; clear S a; intro a S
    refine st_y S rfl rfl rfl (y_move S rfl) ?_; clear S a; intro a S
    refine st_no S rfl rfl rfl ?_; clear S a; intro a S
    refine st_no S rfl rfl rfl ?_; clear S a; intro a S
    refine st_no S rfl rfl rfl ?_; clear S a; intro a S
    refine st_no S rfl rfl rfl ?_; clear S a; intro a S
    refine st_no S rfl rfl rfl ?_; clear S a; intro a S
    refine st_y S rfl rfl rfl (y_pickF S rfl rfl) ?_; clear S a; intro a S
    refine st_y S rfl rfl rfl (y_move S rfl) ?_; clear S a; intro a S
    refine st_no S rfl rfl rfl ?_; clear S a; intro a S
    refine st_no S rfl rfl rfl ?_; clear S a; intro a S
    refine st_no S rfl rfl rfl ?_; clear S a; intro a S
    refine st_no S rfl rfl rfl ?_; clear S a; intro a S
    refine st_no S rfl rfl rfl ?_; clear S a; intro a S
    refine st_y S rfl rfl rfl (y_pickF S rfl rfl) ?_; clear S a; intro a S
    refine st_y S rfl rfl rfl (y_move S rfl) ?_; clear S a; intro a S
    refine st_no S rfl rfl rfl ?_; clear S a; intro a S
    refine st_no S rfl rfl rfl ?_; clear S a; intro a S
    refine st_no S rfl rfl rfl ?_; clear S a; intro a S
    refine st_no S rfl rfl rfl ?_; clear S a; intro a S
    refine st_no S rfl rfl rfl ?_; clear S a; intro a S
    refine st_y S rfl rfl rfl (y_pickF S rfl rfl) ?_; clear S a; intro a S
    refine st_y S rfl rfl rfl (y_move S rfl) ?_; clear S a; intro a S
    refine st_no S rfl rfl rfl ?_; clear S a; intro a S
    refine st_no S rfl rfl rfl ?_; clear S a; intro a S
    refine st_no S rfl rfl rfl ?_; clear S a; intro a S
    refine st_no S rfl rfl rfl ?_; clear S a; intro a S
    refine st_no S rfl rfl rfl ?_; clear S a; intro a S
    refine st_y S rfl rfl rfl (y_pickF S rfl rfl) ?_; clear S a; intro a S
    refine st_y S rfl rfl rfl (y_move S rfl) ?_; clear S a; intro a S
    refine st_no S rfl rfl rfl ?_; clear S a; intro a S
    refine st_no S rfl rfl rfl ?_; clear S a; intro a S
    refine st_no S rfl rfl rfl ?_; clear S a; intro a S
    refine st_no S rfl rfl rfl ?_; clear S a; intro a S
    refine st_no S rfl rfl rfl ?_; clear S a; intro a S
    refine st_y S rfl rfl rfl (y_pickF S rfl rfl) ?_; clear S a; intro a S
    refine st_y S rfl rfl rfl (y_move S rfl) ?_; clear S a; intro a S
    refine st_no S rfl rfl rfl ?_; clear S a; intro a S
    refine st_no S rfl rfl rfl ?_; clear S a; intro a S
    refine st_no S rfl rfl rfl ?_; clear S a; intro a S
    refine st_no S rfl rfl rfl ?_; clear S a; intro a S
    refine st_no S rfl rfl rfl ?_; clear S a; intro a S
    refine st_y S rfl rfl rfl (y_pickF S rfl rfl) ?_; clear S a; intro a S
    refine st_y S rfl rfl rfl (y_assign S rfl) ?_; clear S a; intro a S
    refine wpList_nil ?_
    replace S := S.sub [(0, _), (1, _), (2, _), (3, _), (4, _)] rfl
    refine then_normal ?_
    refine wp_ret ?_
    refine end_one S rfl (res_tmp rfl) ?_
    refine ⟨ret_bool ?_, M.below⟩; rw [← hr]; clear S M; simp [Rc.same, *]
theorem rChanged_any (s t : Int) (w : World) : Calls Try.prog 48 #[.agg #[.int .i64 s, .int .i64 t]] w fun e w' => e = .returned (.bool (changedB s t)) ∧ Below w.heap.size w w' := by
  have M := Mem.start w
  refine calls_enter Try.func48 rfl 27 rfl rfl ?_; intro a S
  refine wp_seq ?_
  -- region 0 ref.go:56
  refine wp_region_lit ?_
  refine st_box S M rfl rfl rfl #[_, _] rfl ?_; clear S M a; intro a w1 b1 S M hB
  refine st_y S rfl rfl rfl (y_assign S rfl) ?_; clear S a; intro a S
  refine wpList_nil ?_
  replace S := S.sub [(0, _), (1, _), (2, _)] rfl
  refine then_normal ?_
  refine wp_seq ?_
  refine wp_seq ?_
  -- region 1 ref.go:57
  refine wp_region_lit ?_
  refine st_y S rfl rfl rfl (y_fieldAddr (k := 0) S (by kernel_rfl) rfl) ?_; clear S a; intro a S
  refine st_y S rfl rfl rfl (y_load S (by kernel_rfl) rfl (M.cell 0 rfl rfl)) ?_; clear S a; intro a S
  refine st_y S rfl rfl rfl (y_int S rfl rfl rfl) ?_; clear S a; intro a S
  refine wpList_nil ?_
  replace S := S.sub [(0, _), (1, _), (2, _), (5, _)] rfl
  refine then_normal ?_
  refine st_split (t := 5) S rfl ?_ ?_
  · clear S; intro h5 S
    first | replace h5 := nrmA h5 | replace h5 := nrmB h5 | skip
    first | replace h5 := nrm1 h5 | replace h5 := nrm2 h5 | replace h5 := nrm3 h5 | replace h5 := nrm4 h5 | replace h5 := nrm5 h5 | replace h5 := nrm6 h5 | replace h5 := of_decide_eq_true h5 | replace h5 := of_decide_eq_false h5 | skip
    refine st_condT S rfl ?_
    refine wp_seq ?_
    -- region 2 ref.go:58
    refine wp_region_lit ?_
    refine st_y S rfl rfl rfl (y_fieldAddr (k := 1) S (by kernel_rfl) rfl) ?_; clear S a; intro a S
    refine st_y S rfl rfl rfl (y_load S (by kernel_rfl) rfl (M.cell 0 rfl rfl)) ?_; clear S a; intro a S
    refine st_y S rfl rfl rfl (y_int S rfl rfl rfl) ?_; clear S a; intro a S
    refine st_y S rfl rfl rfl (y_assign S rfl) ?_; clear S a; intro a S
    refine wpList_nil ?_
    replace S := S.sub [(0, _), (1, _), (5, _), (2, _)] rfl
    refine then_normal ?_
    refine wp_ret ?_
    refine then_ret ?_
    refine end_one S rfl (res_tmp rfl) ?_
    refine ⟨ret_bool ?_, M.below⟩; unfold changedB; rw [Bool.eq_iff_iff]; (first | (simp; done) | (simp; omega))
  · clear S; intro h5 S
    first | replace h5 := nrmA h5 | replace h5 := nrmB h5 | skip
    first | replace h5 := nrm1 h5 | replace h5 := nrm2 h5 | replace h5 := nrm3 h5 | replace h5 := nrm4 h5 | replace h5 := nrm5 h5 | replace h5 := nrm6 h5 | replace h5 := of_decide_eq_true h5 | replace h5 := of_decide_eq_false h5 | skip
    refine st_condF S rfl ?_
    refine wp_skip ?_
    refine then_normal ?_
    refine wp_seq ?_
    -- region 3 ref.go:60
    refine wp_region_lit ?_
    refine st_y S rfl rfl rfl (y_fieldAddr (k := 0) S (by kernel_rfl) rfl) ?_; clear S a; intro a S
    refine st_y S rfl rfl rfl (y_load S (by kernel_rfl) rfl (M.cell 0 rfl rfl)) ?_; clear S a; intro a S
    refine st_y S rfl rfl rfl (y_int S rfl rfl rfl) ?_; clear S a; intro a S
    refine st_y S rfl rfl rfl (y_move S rfl) ?_; clear S a; intro a S
    refine st_split (t := 12) S rfl ?_ ?_
    · clear S; intro h12 S
      first | replace h12 := nrmA h12 | replace h12 := nrmB h12 | skip
      first | replace h12 := nrm1 h12 | replace h12 := nrm2 h12 | replace h12 := nrm3 h12 | replace h12 := nrm4 h12 | replace h12 := nrm5 h12 | replace h12 := nrm6 h12 | replace h12 := of_decide_eq_true h12 | replace h12 := of_decide_eq_false h12 | skip
      refine st_y S rfl rfl rfl (y_fieldAddr (k := 0) S (by kernel_rfl) rfl) ?_; clear S a; intro a S
      refine st_y S rfl rfl rfl (y_load S (by kernel_rfl) rfl (M.cell 0 rfl rfl)) ?_; clear S a; intro a S
      refine st_y S rfl rfl rfl (y_int S rfl rfl rfl) ?_; clear S a; intro a S
      refine st_y S rfl rfl rfl (y_pickT S rfl rfl) ?_; clear S a; intro a S
      refine st_y S rfl rfl rfl (y_move S rfl) ?_; clear S a; intro a S
      refine st_split (t := 17) S rfl ?_ ?_
      · clear S; intro h17 S
        first | replace h17 := nrmA h17 | replace h17 := nrmB h17 | skip
        first | replace h17 := nrm1 h17 | replace h17 := nrm2 h17 | replace h17 := nrm3 h17 | replace h17 := nrm4 h17 | replace h17 := nrm5 h17 | replace h17 := nrm6 h17 | replace h17 := of_decide_eq_true h17 | replace h17 := of_decide_eq_false h17 | skip
        refine st_y S rfl rfl rfl (y_fieldAddr (k := 1) S (by kernel_rfl) rfl) ?_; clear S a; intro a S
        refine st_y S rfl rfl rfl (y_load S (by kernel_rfl) rfl (M.cell 0 rfl rfl)) ?_; clear S a; intro a S
        refine st_y S rfl rfl rfl (y_int S rfl rfl rfl) ?_; clear S a; intro a S
        refine st_y S rfl rfl rfl (y_pickT S rfl rfl) ?_; clear S a; intro a S
        refine st_y S rfl rfl rfl (y_move S rfl) ?_; clear S a; intro a S
        refine st_split (t := 22) S rfl ?_ ?_
        · clear S; intro h22 S
          first | replace h22 := nrmA h22 | replace h22 := nrmB h22 | skip
          first | replace h22 := nrm1 h22 | replace h22 := nrm2 h22 | replace h22 := nrm3 h22 | replace h22 := nrm4 h22 | replace h22 := nrm5 h22 | replace h22 := nrm6 h22 | replace h22 := of_decide_eq_true h22 | replace h22 := of_decide_eq_false h22 | skip
          refine st_y S rfl rfl rfl (y_fieldAddr (k := 1) S (by kernel_rfl) rfl) ?_; clear S a; intro a S
          refine st_y S rfl rfl rfl (y_load S (by kernel_rfl) rfl (M.cell 0 rfl rfl)) ?_; clear S a; intro a S
          refine st_y S rfl rfl rfl (y_int S rfl rfl rfl) ?_; clear S a; intro a S
          refine st_y S rfl rfl rfl (y_pickT S rfl rfl) ?_; clear S a; intro a S
          refine st_y S rfl rfl rfl (y_assign S rfl) ?_; clear S a; intro a S
          refine wpList_nil ?_
          replace S := S.sub [(0, _), (1, _), (5, _), (2, _)] rfl
          refine then_normal ?_
          refine wp_ret ?_
          refine end_one S rfl (res_tmp rfl) ?_
          refine ⟨ret_bool ?_, M.below⟩; unfold changedB; rw [Bool.eq_iff_iff]; (first | (simp; done) | (simp; omega))
        · clear S; intro h22 S
          first | replace h22 := nrmA h22 | replace h22 := nrmB h22 | skip
          first | replace h22 := nrm1 h22 | replace h22 := nrm2 h22 | replace h22 := nrm3 h22 | replace h22 := nrm4 h22 | replace h22 := nrm5 h22 | replace h22 := nrm6 h22 | replace h22 := of_decide_eq_true h22 | replace h22 := of_decide_eq_false h22 | skip
          refine st_no S rfl rfl rfl ?_; clear S a; intro a S
          refine st_no S rfl rfl rfl ?_; clear S a; intro a S
          refine st_no S rfl rfl rfl ?_; clear S a; intro a S
          refine st_y S rfl rfl rfl (y_pickF S rfl rfl) ?_; clear S a; intro a S
          refine st_y S rfl rfl rfl (y_assign S rfl) ?_; clear S a; intro a S
          refine wpList_nil ?_
          replace S := S.sub [(0, _), (1, _), (5, _), (2, _)] rfl
          refine then_normal ?_
          refine wp_ret ?_
          refine end_one S rfl (res_tmp rfl) ?_
          refine ⟨ret_bool ?_, M.below⟩; unfold changedB; rw [Bool.eq_iff_iff]; (first | (simp; done) | (simp; omega))
      · clear S; intro h17 S
        first | replace h17 := nrmA h17 | replace h17 := nrmB h17 | skip
        first | replace h17 := nrm1 h17 | replace h17 := nrm2 h17 | replace h17 := nrm3 h17 | replace h17 := nrm4 h17 | replace h17 := nrm5 h17 | replace h17 := nrm6 h17 | replace h17 := of_decide_eq_true h17 | replace h17 := of_decide_eq_false h17 | skip
        refine st_no S rfl rfl rfl ?_; clear S a; intro a S
        refine st_no S rfl rfl rfl ?_; clear S a; intro a S
        refine st_no S rfl rfl rfl ?_; clear S a; intro a S
        refine st_y S rfl rfl rfl (y_pickF S rfl rfl) ?_; clear S a; intro a S
        refine st_y S rfl rfl rfl (y_move S rfl) ?_; clear S a; intro a S
        refine st_no S rfl rfl rfl ?_; clear S a; intro a S
        refine st_no S rfl rfl rfl ?_; clear S a; intro a S
        refine st_no S rfl rfl rfl ?_; clear S a; intro a S
        refine st_y S rfl rfl rfl (y_pickF S rfl rfl) ?_; clear S a; intro a S
        refine st_y S rfl rfl rfl (y_assign S rfl) ?_; clear S a; intro a S
        refine wpList_nil ?_
        replace S := S.sub [(0, _), (1, _), (5, _), (2, _)] rfl
        refine then_normal ?_
        refine wp_ret ?_
        refine end_one S rfl (res_tmp rfl) ?_
        refine ⟨ret_bool ?_, M.below⟩; unfold changedB; rw [Bool.eq_iff_iff]; (first | (simp; done) | (simp; omega))
    · clear S; intro h12 S
      first | replace h12 := nrmA h12 | replace h12 := nrmB h12 | skip
      first | replace h12 := nrm1 h12 | replace h12 := nrm2 h12 | replace h12 := nrm3 h12 | replace h12 := nrm4 h12 | replace h12 := nrm5 h12 | replace h12 := nrm6 h12 | replace h12 := of_decide_eq_true h12 | replace h12 := of_decide_eq_false h12 | skip
      refine st_no S rfl rfl rfl ?_; clear S a; intro a S
      refine st_no S rfl rfl rfl ?_; clear S a; intro a S
      refine st_no S rfl rfl rfl ?_; clear S a; intro a S
      refine st_y S rfl rfl rfl (y_pickF S rfl rfl) ?_; clear S a; intro a S
      refine st_y S rfl rfl rfl (y_move S rfl) ?_; clear S a; intro a S
      refine st_no S rfl rfl rfl ?_; clear S a; intro a S
      refine st_no S rfl rfl rfl ?_; clear S a; intro a S
      refine st_no S rfl rfl rfl ?_; clear S a; intro a S
      refine st_y S rfl rfl rfl (y_pickF S rfl rfl) ?_; clear S a; intro a S
      refine st_y S rfl rfl rfl (y_move S rfl) ?_; clear S a; intro a S
      refine st_no S rfl rfl rfl ?_; clear S a; intro a S
      refine st_no S rfl rfl rfl ?_; clear S a; intro a S
      refine st_no S rfl rfl rfl ?_; clear S a; intro a S
      refine st_y S rfl rfl rfl (y_pickF S rfl rfl) ?_; clear S a; intro a S
      refine st_y S rfl rfl rfl (y_assign S rfl) ?_; clear S a; intro a S
      refine wpList_nil ?_
      replace S := S.sub [(0, _), (1, _), (5, _), (2, _)] rfl
      refine then_normal ?_
      refine wp_ret ?_
      refine end_one S rfl (res_tmp rfl) ?_
      refine ⟨ret_bool ?_, M.below⟩; unfold changedB; rw [Bool.eq_iff_iff]; (first | (simp; done) | (simp; omega))
def givenB (g t : Int) : Bool := bitsB g && bitsB t && (andV g t == 0)
theorem given_any (g t : Int) (w : World) : Calls Try.prog 46 #[.int .i64 g, .int .i64 t] w fun e w' => e = .returned (.bool (givenB g t)) ∧ Below w.heap.size w w' := by
  have M := Mem.start w
  refine calls_enter Try.func46 rfl 25 rfl rfl ?_; intro a S
  refine wp_seq ?_
  -- region 0 ref.go:64
  refine wp_region_lit ?_
  refine st_y S rfl rfl rfl (y_assign S rfl) ?_; clear S a; intro a S
  refine wpList_nil ?_
  replace S := S.sub [(0, _), (1, _), (4, _)] rfl
  refine then_normal ?_
  refine wp_seq ?_
  -- region 1 ref.go:65
  refine wp_region_lit ?_
  refine st_y S rfl rfl rfl (y_move S rfl) ?_; clear S a; intro a S
  refine st_y S rfl rfl rfl (y_int S rfl rfl rfl) ?_; clear S a; intro a S
  refine st_y S rfl rfl rfl (y_move S rfl) ?_; clear S a; intro a S
  refine st_split (t := 7) S rfl ?_ ?_
  · clear S; intro h7 S
    first | replace h7 := nrmA h7 | replace h7 := nrmB h7 | skip
    first | replace h7 := nrm1 h7 | replace h7 := nrm2 h7 | replace h7 := nrm3 h7 | replace h7 := nrm4 h7 | replace h7 := nrm5 h7 | replace h7 := nrm6 h7 | replace h7 := of_decide_eq_true h7 | replace h7 := of_decide_eq_false h7 | skip
    refine st_y S rfl rfl rfl (y_move S rfl) ?_; clear S a; intro a S
    refine st_y S rfl rfl rfl (y_int S rfl rfl rfl) ?_; clear S a; intro a S
    refine st_y S rfl rfl rfl (y_pickT S rfl rfl) ?_; clear S a; intro a S
    refine st_y S rfl rfl rfl (y_move S rfl) ?_; clear S a; intro a S
    refine st_split (t := 11) S rfl ?_ ?_
    · clear S; intro h11 S
      first | replace h11 := nrmA h11 | replace h11 := nrmB h11 | skip
      first | replace h11 := nrm1 h11 | replace h11 := nrm2 h11 | replace h11 := nrm3 h11 | replace h11 := nrm4 h11 | replace h11 := nrm5 h11 | replace h11 := nrm6 h11 | replace h11 := of_decide_eq_true h11 | replace h11 := of_decide_eq_false h11 | skip
      refine st_y S rfl rfl rfl (y_move S rfl) ?_; clear S a; intro a S
      refine st_y S rfl rfl rfl (y_int S rfl rfl rfl) ?_; clear S a; intro a S
      refine st_y S rfl rfl rfl (y_pickT S rfl rfl) ?_; clear S a; intro a S
      refine st_y S rfl rfl rfl (y_move S rfl) ?_; clear S a; intro a S
      refine st_split (t := 15) S rfl ?_ ?_
      · clear S; intro h15 S
        first | replace h15 := nrmA h15 | replace h15 := nrmB h15 | skip
        first | replace h15 := nrm1 h15 | replace h15 := nrm2 h15 | replace h15 := nrm3 h15 | replace h15 := nrm4 h15 | replace h15 := nrm5 h15 | replace h15 := nrm6 h15 | replace h15 := of_decide_eq_true h15 | replace h15 := of_decide_eq_false h15 | skip
        refine st_y S rfl rfl rfl (y_move S rfl) ?_; clear S a; intro a S
        refine st_y S rfl rfl rfl (y_int S rfl rfl rfl) ?_; clear S a; intro a S
        refine st_y S rfl rfl rfl (y_pickT S rfl rfl) ?_; clear S a; intro a S
        refine st_y S rfl rfl rfl (y_move S rfl) ?_; clear S a; intro a S
        refine st_split (t := 19) S rfl ?_ ?_
        · clear S; intro h19 S
          first | replace h19 := nrmA h19 | replace h19 := nrmB h19 | skip
          first | replace h19 := nrm1 h19 | replace h19 := nrm2 h19 | replace h19 := nrm3 h19 | replace h19 := nrm4 h19 | replace h19 := nrm5 h19 | replace h19 := nrm6 h19 | replace h19 := of_decide_eq_true h19 | replace h19 := of_decide_eq_false h19 | skip
          refine st_y S rfl rfl rfl (y_move S rfl) ?_; clear S a; intro a S
          refine st_y S rfl rfl rfl (y_move S rfl) ?_; clear S a; intro a S
          refine st_y S rfl rfl rfl (y_int S rfl rfl rfl) ?_; clear S a; intro a S
          refine st_y S rfl rfl rfl (y_int S rfl rfl rfl) ?_; clear S a; intro a S
          refine st_y S rfl rfl rfl (y_pickT S rfl rfl) ?_; clear S a; intro a S
          refine st_y S rfl rfl rfl (y_assign S rfl) ?_; clear S a; intro a S
          refine wpList_nil ?_
          replace S := S.sub [(0, _), (1, _), (4, _)] rfl
          refine then_normal ?_
          refine wp_ret ?_
          refine end_one S rfl (res_tmp rfl) ?_
          refine ⟨ret_bool ?_, M.below⟩; clear S M; unfold givenB bitsB
          first
            | (rw [decide_eq_true (p := 0 ≤ g ∧ g < 256) (by omega), decide_eq_true (p := 0 ≤ t ∧ t < 256) (by omega)]; rfl)
            | (rw [decide_eq_false (p := 0 ≤ g ∧ g < 256) (by omega)]; rfl)
            | (rw [decide_eq_false (p := 0 ≤ t ∧ t < 256) (by omega)]; simp)
        · clear S; intro h19 S
          first | replace h19 := nrmA h19 | replace h19 := nrmB h19 | skip
          first | replace h19 := nrm1 h19 | replace h19 := nrm2 h19 | replace h19 := nrm3 h19 | replace h19 := nrm4 h19 | replace h19 := nrm5 h19 | replace h19 := nrm6 h19 | replace h19 := of_decide_eq_true h19 | replace h19 := of_decide_eq_false h19 | skip
          refine st_no S rfl rfl rfl ?_; clear S a; intro a S
          refine st_no S rfl rfl rfl ?_; clear S a; intro a S
          refine st_no S rfl rfl rfl ?_; clear S a; intro a S
          refine st_no S rfl rfl rfl ?_; clear S a; intro a S
          refine st_y S rfl rfl rfl (y_pickF S rfl rfl) ?_; clear S a; intro a S
          refine st_y S rfl rfl rfl (y_assign S rfl) ?_; clear S a; intro a S
          refine wpList_nil ?_
          replace S := S.sub [(0, _), (1, _), (4, _)] rfl
          refine then_normal ?_
          refine wp_ret ?_
          refine end_one S rfl (res_tmp rfl) ?_
          refine ⟨ret_bool ?_, M.below⟩; clear S M; unfold givenB bitsB
          first
            | (rw [decide_eq_true (p := 0 ≤ g ∧ g < 256) (by omega), decide_eq_true (p := 0 ≤ t ∧ t < 256) (by omega)]; rfl)
            | (rw [decide_eq_false (p := 0 ≤ g ∧ g < 256) (by omega)]; rfl)
            | (rw [decide_eq_false (p := 0 ≤ t ∧ t < 256) (by omega)]; simp)
      · clear S; intro h15 S
        first | replace h15 := nrmA h15 | replace h15 := nrmB h15 | skip
        first | replace h15 := nrm1 h15 | replace h15 := nrm2 h15 | replace h15 := nrm3 h15 | replace h15 := nrm4 h15 | replace h15 := nrm5 h15 | replace h15 := nrm6 h15 | replace h15 := of_decide_eq_true h15 | replace h15 := of_decide_eq_false h15 | skip
        refine st_no S rfl rfl rfl ?_; clear S a; intro a S
        refine st_no S rfl rfl rfl ?_; clear S a; intro a S
        refine st_y S rfl rfl rfl (y_pickF S rfl rfl) ?_; clear S a; intro a S
        refine st_y S rfl rfl rfl (y_move S rfl) ?_; clear S a; intro a S
        refine st_no S rfl rfl rfl ?_; clear S a; intro a S
        refine st_no S rfl rfl rfl ?_; clear S a; intro a S
        refine st_no S rfl rfl rfl ?_; clear S a; intro a S
        refine st_no S rfl rfl rfl ?_; clear S a; intro a S
        refine st_y S rfl rfl rfl (y_pickF S rfl rfl) ?_; clear S a; intro a S
        refine st_y S rfl rfl rfl (y_assign S rfl) ?_; clear S a; intro a S
        refine wpList_nil ?_
        replace S := S.sub [(0, _), (1, _), (4, _)] rfl
        refine then_normal ?_
        refine wp_ret ?_
        refine end_one S rfl (res_tmp rfl) ?_
        refine ⟨ret_bool ?_, M.below⟩; clear S M; unfold givenB bitsB
        first
          | (rw [decide_eq_true (p := 0 ≤ g ∧ g < 256) (by omega), decide_eq_true (p := 0 ≤ t ∧ t < 256) (by omega)]; rfl)
          | (rw [decide_eq_false (p := 0 ≤ g ∧ g < 256) (by omega)]; rfl)
          | (rw [decide_eq_false (p := 0 ≤ t ∧ t < 256) (by omega)]; simp)
    · clear S; intro h11 S
      first | replace h11 := nrmA h11 | replace h11 := nrmB h11 | skip
      first | replace h11 := nrm1 h11 | replace h11 := nrm2 h11 | replace h11 := nrm3 h11 | replace h11 := nrm4 h11 | replace h11 := nrm5 h11 | replace h11 := nrm6 h11 | replace h11 := of_decide_eq_true h11 | replace h11 := of_decide_eq_false h11 | skip
      refine st_no S rfl rfl rfl ?_; clear S a; intro a S
      refine st_no S rfl rfl rfl ?_; clear S a; intro a S
      refine st_y S rfl rfl rfl (y_pickF S rfl rfl) ?_; clear S a; intro a S
      refine st_y S rfl rfl rfl (y_move S rfl) ?_; clear S a; intro a S
      refine st_no S rfl rfl rfl ?_; clear S a; intro a S
      refine st_no S rfl rfl rfl ?_; clear S a; intro a S
      refine st_y S rfl rfl rfl (y_pickF S rfl rfl) ?_; clear S a; intro a S
      refine st_y S rfl rfl rfl (y_move S rfl) ?_; clear S a; intro a S
      refine st_no S rfl rfl rfl ?_; clear S a; intro a S
      refine st_no S rfl rfl rfl ?_; clear S a; intro a S
      refine st_no S rfl rfl rfl ?_; clear S a; intro a S
      refine st_no S rfl rfl rfl ?_; clear S a; intro a S
      refine st_y S rfl rfl rfl (y_pickF S rfl rfl) ?_; clear S a; intro a S
      refine st_y S rfl rfl rfl (y_assign S rfl) ?_; clear S a; intro a S
      refine wpList_nil ?_
      replace S := S.sub [(0, _), (1, _), (4, _)] rfl
      refine then_normal ?_
      refine wp_ret ?_
      refine end_one S rfl (res_tmp rfl) ?_
      refine ⟨ret_bool ?_, M.below⟩; clear S M; unfold givenB bitsB
      first
        | (rw [decide_eq_true (p := 0 ≤ g ∧ g < 256) (by omega), decide_eq_true (p := 0 ≤ t ∧ t < 256) (by omega)]; rfl)
        | (rw [decide_eq_false (p := 0 ≤ g ∧ g < 256) (by omega)]; rfl)
        | (rw [decide_eq_false (p := 0 ≤ t ∧ t < 256) (by omega)]; simp)
  · clear S; intro h7 S
    first | replace h7 := nrmA h7 | replace h7 := nrmB h7 | skip
    first | replace h7 := nrm1 h7 | replace h7 := nrm2 h7 | replace h7 := nrm3 h7 | replace h7 := nrm4 h7 | replace h7 := nrm5 h7 | replace h7 := nrm6 h7 | replace h7 := of_decide_eq_true h7 | replace h7 := of_decide_eq_false h7 | skip
    refine st_no S rfl rfl rfl ?_; clear S a; intro a S
    refine st_no S rfl rfl rfl ?_; clear S a; intro a S
    refine st_y S rfl rfl rfl (y_pickF S rfl rfl) ?_; clear S a; intro a S
    refine st_y S rfl rfl rfl (y_move S rfl) ?_; clear S a; intro a S
    refine st_no S rfl rfl rfl ?_; clear S a; intro a S
    refine st_no S rfl rfl rfl ?_; clear S a; intro a S
    refine st_y S rfl rfl rfl (y_pickF S rfl rfl) ?_; clear S a; intro a S
    refine st_y S rfl rfl rfl (y_move S rfl) ?_; clear S a; intro a S
    refine st_no S rfl rfl rfl ?_; clear S a; intro a S
    refine st_no S rfl rfl rfl ?_; clear S a; intro a S
    refine st_y S rfl rfl rfl (y_pickF S rfl rfl) ?_; clear S a; intro a S
    refine st_y S rfl rfl rfl (y_move S rfl) ?_; clear S a; intro a S
    refine st_no S rfl rfl rfl ?_; clear S a; intro a S
    refine st_no S rfl rfl rfl ?_; clear S a; intro a S
    refine st_no S rfl rfl rfl ?_; clear S a; intro a S
    refine st_no S rfl rfl rfl ?_; clear S a; intro a S
    refine st_y S rfl rfl rfl (y_pickF S rfl rfl) ?_; clear S a; intro a S
    refine st_y S rfl rfl rfl (y_assign S rfl) ?_; clear S a; intro a S
    refine wpList_nil ?_
    replace S := S.sub [(0, _), (1, _), (4, _)] rfl
    refine then_normal ?_
    refine wp_ret ?_
    refine end_one S rfl (res_tmp rfl) ?_
    refine ⟨ret_bool ?_, M.below⟩; clear S M; unfold givenB bitsB
    first
      | (rw [decide_eq_true (p := 0 ≤ g ∧ g < 256) (by omega), decide_eq_true (p := 0 ≤ t ∧ t < 256) (by omega)]; rfl)
      | (rw [decide_eq_false (p := 0 ≤ g ∧ g < 256) (by omega)]; rfl)
      | (rw [decide_eq_false (p := 0 ≤ t ∧ t < 256) (by omega)]; simp)
theorem and1 {n : Int} (h0 : 0 < n) (h : n ≤ 9223372036854775807) : (andV n 1 == 0) = decide (n % 2 = 0) := by
  obtain ⟨k, rfl⟩ := Int.eq_ofNat_of_zero_le (show 0 ≤ n by omega)
  have e1 : BitVec.ofInt 64 (k : Int) = BitVec.ofNat 64 k := by simp
  unfold andV
  rw [show IntKind.i64.bits = 64 from rfl, e1, show BitVec.ofInt 64 1 = BitVec.ofNat 64 1 from rfl]
  have e2 : (BitVec.ofNat 64 k &&& BitVec.ofNat 64 1).toNat = k % 2 := by
    rw [BitVec.toNat_and, BitVec.toNat_ofNat, BitVec.toNat_ofNat, Nat.mod_eq_of_lt (a := k) (by omega)]
    exact Nat.and_one_is_mod k
  rw [e2, Bool.eq_iff_iff]
  simp only [IntKind.wrap, IntKind.bits, IntKind.signed]
  simp; omega
theorem rShards_any (n : Int) (w : World) (hn : n ≤ 9223372036854775807) : Calls Try.prog 47 #[.int .i64 n] w fun e w' => e = .returned (.bool (shardsB n)) ∧ Below w.heap.size w w' := by
  have M := Mem.start w
  have key := fun h => and1 (n := n) h hn
  unfold andV at key
  refine calls_enter Try.func47 rfl 14 rfl rfl ?_; intro a S
  refine wp_seq ?_
  -- region 0 ref.go:69
  refine wp_region_lit ?_
  refine st_y S rfl rfl rfl (y_assign S rfl) ?_; clear S a; intro a S
  refine wpList_nil ?_
  replace S := S.sub [(0, _), (2, _)] rfl
  refine then_normal ?_
  refine wp_seq ?_
  -- region 1 ref.go:69
  refine wp_region_lit ?_
  refine st_y S rfl rfl rfl (y_move S rfl) ?_; clear S a; intro a S
  refine st_y S rfl rfl rfl (y_int S rfl rfl rfl) ?_; clear S a; intro a S
  refine st_y S rfl rfl rfl (y_move S rfl) ?_; clear S a; intro a S
  refine st_split (t := 5) S rfl ?_ ?_
  · clear S; intro h5 S
    first | replace h5 := nrmA h5 | replace h5 := nrmB h5 | skip
    first | replace h5 := nrm1 h5 | replace h5 := nrm2 h5 | replace h5 := nrm3 h5 | replace h5 := nrm4 h5 | replace h5 := nrm5 h5 | replace h5 := nrm6 h5 | replace h5 := of_decide_eq_true h5 | replace h5 := of_decide_eq_false h5 | skip
    refine st_y S rfl rfl rfl (y_move S rfl) ?_; clear S a; intro a S
    refine st_y S rfl rfl rfl (y_int S rfl rfl rfl) ?_; clear S a; intro a S
    refine st_y S rfl rfl rfl (y_int S rfl rfl rfl) ?_; clear S a; intro a S
    refine st_y S rfl rfl rfl (y_pickT S rfl rfl) ?_; clear S a; intro a S
    refine st_y S rfl rfl rfl (y_move S rfl) ?_; clear S a; intro a S
    refine st_split (t := 10) S rfl ?_ ?_
    · clear S; intro h10 S
      refine st_y S rfl rfl rfl (y_move S rfl) ?_; clear S a; intro a S
      refine st_y S rfl rfl rfl (y_int S rfl rfl rfl) ?_; clear S a; intro a S
      refine st_y S rfl rfl rfl (y_pickT S rfl rfl) ?_; clear S a; intro a S
      refine st_y S rfl rfl rfl (y_assign S rfl) ?_; clear S a; intro a S
      refine wpList_nil ?_
      replace S := S.sub [(0, _), (2, _)] rfl
      refine then_normal ?_
      refine wp_ret ?_
      refine end_one S rfl (res_tmp rfl) ?_
      refine ⟨ret_bool ?_, M.below⟩; unfold shardsB
      first
        | (rw [key (by assumption)] at h10; rw [Bool.eq_iff_iff]; simp at h10 ⊢; omega)
        | (rw [Bool.eq_iff_iff]; simp; omega)
    · clear S; intro h10 S
      refine st_no S rfl rfl rfl ?_; clear S a; intro a S
      refine st_no S rfl rfl rfl ?_; clear S a; intro a S
      refine st_y S rfl rfl rfl (y_pickF S rfl rfl) ?_; clear S a; intro a S
      refine st_y S rfl rfl rfl (y_assign S rfl) ?_; clear S a; intro a S
      refine wpList_nil ?_
      replace S := S.sub [(0, _), (2, _)] rfl
      refine then_normal ?_
      refine wp_ret ?_
      refine end_one S rfl (res_tmp rfl) ?_
      refine ⟨ret_bool ?_, M.below⟩; unfold shardsB
      first
        | (rw [key (by assumption)] at h10; rw [Bool.eq_iff_iff]; simp at h10 ⊢; omega)
        | (rw [Bool.eq_iff_iff]; simp; omega)
  · clear S; intro h5 S
    first | replace h5 := nrmA h5 | replace h5 := nrmB h5 | skip
    first | replace h5 := nrm1 h5 | replace h5 := nrm2 h5 | replace h5 := nrm3 h5 | replace h5 := nrm4 h5 | replace h5 := nrm5 h5 | replace h5 := nrm6 h5 | replace h5 := of_decide_eq_true h5 | replace h5 := of_decide_eq_false h5 | skip
    refine st_no S rfl rfl rfl ?_; clear S a; intro a S
    refine st_no S rfl rfl rfl ?_; clear S a; intro a S
    refine st_no S rfl rfl rfl ?_; clear S a; intro a S
    refine st_y S rfl rfl rfl (y_pickF S rfl rfl) ?_; clear S a; intro a S
    refine st_y S rfl rfl rfl (y_move S rfl) ?_; clear S a; intro a S
    refine st_no S rfl rfl rfl ?_; clear S a; intro a S
    refine st_no S rfl rfl rfl ?_; clear S a; intro a S
    refine st_y S rfl rfl rfl (y_pickF S rfl rfl) ?_; clear S a; intro a S
    refine st_y S rfl rfl rfl (y_assign S rfl) ?_; clear S a; intro a S
    refine wpList_nil ?_
    replace S := S.sub [(0, _), (2, _)] rfl
    refine then_normal ?_
    refine wp_ret ?_
    refine end_one S rfl (res_tmp rfl) ?_
    refine ⟨ret_bool ?_, M.below⟩; unfold shardsB
    first
      | (rw [key (by assumption)] at h10; rw [Bool.eq_iff_iff]; simp at h10 ⊢; omega)
      | (rw [Bool.eq_iff_iff]; simp; omega)

/-- a record with just the fields that its kind names -/
def Rc.flds (r : Rc) : Rc :=
  if r.kind = 1 then { Rc.zero with kind := r.kind, name := r.name }
  else if r.kind = 2 then { Rc.zero with kind := r.kind, name := r.name, give := r.give, take := r.take }
  else if r.kind = 3 then { Rc.zero with kind := r.kind, name := r.name, yes := r.yes }
  else if r.kind = 4 then { Rc.zero with kind := r.kind, name := r.name, shards := r.shards, cs := r.cs, ct := r.ct }
  else if r.kind = 5 then { Rc.zero with kind := r.kind, name := r.name }
  else if r.kind = 6 ∨ r.kind = 7 then { Rc.zero with kind := r.kind, n := r.n }
  else { Rc.zero with kind := r.kind }
def fldX (r : Rc) (x : List Wr) : List Wr := if r.kind = 1 ∨ r.kind = 2 then x else []
theorem fields_any (r : Rc) (va : Option Addr) (vn vc : Nat) (x : List Wr) (w : World) :
    Calls Try.prog 45 #[.agg (r.cells (.slice va vn vc))] w fun e w' => ∃ ad l c, e = .returned (.agg (r.flds.cells (.slice ad l c))) ∧ Below w.heap.size w w' ∧ ((ad = none ∧ l = 0 ∧ c = 0 ∧ fldX r x = []) ∨ (ad = va ∧ l = vn ∧ c = vc ∧ fldX r x = x)) := by
  have M := Mem.start w
  refine calls_enter Try.func45 rfl 62 rfl rfl ?_; intro a S
  refine wp_seq ?_
  -- region 0 ref.go:72
  refine wp_region_lit ?_
  refine st_box S M rfl rfl rfl #[_, _, _, _, _, _, _, _, _, _, _, _] rfl ?_; clear S M a; intro a w1 b1 S M hB
  refine st_alloc S M rfl rfl #[.int .i8 0, .int .i64 0, .int .i64 0, .int .i64 0, .bool false, .slice none 0 0, .int .i64 0, .int .i64 0, .int .i64 0, .int .i64 0, .int .i64 0, .int .i64 0] (by kernel_rfl) ?_; clear S M a; intro a w2 b2 S M hB
  refine wpList_nil ?_
  replace S := S.sub [(0, _), (1, _), (2, _)] rfl
  refine then_normal ?_
  refine wp_seq ?_
  -- region 1 ref.go:73
  refine wp_region_lit ?_
  refine st_y S rfl rfl rfl (y_fieldAddr (k := 0) S (by kernel_rfl) rfl) ?_; clear S a; intro a S
  refine st_y S rfl rfl rfl (y_load S (by kernel_rfl) rfl (M.cell 1 rfl rfl)) ?_; clear S a; intro a S
  refine st_y S rfl rfl rfl (y_build (ps := [(0, (Operand.tmp 5))]) (pl := [(0, 1), (1, 3), (4, 1), (5, 1), (6, 1), (7, 1), (8, 1), (9, 2), (11, 1)]) (z := [.int .i8 0, .int .i64 0, .int .i64 0, .int .i64 0, .bool false, .slice none 0 0, .int .i64 0, .int .i64 0, .int .i64 0, .int .i64 0, .int .i64 0, .int .i64 0]) (cs := [_, _, _, _, _, _, _, _, _, _, _, _]) S (by kernel_rfl) rfl rfl) ?_; clear S a; intro a S
  refine st_alloc S M rfl rfl #[.int .i8 0, .int .i64 0, .int .i64 0, .int .i64 0, .bool false, .slice none 0 0, .int .i64 0, .int .i64 0, .int .i64 0, .int .i64 0, .int .i64 0, .int .i64 0] (by kernel_rfl) ?_; clear S M a; intro a w3 b3 S M hB
  refine st_store (sz := 12) (us := [_, _, _, _, _, _, _, _, _, _, _, _]) S M 0 rfl (by kernel_rfl) rfl rfl rfl rfl rfl rfl (by first | decide | (simp; done) | (simp; omega)) ?_; clear M; intro w4 M
  simp only [putL, List.set_cons_zero, List.set_cons_succ, Nat.reduceAdd] at M
  refine wpList_nil ?_
  replace S := S.sub [(0, _), (1, _), (2, _), (3, _)] rfl
  refine then_normal ?_
  refine wp_seq ?_
  refine wp_seq ?_
  -- region 2 ref.go:74
  refine wp_region_lit ?_
  refine st_y S rfl rfl rfl (y_fieldAddr (k := 0) S (by kernel_rfl) rfl) ?_; clear S a; intro a S
  refine st_y S rfl rfl rfl (y_load S (by kernel_rfl) rfl (M.cell 2 rfl rfl)) ?_; clear S a; intro a S
  refine wpList_nil ?_
  replace S := S.sub [(0, _), (1, _), (2, _), (3, _), (8, _)] rfl
  refine then_normal ?_
  refine wp_block ?_
  refine wp_seq ?_
  -- region 3 ref.go:75
  refine wp_region_lit ?_
  refine st_y S rfl rfl rfl (y_int S rfl rfl rfl) ?_; clear S a; intro a S
  refine st_y S rfl rfl rfl (y_assign S rfl) ?_; clear S a; intro a S
  refine wpList_nil ?_
  replace S := S.sub [(0, _), (1, _), (2, _), (3, _), (8, _), (9, _)] rfl
  refine then_normal ?_
  refine st_split (t := 9) S rfl ?_ ?_
  · clear S; intro h9 S
    first | replace h9 := nrmA h9 | replace h9 := nrmB h9 | skip
    first | replace h9 := nrm1 h9 | replace h9 := nrm2 h9 | replace h9 := nrm3 h9 | replace h9 := nrm4 h9 | replace h9 := nrm5 h9 | replace h9 := nrm6 h9 | replace h9 := of_decide_eq_true h9 | replace h9 := of_decide_eq_false h9 | skip
    refine st_condT S rfl ?_
    refine wp_seq ?_
    -- region 4 ref.go:76
    refine wp_region_lit ?_
    refine st_y S rfl rfl rfl (y_fieldAddr (k := 1) S (by kernel_rfl) rfl) ?_; clear S a; intro a S
    refine st_y S rfl rfl rfl (y_loadAgg (cs := [_, _, _]) S (by kernel_rfl) rfl rfl (M.cellsAt (k := 3) 2 rfl rfl)) ?_; clear S a; intro a S
    refine st_y S rfl rfl rfl (y_fieldAddr (k := 1) S (by kernel_rfl) rfl) ?_; clear S a; intro a S
    refine st_store (sz := 3) (us := [_, _, _]) S M 0 rfl (by kernel_rfl) rfl rfl rfl rfl rfl rfl (by first | decide | (simp; done) | (simp; omega)) ?_; clear M; intro w5 M
    simp only [putL, List.set_cons_zero, List.set_cons_succ, Nat.reduceAdd] at M
    refine wpList_nil ?_
    replace S := S.sub [(0, _), (1, _), (2, _), (3, _), (8, _), (9, _)] rfl
    refine then_normal ?_
    -- region 5 ref.go:77
    refine wp_region_lit ?_
    refine st_y S rfl rfl rfl (y_fieldAddr (k := 5) S (by kernel_rfl) rfl) ?_; clear S a; intro a S
    refine st_y S rfl rfl rfl (y_load S (by kernel_rfl) rfl (M.cell 2 rfl rfl)) ?_; clear S a; intro a S
    refine st_y S rfl rfl rfl (y_fieldAddr (k := 5) S (by kernel_rfl) rfl) ?_; clear S a; intro a S
    refine st_store (sz := 1) (us := [_]) S M 0 rfl (by kernel_rfl) rfl rfl rfl rfl rfl rfl (by first | decide | (simp; done) | (simp; omega)) ?_; clear M; intro w6 M
    simp only [putL, List.set_cons_zero, List.set_cons_succ, Nat.reduceAdd] at M
    refine wpList_nil ?_
    replace S := S.sub [(0, _), (1, _), (2, _), (3, _), (8, _), (9, _)] rfl
    refine block_normal ?_
    refine then_normal ?_
    refine wp_seq ?_
    -- region 23 ref.go:95
    refine wp_region_lit ?_
    refine st_y S rfl rfl rfl (y_loadAgg (cs := [_, _, _, _, _, _, _, _, _, _, _, _]) S (by kernel_rfl) rfl rfl (M.cellsAt (k := 12) 0 rfl rfl)) ?_; clear S a; intro a S
    refine st_store (sz := 12) (us := [_, _, _, _, _, _, _, _, _, _, _, _]) S M 1 rfl (by kernel_rfl) rfl rfl rfl rfl rfl rfl (by first | decide | (simp; done) | (simp; omega)) ?_; clear M; intro w7 M
    simp only [putL, List.set_cons_zero, List.set_cons_succ, Nat.reduceAdd] at M
    refine wpList_nil ?_
    replace S := S.sub [(0, _), (1, _), (2, _), (3, _), (8, _), (9, _)] rfl
    refine then_normal ?_
    refine wp_ret ?_
    refine end_one S rfl (res_agg (cs := [_, _, _, _, _, _, _, _, _, _, _, _]) (by kernel_rfl) rfl rfl (M.cellsAt (k := 12) 1 rfl rfl)) ?_
    have hB := M.below
    clear S M
    first
      | (refine ⟨none, 0, 0, ?_, hB, .inl ⟨rfl, rfl, rfl, ?_⟩⟩
         · simp [Rc.flds, Rc.zero, *]
         · simp [fldX, *])
      | (refine ⟨va, vn, vc, ?_, hB, .inr ⟨rfl, rfl, rfl, ?_⟩⟩
         · simp [Rc.flds, Rc.zero, *]
         · simp [fldX, *])
  · clear S; intro h9 S
    first | replace h9 := nrmA h9 | replace h9 := nrmB h9 | skip
    first | replace h9 := nrm1 h9 | replace h9 := nrm2 h9 | replace h9 := nrm3 h9 | replace h9 := nrm4 h9 | replace h9 := nrm5 h9 | replace h9 := nrm6 h9 | replace h9 := of_decide_eq_true h9 | replace h9 := of_decide_eq_false h9 | skip
    refine st_condF S rfl ?_
    refine wp_seq ?_
    -- region 6 ref.go:78
    refine wp_region_lit ?_
    refine st_y S rfl rfl rfl (y_int S rfl rfl rfl) ?_; clear S a; intro a S
    refine st_y S rfl rfl rfl (y_assign S rfl) ?_; clear S a; intro a S
    refine wpList_nil ?_
    replace S := S.sub [(0, _), (1, _), (2, _), (3, _), (8, _), (9, _), (17, _)] rfl
    refine then_normal ?_
    refine st_split (t := 17) S rfl ?_ ?_
    · clear S; intro h17 S
      first | replace h17 := nrmA h17 | replace h17 := nrmB h17 | skip
      first | replace h17 := nrm1 h17 | replace h17 := nrm2 h17 | replace h17 := nrm3 h17 | replace h17 := nrm4 h17 | replace h17 := nrm5 h17 | replace h17 := nrm6 h17 | replace h17 := of_decide_eq_true h17 | replace h17 := of_decide_eq_false h17 | skip
      refine st_condT S rfl ?_
      refine wp_seq ?_
      -- region 7 ref.go:79
      refine wp_region_lit ?_
      refine st_y S rfl rfl rfl (y_fieldAddr (k := 1) S (by kernel_rfl) rfl) ?_; clear S a; intro a S
      refine st_y S rfl rfl rfl (y_loadAgg (cs := [_, _, _]) S (by kernel_rfl) rfl rfl (M.cellsAt (k := 3) 2 rfl rfl)) ?_; clear S a; intro a S
      refine st_y S rfl rfl rfl (y_fieldAddr (k := 1) S (by kernel_rfl) rfl) ?_; clear S a; intro a S
      refine st_store (sz := 3) (us := [_, _, _]) S M 0 rfl (by kernel_rfl) rfl rfl rfl rfl rfl rfl (by first | decide | (simp; done) | (simp; omega)) ?_; clear M; intro w8 M
      simp only [putL, List.set_cons_zero, List.set_cons_succ, Nat.reduceAdd] at M
      refine wpList_nil ?_
      replace S := S.sub [(0, _), (1, _), (2, _), (3, _), (8, _), (9, _), (17, _)] rfl
      refine then_normal ?_
      refine wp_seq ?_
      -- region 8 ref.go:80
      refine wp_region_lit ?_
      refine st_y S rfl rfl rfl (y_fieldAddr (k := 5) S (by kernel_rfl) rfl) ?_; clear S a; intro a S
      refine st_y S rfl rfl rfl (y_load S (by kernel_rfl) rfl (M.cell 2 rfl rfl)) ?_; clear S a; intro a S
      refine st_y S rfl rfl rfl (y_fieldAddr (k := 5) S (by kernel_rfl) rfl) ?_; clear S a; intro a S
      refine st_store (sz := 1) (us := [_]) S M 0 rfl (by kernel_rfl) rfl rfl rfl rfl rfl rfl (by first | decide | (simp; done) | (simp; omega)) ?_; clear M; intro w9 M
      simp only [putL, List.set_cons_zero, List.set_cons_succ, Nat.reduceAdd] at M
      refine wpList_nil ?_
      replace S := S.sub [(0, _), (1, _), (2, _), (3, _), (8, _), (9, _), (17, _)] rfl
      refine then_normal ?_
      refine wp_seq ?_
      -- region 9 ref.go:81
      refine wp_region_lit ?_
      refine st_y S rfl rfl rfl (y_fieldAddr (k := 6) S (by kernel_rfl) rfl) ?_; clear S a; intro a S
      refine st_y S rfl rfl rfl (y_load S (by kernel_rfl) rfl (M.cell 2 rfl rfl)) ?_; clear S a; intro a S
      refine st_y S rfl rfl rfl (y_fieldAddr (k := 6) S (by kernel_rfl) rfl) ?_; clear S a; intro a S
      refine st_store (sz := 1) (us := [_]) S M 0 rfl (by kernel_rfl) rfl rfl rfl rfl rfl rfl (by first | decide | (simp; done) | (simp; omega)) ?_; clear M; intro w10 M
      simp only [putL, List.set_cons_zero, List.set_cons_succ, Nat.reduceAdd] at M
      refine wpList_nil ?_
      replace S := S.sub [(0, _), (1, _), (2, _), (3, _), (8, _), (9, _), (17, _)] rfl
      refine then_normal ?_
      -- region 10 ref.go:82
      refine wp_region_lit ?_
      refine st_y S rfl rfl rfl (y_fieldAddr (k := 7) S (by kernel_rfl) rfl) ?_; clear S a; intro a S
      refine st_y S rfl rfl rfl (y_load S (by kernel_rfl) rfl (M.cell 2 rfl rfl)) ?_; clear S a; intro a S
      refine st_y S rfl rfl rfl (y_fieldAddr (k := 7) S (by kernel_rfl) rfl) ?_; clear S a; intro a S
      refine st_store (sz := 1) (us := [_]) S M 0 rfl (by kernel_rfl) rfl rfl rfl rfl rfl rfl (by first | decide | (simp; done) | (simp; omega)) ?_; clear M; intro w11 M
      simp only [putL, List.set_cons_zero, List.set_cons_succ, Nat.reduceAdd] at M
      refine wpList_nil ?_
      replace S := S.sub [(0, _), (1, _), (2, _), (3, _), (8, _), (9, _), (17, _)] rfl
      refine block_normal ?_
      refine then_normal ?_
      refine wp_seq ?_
      -- region 23 ref.go:95
      refine wp_region_lit ?_
      refine st_y S rfl rfl rfl (y_loadAgg (cs := [_, _, _, _, _, _, _, _, _, _, _, _]) S (by kernel_rfl) rfl rfl (M.cellsAt (k := 12) 0 rfl rfl)) ?_; clear S a; intro a S
      refine st_store (sz := 12) (us := [_, _, _, _, _, _, _, _, _, _, _, _]) S M 1 rfl (by kernel_rfl) rfl rfl rfl rfl rfl rfl (by first | decide | (simp; done) | (simp; omega)) ?_; clear M; intro w12 M
      simp only [putL, List.set_cons_zero, List.set_cons_succ, Nat.reduceAdd] at M
      refine wpList_nil ?_
      replace S := S.sub [(0, _), (1, _), (2, _), (3, _), (8, _), (9, _), (17, _)] rfl
      refine then_normal ?_
      refine wp_ret ?_
      refine end_one S rfl (res_agg (cs := [_, _, _, _, _, _, _, _, _, _, _, _]) (by kernel_rfl) rfl rfl (M.cellsAt (k := 12) 1 rfl rfl)) ?_
      have hB := M.below
      clear S M
      first
        | (refine ⟨none, 0, 0, ?_, hB, .inl ⟨rfl, rfl, rfl, ?_⟩⟩
           · simp [Rc.flds, Rc.zero, *]
           · simp [fldX, *])
        | (refine ⟨va, vn, vc, ?_, hB, .inr ⟨rfl, rfl, rfl, ?_⟩⟩
           · simp [Rc.flds, Rc.zero, *]
           · simp [fldX, *])
    · clear S; intro h17 S
      first | replace h17 := nrmA h17 | replace h17 := nrmB h17 | skip
      first | replace h17 := nrm1 h17 | replace h17 := nrm2 h17 | replace h17 := nrm3 h17 | replace h17 := nrm4 h17 | replace h17 := nrm5 h17 | replace h17 := nrm6 h17 | replace h17 := of_decide_eq_true h17 | replace h17 := of_decide_eq_false h17 | skip
      refine st_condF S rfl ?_
      refine wp_seq ?_
      -- region 11 ref.go:83
      refine wp_region_lit ?_
      refine st_y S rfl rfl rfl (y_int S rfl rfl rfl) ?_; clear S a; intro a S
      refine st_y S rfl rfl rfl (y_assign S rfl) ?_; clear S a; intro a S
      refine wpList_nil ?_
      replace S := S.sub [(0, _), (1, _), (2, _), (3, _), (8, _), (9, _), (17, _), (31, _)] rfl
      refine then_normal ?_
      refine st_split (t := 31) S rfl ?_ ?_
      · clear S; intro h31 S
        first | replace h31 := nrmA h31 | replace h31 := nrmB h31 | skip
        first | replace h31 := nrm1 h31 | replace h31 := nrm2 h31 | replace h31 := nrm3 h31 | replace h31 := nrm4 h31 | replace h31 := nrm5 h31 | replace h31 := nrm6 h31 | replace h31 := of_decide_eq_true h31 | replace h31 := of_decide_eq_false h31 | skip
        refine st_condT S rfl ?_
        refine wp_seq ?_
        -- region 12 ref.go:84
        refine wp_region_lit ?_
        refine st_y S rfl rfl rfl (y_fieldAddr (k := 1) S (by kernel_rfl) rfl) ?_; clear S a; intro a S
        refine st_y S rfl rfl rfl (y_loadAgg (cs := [_, _, _]) S (by kernel_rfl) rfl rfl (M.cellsAt (k := 3) 2 rfl rfl)) ?_; clear S a; intro a S
        refine st_y S rfl rfl rfl (y_fieldAddr (k := 1) S (by kernel_rfl) rfl) ?_; clear S a; intro a S
        refine st_store (sz := 3) (us := [_, _, _]) S M 0 rfl (by kernel_rfl) rfl rfl rfl rfl rfl rfl (by first | decide | (simp; done) | (simp; omega)) ?_; clear M; intro w13 M
        simp only [putL, List.set_cons_zero, List.set_cons_succ, Nat.reduceAdd] at M
        refine wpList_nil ?_
        replace S := S.sub [(0, _), (1, _), (2, _), (3, _), (8, _), (9, _), (17, _), (31, _)] rfl
        refine then_normal ?_
        -- region 13 ref.go:85
        refine wp_region_lit ?_
        refine st_y S rfl rfl rfl (y_fieldAddr (k := 4) S (by kernel_rfl) rfl) ?_; clear S a; intro a S
        refine st_y S rfl rfl rfl (y_load S (by kernel_rfl) rfl (M.cell 2 rfl rfl)) ?_; clear S a; intro a S
        refine st_y S rfl rfl rfl (y_fieldAddr (k := 4) S (by kernel_rfl) rfl) ?_; clear S a; intro a S
        refine st_store (sz := 1) (us := [_]) S M 0 rfl (by kernel_rfl) rfl rfl rfl rfl rfl rfl (by first | decide | (simp; done) | (simp; omega)) ?_; clear M; intro w14 M
        simp only [putL, List.set_cons_zero, List.set_cons_succ, Nat.reduceAdd] at M
        refine wpList_nil ?_
        replace S := S.sub [(0, _), (1, _), (2, _), (3, _), (8, _), (9, _), (17, _), (31, _)] rfl
        refine block_normal ?_
        refine then_normal ?_
        refine wp_seq ?_
        -- region 23 ref.go:95
        refine wp_region_lit ?_
        refine st_y S rfl rfl rfl (y_loadAgg (cs := [_, _, _, _, _, _, _, _, _, _, _, _]) S (by kernel_rfl) rfl rfl (M.cellsAt (k := 12) 0 rfl rfl)) ?_; clear S a; intro a S
        refine st_store (sz := 12) (us := [_, _, _, _, _, _, _, _, _, _, _, _]) S M 1 rfl (by kernel_rfl) rfl rfl rfl rfl rfl rfl (by first | decide | (simp; done) | (simp; omega)) ?_; clear M; intro w15 M
        simp only [putL, List.set_cons_zero, List.set_cons_succ, Nat.reduceAdd] at M
        refine wpList_nil ?_
        replace S := S.sub [(0, _), (1, _), (2, _), (3, _), (8, _), (9, _), (17, _), (31, _)] rfl
        refine then_normal ?_
        refine wp_ret ?_
        refine end_one S rfl (res_agg (cs := [_, _, _, _, _, _, _, _, _, _, _, _]) (by kernel_rfl) rfl rfl (M.cellsAt (k := 12) 1 rfl rfl)) ?_
        have hB := M.below
        clear S M
        first
          | (refine ⟨none, 0, 0, ?_, hB, .inl ⟨rfl, rfl, rfl, ?_⟩⟩
             · simp [Rc.flds, Rc.zero, *]
             · simp [fldX, *])
          | (refine ⟨va, vn, vc, ?_, hB, .inr ⟨rfl, rfl, rfl, ?_⟩⟩
             · simp [Rc.flds, Rc.zero, *]
             · simp [fldX, *])
      · clear S; intro h31 S
        first | replace h31 := nrmA h31 | replace h31 := nrmB h31 | skip
        first | replace h31 := nrm1 h31 | replace h31 := nrm2 h31 | replace h31 := nrm3 h31 | replace h31 := nrm4 h31 | replace h31 := nrm5 h31 | replace h31 := nrm6 h31 | replace h31 := of_decide_eq_true h31 | replace h31 := of_decide_eq_false h31 | skip
        refine st_condF S rfl ?_
        refine wp_seq ?_
        -- region 14 ref.go:86
        refine wp_region_lit ?_
        refine st_y S rfl rfl rfl (y_int S rfl rfl rfl) ?_; clear S a; intro a S
        refine st_y S rfl rfl rfl (y_assign S rfl) ?_; clear S a; intro a S
        refine wpList_nil ?_
        replace S := S.sub [(0, _), (1, _), (2, _), (3, _), (8, _), (9, _), (17, _), (31, _), (39, _)] rfl
        refine then_normal ?_
        refine st_split (t := 39) S rfl ?_ ?_
        · clear S; intro h39 S
          first | replace h39 := nrmA h39 | replace h39 := nrmB h39 | skip
          first | replace h39 := nrm1 h39 | replace h39 := nrm2 h39 | replace h39 := nrm3 h39 | replace h39 := nrm4 h39 | replace h39 := nrm5 h39 | replace h39 := nrm6 h39 | replace h39 := of_decide_eq_true h39 | replace h39 := of_decide_eq_false h39 | skip
          refine st_condT S rfl ?_
          refine wp_seq ?_
          -- region 15 ref.go:87
          refine wp_region_lit ?_
          refine st_y S rfl rfl rfl (y_fieldAddr (k := 1) S (by kernel_rfl) rfl) ?_; clear S a; intro a S
          refine st_y S rfl rfl rfl (y_loadAgg (cs := [_, _, _]) S (by kernel_rfl) rfl rfl (M.cellsAt (k := 3) 2 rfl rfl)) ?_; clear S a; intro a S
          refine st_y S rfl rfl rfl (y_fieldAddr (k := 1) S (by kernel_rfl) rfl) ?_; clear S a; intro a S
          refine st_store (sz := 3) (us := [_, _, _]) S M 0 rfl (by kernel_rfl) rfl rfl rfl rfl rfl rfl (by first | decide | (simp; done) | (simp; omega)) ?_; clear M; intro w16 M
          simp only [putL, List.set_cons_zero, List.set_cons_succ, Nat.reduceAdd] at M
          refine wpList_nil ?_
          replace S := S.sub [(0, _), (1, _), (2, _), (3, _), (8, _), (9, _), (17, _), (31, _), (39, _)] rfl
          refine then_normal ?_
          refine wp_seq ?_
          -- region 16 ref.go:88
          refine wp_region_lit ?_
          refine st_y S rfl rfl rfl (y_fieldAddr (k := 8) S (by kernel_rfl) rfl) ?_; clear S a; intro a S
          refine st_y S rfl rfl rfl (y_load S (by kernel_rfl) rfl (M.cell 2 rfl rfl)) ?_; clear S a; intro a S
          refine st_y S rfl rfl rfl (y_fieldAddr (k := 8) S (by kernel_rfl) rfl) ?_; clear S a; intro a S
          refine st_store (sz := 1) (us := [_]) S M 0 rfl (by kernel_rfl) rfl rfl rfl rfl rfl rfl (by first | decide | (simp; done) | (simp; omega)) ?_; clear M; intro w17 M
          simp only [putL, List.set_cons_zero, List.set_cons_succ, Nat.reduceAdd] at M
          refine wpList_nil ?_
          replace S := S.sub [(0, _), (1, _), (2, _), (3, _), (8, _), (9, _), (17, _), (31, _), (39, _)] rfl
          refine then_normal ?_
          -- region 17 ref.go:89
          refine wp_region_lit ?_
          refine st_y S rfl rfl rfl (y_fieldAddr (k := 9) S (by kernel_rfl) rfl) ?_; clear S a; intro a S
          refine st_y S rfl rfl rfl (y_loadAgg (cs := [_, _]) S (by kernel_rfl) rfl rfl (M.cellsAt (k := 2) 2 rfl rfl)) ?_; clear S a; intro a S
          refine st_y S rfl rfl rfl (y_fieldAddr (k := 9) S (by kernel_rfl) rfl) ?_; clear S a; intro a S
          refine st_store (sz := 2) (us := [_, _]) S M 0 rfl (by kernel_rfl) rfl rfl rfl rfl rfl rfl (by first | decide | (simp; done) | (simp; omega)) ?_; clear M; intro w18 M
          simp only [putL, List.set_cons_zero, List.set_cons_succ, Nat.reduceAdd] at M
          refine wpList_nil ?_
          replace S := S.sub [(0, _), (1, _), (2, _), (3, _), (8, _), (9, _), (17, _), (31, _), (39, _)] rfl
          refine block_normal ?_
          refine then_normal ?_
          refine wp_seq ?_
          -- region 23 ref.go:95
          refine wp_region_lit ?_
          refine st_y S rfl rfl rfl (y_loadAgg (cs := [_, _, _, _, _, _, _, _, _, _, _, _]) S (by kernel_rfl) rfl rfl (M.cellsAt (k := 12) 0 rfl rfl)) ?_; clear S a; intro a S
          refine st_store (sz := 12) (us := [_, _, _, _, _, _, _, _, _, _, _, _]) S M 1 rfl (by kernel_rfl) rfl rfl rfl rfl rfl rfl (by first | decide | (simp; done) | (simp; omega)) ?_; clear M; intro w19 M
          simp only [putL, List.set_cons_zero, List.set_cons_succ, Nat.reduceAdd] at M
          refine wpList_nil ?_
          replace S := S.sub [(0, _), (1, _), (2, _), (3, _), (8, _), (9, _), (17, _), (31, _), (39, _)] rfl
          refine then_normal ?_
          refine wp_ret ?_
          refine end_one S rfl (res_agg (cs := [_, _, _, _, _, _, _, _, _, _, _, _]) (by kernel_rfl) rfl rfl (M.cellsAt (k := 12) 1 rfl rfl)) ?_
          have hB := M.below
          clear S M
          first
            | (refine ⟨none, 0, 0, ?_, hB, .inl ⟨rfl, rfl, rfl, ?_⟩⟩
               · simp [Rc.flds, Rc.zero, *]
               · simp [fldX, *])
            | (refine ⟨va, vn, vc, ?_, hB, .inr ⟨rfl, rfl, rfl, ?_⟩⟩
               · simp [Rc.flds, Rc.zero, *]
               · simp [fldX, *])
        · clear S; intro h39 S
          first | replace h39 := nrmA h39 | replace h39 := nrmB h39 | skip
          first | replace h39 := nrm1 h39 | replace h39 := nrm2 h39 | replace h39 := nrm3 h39 | replace h39 := nrm4 h39 | replace h39 := nrm5 h39 | replace h39 := nrm6 h39 | replace h39 := of_decide_eq_true h39 | replace h39 := of_decide_eq_false h39 | skip
          refine st_condF S rfl ?_
          refine wp_seq ?_
          -- region 18 ref.go:90
          refine wp_region_lit ?_
          refine st_y S rfl rfl rfl (y_int S rfl rfl rfl) ?_; clear S a; intro a S
          refine st_y S rfl rfl rfl (y_assign S rfl) ?_; clear S a; intro a S
          refine wpList_nil ?_
          replace S := S.sub [(0, _), (1, _), (2, _), (3, _), (8, _), (9, _), (17, _), (31, _), (39, _), (50, _)] rfl
          refine then_normal ?_
          refine st_split (t := 50) S rfl ?_ ?_
          · clear S; intro h50 S
            first | replace h50 := nrmA h50 | replace h50 := nrmB h50 | skip
            first | replace h50 := nrm1 h50 | replace h50 := nrm2 h50 | replace h50 := nrm3 h50 | replace h50 := nrm4 h50 | replace h50 := nrm5 h50 | replace h50 := nrm6 h50 | replace h50 := of_decide_eq_true h50 | replace h50 := of_decide_eq_false h50 | skip
            refine st_condT S rfl ?_
            -- region 19 ref.go:91
            refine wp_region_lit ?_
            refine st_y S rfl rfl rfl (y_fieldAddr (k := 1) S (by kernel_rfl) rfl) ?_; clear S a; intro a S
            refine st_y S rfl rfl rfl (y_loadAgg (cs := [_, _, _]) S (by kernel_rfl) rfl rfl (M.cellsAt (k := 3) 2 rfl rfl)) ?_; clear S a; intro a S
            refine st_y S rfl rfl rfl (y_fieldAddr (k := 1) S (by kernel_rfl) rfl) ?_; clear S a; intro a S
            refine st_store (sz := 3) (us := [_, _, _]) S M 0 rfl (by kernel_rfl) rfl rfl rfl rfl rfl rfl (by first | decide | (simp; done) | (simp; omega)) ?_; clear M; intro w20 M
            simp only [putL, List.set_cons_zero, List.set_cons_succ, Nat.reduceAdd] at M
            refine wpList_nil ?_
            replace S := S.sub [(0, _), (1, _), (2, _), (3, _), (8, _), (9, _), (17, _), (31, _), (39, _), (50, _)] rfl
            refine block_normal ?_
            refine then_normal ?_
            refine wp_seq ?_
            -- region 23 ref.go:95
            refine wp_region_lit ?_
            refine st_y S rfl rfl rfl (y_loadAgg (cs := [_, _, _, _, _, _, _, _, _, _, _, _]) S (by kernel_rfl) rfl rfl (M.cellsAt (k := 12) 0 rfl rfl)) ?_; clear S a; intro a S
            refine st_store (sz := 12) (us := [_, _, _, _, _, _, _, _, _, _, _, _]) S M 1 rfl (by kernel_rfl) rfl rfl rfl rfl rfl rfl (by first | decide | (simp; done) | (simp; omega)) ?_; clear M; intro w21 M
            simp only [putL, List.set_cons_zero, List.set_cons_succ, Nat.reduceAdd] at M
            refine wpList_nil ?_
            replace S := S.sub [(0, _), (1, _), (2, _), (3, _), (8, _), (9, _), (17, _), (31, _), (39, _), (50, _)] rfl
            refine then_normal ?_
            refine wp_ret ?_
            refine end_one S rfl (res_agg (cs := [_, _, _, _, _, _, _, _, _, _, _, _]) (by kernel_rfl) rfl rfl (M.cellsAt (k := 12) 1 rfl rfl)) ?_
            have hB := M.below
            clear S M
            first
              | (refine ⟨none, 0, 0, ?_, hB, .inl ⟨rfl, rfl, rfl, ?_⟩⟩
                 · simp [Rc.flds, Rc.zero, *]
                 · simp [fldX, *])
              | (refine ⟨va, vn, vc, ?_, hB, .inr ⟨rfl, rfl, rfl, ?_⟩⟩
                 · simp [Rc.flds, Rc.zero, *]
                 · simp [fldX, *])
          · clear S; intro h50 S
            first | replace h50 := nrmA h50 | replace h50 := nrmB h50 | skip
            first | replace h50 := nrm1 h50 | replace h50 := nrm2 h50 | replace h50 := nrm3 h50 | replace h50 := nrm4 h50 | replace h50 := nrm5 h50 | replace h50 := nrm6 h50 | replace h50 := of_decide_eq_true h50 | replace h50 := of_decide_eq_false h50 | skip
            refine st_condF S rfl ?_
            refine wp_seq ?_
            refine wp_seq ?_
            -- region 20 ref.go:92
            refine wp_region_lit ?_
            refine st_y S rfl rfl rfl (y_int S rfl rfl rfl) ?_; clear S a; intro a S
            refine st_y S rfl rfl rfl (y_assign S rfl) ?_; clear S a; intro a S
            refine wpList_nil ?_
            replace S := S.sub [(0, _), (1, _), (2, _), (3, _), (8, _), (9, _), (17, _), (31, _), (39, _), (50, _), (55, _)] rfl
            refine then_normal ?_
            refine st_split (t := 55) S rfl ?_ ?_
            · clear S; intro h55 S
              first | replace h55 := nrmA h55 | replace h55 := nrmB h55 | skip
              first | replace h55 := nrm1 h55 | replace h55 := nrm2 h55 | replace h55 := nrm3 h55 | replace h55 := nrm4 h55 | replace h55 := nrm5 h55 | replace h55 := nrm6 h55 | replace h55 := of_decide_eq_true h55 | replace h55 := of_decide_eq_false h55 | skip
              refine st_condT S rfl ?_
              refine wp_skip ?_
              refine then_normal ?_
              refine st_condT S rfl ?_
              -- region 22 ref.go:93
              refine wp_region_lit ?_
              refine st_y S rfl rfl rfl (y_fieldAddr (k := 11) S (by kernel_rfl) rfl) ?_; clear S a; intro a S
              refine st_y S rfl rfl rfl (y_load S (by kernel_rfl) rfl (M.cell 2 rfl rfl)) ?_; clear S a; intro a S
              refine st_y S rfl rfl rfl (y_fieldAddr (k := 11) S (by kernel_rfl) rfl) ?_; clear S a; intro a S
              refine st_store (sz := 1) (us := [_]) S M 0 rfl (by kernel_rfl) rfl rfl rfl rfl rfl rfl (by first | decide | (simp; done) | (simp; omega)) ?_; clear M; intro w22 M
              simp only [putL, List.set_cons_zero, List.set_cons_succ, Nat.reduceAdd] at M
              refine wpList_nil ?_
              replace S := S.sub [(0, _), (1, _), (2, _), (3, _), (8, _), (9, _), (17, _), (31, _), (39, _), (50, _), (55, _)] rfl
              refine block_normal ?_
              refine then_normal ?_
              refine wp_seq ?_
              -- region 23 ref.go:95
              refine wp_region_lit ?_
              refine st_y S rfl rfl rfl (y_loadAgg (cs := [_, _, _, _, _, _, _, _, _, _, _, _]) S (by kernel_rfl) rfl rfl (M.cellsAt (k := 12) 0 rfl rfl)) ?_; clear S a; intro a S
              refine st_store (sz := 12) (us := [_, _, _, _, _, _, _, _, _, _, _, _]) S M 1 rfl (by kernel_rfl) rfl rfl rfl rfl rfl rfl (by first | decide | (simp; done) | (simp; omega)) ?_; clear M; intro w23 M
              simp only [putL, List.set_cons_zero, List.set_cons_succ, Nat.reduceAdd] at M
              refine wpList_nil ?_
              replace S := S.sub [(0, _), (1, _), (2, _), (3, _), (8, _), (9, _), (17, _), (31, _), (39, _), (50, _), (55, _)] rfl
              refine then_normal ?_
              refine wp_ret ?_
              refine end_one S rfl (res_agg (cs := [_, _, _, _, _, _, _, _, _, _, _, _]) (by kernel_rfl) rfl rfl (M.cellsAt (k := 12) 1 rfl rfl)) ?_
              have hB := M.below
              clear S M
              first
                | (refine ⟨none, 0, 0, ?_, hB, .inl ⟨rfl, rfl, rfl, ?_⟩⟩
                   · simp [Rc.flds, Rc.zero, *]
                   · simp [fldX, *])
                | (refine ⟨va, vn, vc, ?_, hB, .inr ⟨rfl, rfl, rfl, ?_⟩⟩
                   · simp [Rc.flds, Rc.zero, *]
                   · simp [fldX, *])
            · clear S; intro h55 S
              first | replace h55 := nrmA h55 | replace h55 := nrmB h55 | skip
              first | replace h55 := nrm1 h55 | replace h55 := nrm2 h55 | replace h55 := nrm3 h55 | replace h55 := nrm4 h55 | replace h55 := nrm5 h55 | replace h55 := nrm6 h55 | replace h55 := of_decide_eq_true h55 | replace h55 := of_decide_eq_false h55 | skip
              refine st_condF S rfl ?_
              -- region 21 ref.go:92
              refine wp_region_lit ?_
              refine st_y S rfl rfl rfl (y_int S rfl rfl rfl) ?_; clear S a; intro a S
              refine st_y S rfl rfl rfl (y_assign S rfl) ?_; clear S a; intro a S
              refine wpList_nil ?_
              replace S := S.sub [(0, _), (1, _), (2, _), (3, _), (8, _), (9, _), (17, _), (31, _), (39, _), (50, _), (55, _)] rfl
              refine then_normal ?_
              refine st_split (t := 55) S rfl ?_ ?_
              · clear S; intro h55 S
                first | replace h55 := nrmA h55 | replace h55 := nrmB h55 | skip
                first | replace h55 := nrm1 h55 | replace h55 := nrm2 h55 | replace h55 := nrm3 h55 | replace h55 := nrm4 h55 | replace h55 := nrm5 h55 | replace h55 := nrm6 h55 | replace h55 := of_decide_eq_true h55 | replace h55 := of_decide_eq_false h55 | skip
                refine st_condT S rfl ?_
                -- region 22 ref.go:93
                refine wp_region_lit ?_
                refine st_y S rfl rfl rfl (y_fieldAddr (k := 11) S (by kernel_rfl) rfl) ?_; clear S a; intro a S
                refine st_y S rfl rfl rfl (y_load S (by kernel_rfl) rfl (M.cell 2 rfl rfl)) ?_; clear S a; intro a S
                refine st_y S rfl rfl rfl (y_fieldAddr (k := 11) S (by kernel_rfl) rfl) ?_; clear S a; intro a S
                refine st_store (sz := 1) (us := [_]) S M 0 rfl (by kernel_rfl) rfl rfl rfl rfl rfl rfl (by first | decide | (simp; done) | (simp; omega)) ?_; clear M; intro w24 M
                simp only [putL, List.set_cons_zero, List.set_cons_succ, Nat.reduceAdd] at M
                refine wpList_nil ?_
                replace S := S.sub [(0, _), (1, _), (2, _), (3, _), (8, _), (9, _), (17, _), (31, _), (39, _), (50, _), (55, _)] rfl
                refine block_normal ?_
                refine then_normal ?_
                refine wp_seq ?_
                -- region 23 ref.go:95
                refine wp_region_lit ?_
                refine st_y S rfl rfl rfl (y_loadAgg (cs := [_, _, _, _, _, _, _, _, _, _, _, _]) S (by kernel_rfl) rfl rfl (M.cellsAt (k := 12) 0 rfl rfl)) ?_; clear S a; intro a S
                refine st_store (sz := 12) (us := [_, _, _, _, _, _, _, _, _, _, _, _]) S M 1 rfl (by kernel_rfl) rfl rfl rfl rfl rfl rfl (by first | decide | (simp; done) | (simp; omega)) ?_; clear M; intro w25 M
                simp only [putL, List.set_cons_zero, List.set_cons_succ, Nat.reduceAdd] at M
                refine wpList_nil ?_
                replace S := S.sub [(0, _), (1, _), (2, _), (3, _), (8, _), (9, _), (17, _), (31, _), (39, _), (50, _), (55, _)] rfl
                refine then_normal ?_
                refine wp_ret ?_
                refine end_one S rfl (res_agg (cs := [_, _, _, _, _, _, _, _, _, _, _, _]) (by kernel_rfl) rfl rfl (M.cellsAt (k := 12) 1 rfl rfl)) ?_
                have hB := M.below
                clear S M
                first
                  | (refine ⟨none, 0, 0, ?_, hB, .inl ⟨rfl, rfl, rfl, ?_⟩⟩
                     · simp [Rc.flds, Rc.zero, *]
                     · simp [fldX, *])
                  | (refine ⟨va, vn, vc, ?_, hB, .inr ⟨rfl, rfl, rfl, ?_⟩⟩
                     · simp [Rc.flds, Rc.zero, *]
                     · simp [fldX, *])
              · clear S; intro h55 S
                first | replace h55 := nrmA h55 | replace h55 := nrmB h55 | skip
                first | replace h55 := nrm1 h55 | replace h55 := nrm2 h55 | replace h55 := nrm3 h55 | replace h55 := nrm4 h55 | replace h55 := nrm5 h55 | replace h55 := nrm6 h55 | replace h55 := of_decide_eq_true h55 | replace h55 := of_decide_eq_false h55 | skip
                refine st_condF S rfl ?_
                refine wp_skip ?_
                refine block_normal ?_
                refine then_normal ?_
                refine wp_seq ?_
                -- region 23 ref.go:95
                refine wp_region_lit ?_
                refine st_y S rfl rfl rfl (y_loadAgg (cs := [_, _, _, _, _, _, _, _, _, _, _, _]) S (by kernel_rfl) rfl rfl (M.cellsAt (k := 12) 0 rfl rfl)) ?_; clear S a; intro a S
                refine st_store (sz := 12) (us := [_, _, _, _, _, _, _, _, _, _, _, _]) S M 1 rfl (by kernel_rfl) rfl rfl rfl rfl rfl rfl (by first | decide | (simp; done) | (simp; omega)) ?_; clear M; intro w26 M
                simp only [putL, List.set_cons_zero, List.set_cons_succ, Nat.reduceAdd] at M
                refine wpList_nil ?_
                replace S := S.sub [(0, _), (1, _), (2, _), (3, _), (8, _), (9, _), (17, _), (31, _), (39, _), (50, _), (55, _)] rfl
                refine then_normal ?_
                refine wp_ret ?_
                refine end_one S rfl (res_agg (cs := [_, _, _, _, _, _, _, _, _, _, _, _]) (by kernel_rfl) rfl rfl (M.cellsAt (k := 12) 1 rfl rfl)) ?_
                have hB := M.below
                clear S M
                first
                  | (refine ⟨none, 0, 0, ?_, hB, .inl ⟨rfl, rfl, rfl, ?_⟩⟩
                     · simp [Rc.flds, Rc.zero, *]
                     · simp [fldX, *])
                  | (refine ⟨va, vn, vc, ?_, hB, .inr ⟨rfl, rfl, rfl, ?_⟩⟩
                     · simp [Rc.flds, Rc.zero, *]
                     · simp [fldX, *])
def refMay (r : Rc) (x : List Wr) : Bool :=
  if (r.kind < 1 ∨ 7 < r.kind) ∨ r.same r.flds x (fldX r x) = false then false
  else if r.kind = 6 then withinB r.n 1048577
  else if r.kind = 7 then withinB r.n 1048576
  else if (r.name.named && (writtenB x && givenB r.give r.take)) = false then false
  else (decide (r.kind ≠ 4) || (shardsB r.shards && changedB r.cs r.ct))
theorem may_ref (r : Rc) (x : List Wr) : r.may x = refMay r x := by
  by_cases hk : 1 ≤ r.kind ∧ r.kind ≤ 7
  · have hc : r.kind = 1 ∨ r.kind = 2 ∨ r.kind = 3 ∨ r.kind = 4 ∨ r.kind = 5 ∨ r.kind = 6 ∨ r.kind = 7 := by omega
    have z1 : writtenB [] = true := rfl
    have z2 : givenB 0 0 = true := by decide
    rw [Bool.eq_iff_iff]
    constructor
    · intro hm
      have hsame : r.same r.flds x (fldX r x) = true := by
        rw [Rc.same_iff]
        rcases may_cases hm with ⟨hk, hr, -⟩ | ⟨hk, hr, -⟩ | ⟨hk, hr, rfl, -⟩ | ⟨hk, hr, rfl, -⟩ | ⟨hk, hr, rfl, -⟩ | ⟨hk, hr, rfl, -⟩ | ⟨hk, hr, rfl, -⟩ <;> (refine ⟨?_, by simp [fldX, hk]⟩; simp only [Rc.flds, hk]; exact hr)
      unfold refMay
      rw [if_neg (by rintro (h | h); · omega
                     · rw [hsame] at h; cases h)]
      rcases may_cases hm with ⟨hk, hr, hn, hw⟩ | ⟨hk, hr, hn, hw, hg, ht, ha⟩ | ⟨hk, hr, rfl, hn⟩ | ⟨hk, hr, rfl, hn, h1, h2⟩ | ⟨hk, hr, rfl, hn⟩ | ⟨hk, hr, rfl, hn⟩ | ⟨hk, hr, rfl, hn⟩
      · have e1 : r.give = 0 := by rw [hr]; rfl
        have e2 : r.take = 0 := by rw [hr]; rfl
        simp [hk, hn, hw, e1, e2, z2]
      · simp [hk, hn, hw, givenB, hg, ht, ha]
      · have e1 : r.give = 0 := by rw [hr]; rfl
        have e2 : r.take = 0 := by rw [hr]; rfl
        simp [hk, hn, z1, e1, e2, z2]
      · have e1 : r.give = 0 := by rw [hr]; rfl
        have e2 : r.take = 0 := by rw [hr]; rfl
        simp [hk, hn, z1, e1, e2, z2, h1, h2]
      · have e1 : r.give = 0 := by rw [hr]; rfl
        have e2 : r.take = 0 := by rw [hr]; rfl
        simp [hk, hn, z1, e1, e2, z2]
      · simp [hk, hn]
      · simp [hk, hn]
    · intro hm
      unfold refMay at hm
      split at hm
      · cases hm
      · rename_i hns
        have hsame : r = r.flds ∧ x = fldX r x := by
          rw [← Rc.same_iff]
          cases h : r.same r.flds x (fldX r x) with
          | true => rfl
          | false => exact absurd (.inr h) hns
        obtain ⟨hr, hx⟩ := hsame
        unfold Rc.may
        rw [if_pos hk, Bool.and_eq_true, Rc.same_iff]
        unfold Rc.flds at hr
        unfold fldX at hx
        unfold Rc.ok Rc.rest
        rcases hc with hk | hk | hk | hk | hk | hk | hk
        · rw [if_pos hk] at hr
          rw [if_pos (by omega)] at hx
          rw [if_neg (by omega), if_neg (by omega)] at hm
          refine ⟨?_, ?_, ?_⟩
          · rw [if_pos hk]; simp [givenB, hk] at hm ⊢; exact ⟨hm.1, hm.2.1⟩
          · rw [if_pos hk]; rw [hr]; rfl
          · rw [if_pos (by omega)]
        · rw [if_neg (by omega), if_pos hk] at hr
          rw [if_pos (by omega)] at hx
          rw [if_neg (by omega), if_neg (by omega)] at hm
          refine ⟨?_, ?_, ?_⟩
          · rw [if_neg (by omega), if_pos hk]; simp [givenB, hk] at hm ⊢; obtain ⟨q1, q2, q3, q4, q5⟩ := hm; exact ⟨⟨⟨⟨q1, q2⟩, q3⟩, q4⟩, q5⟩
          · rw [if_neg (by omega), if_pos hk]; rw [hr]; rfl
          · rw [if_pos (by omega)]
        · rw [if_neg (by omega), if_neg (by omega), if_pos hk] at hr
          rw [if_neg (by omega)] at hx
          rw [if_neg (by omega), if_neg (by omega)] at hm
          refine ⟨?_, ?_, ?_⟩
          · rw [if_neg (by omega), if_neg (by omega), if_pos hk]; simp [givenB, hk] at hm ⊢; exact hm.1
          · rw [if_neg (by omega), if_neg (by omega), if_pos hk]; rw [hr]; rfl
          · rw [if_neg (by omega)]; exact hx
        · rw [if_neg (by omega), if_neg (by omega), if_neg (by omega), if_pos hk] at hr
          rw [if_neg (by omega)] at hx
          rw [if_neg (by omega), if_neg (by omega)] at hm
          refine ⟨?_, ?_, ?_⟩
          · rw [if_neg (by omega), if_neg (by omega), if_neg (by omega), if_pos hk]; simp [givenB, hk] at hm ⊢; exact ⟨⟨hm.1.1, hm.2.1⟩, hm.2.2⟩
          · rw [if_neg (by omega), if_neg (by omega), if_neg (by omega), if_pos hk]; rw [hr]; rfl
          · rw [if_neg (by omega)]; exact hx
        · rw [if_neg (by omega), if_neg (by omega), if_neg (by omega), if_neg (by omega), if_pos hk] at hr
          rw [if_neg (by omega)] at hx
          rw [if_neg (by omega), if_neg (by omega)] at hm
          refine ⟨?_, ?_, ?_⟩
          · rw [if_neg (by omega), if_neg (by omega), if_neg (by omega), if_neg (by omega), if_pos hk]; simp [givenB, hk] at hm ⊢; exact hm.1
          · rw [if_neg (by omega), if_neg (by omega), if_neg (by omega), if_neg (by omega), if_pos hk]; rw [hr]; rfl
          · rw [if_neg (by omega)]; exact hx
        · rw [if_neg (by omega), if_neg (by omega), if_neg (by omega), if_neg (by omega), if_neg (by omega), if_pos (by omega)] at hr
          rw [if_neg (by omega)] at hx
          rw [if_pos hk] at hm
          refine ⟨?_, ?_, ?_⟩
          · rw [if_neg (by omega), if_neg (by omega), if_neg (by omega), if_neg (by omega), if_neg (by omega), if_pos hk]; exact hm
          · rw [if_neg (by omega), if_neg (by omega), if_neg (by omega), if_neg (by omega), if_neg (by omega)]; rw [hr]; rfl
          · rw [if_neg (by omega)]; exact hx
        · rw [if_neg (by omega), if_neg (by omega), if_neg (by omega), if_neg (by omega), if_neg (by omega), if_pos (by omega)] at hr
          rw [if_neg (by omega)] at hx
          rw [if_neg (by omega), if_pos hk] at hm
          refine ⟨?_, ?_, ?_⟩
          · rw [if_neg (by omega), if_neg (by omega), if_neg (by omega), if_neg (by omega), if_neg (by omega), if_neg (by omega)]; exact hm
          · rw [if_neg (by omega), if_neg (by omega), if_neg (by omega), if_neg (by omega), if_neg (by omega)]; rw [hr]; rfl
          · rw [if_neg (by omega)]; exact hx
  · unfold Rc.may refMay
    rw [if_neg hk, if_pos (.inl (by omega))]

theorem rMay_any (r : Rc) (va : Option Addr) (vn vc : Nat) (x : List Wr) (w : World) (hs : r.shards ≤ 9223372036854775807) (hv : Ws 0 w.heap.size w (.slice va vn vc) x) :
    Calls Try.prog 19 #[.agg (r.cells (.slice va vn vc))] w fun e w' => e = .returned (.bool (r.may x)) ∧ Below w.heap.size w w' := by
  have M := Mem.start w
  rw [may_ref]
  generalize hR : refMay r x = R
  refine calls_enter Try.func19 rfl 71 rfl rfl ?_; intro a S
  refine wp_seq ?_
  -- region 0 ref.go:99
  refine wp_region_lit ?_
  refine st_box S M rfl rfl rfl #[_, _, _, _, _, _, _, _, _, _, _, _] rfl ?_; clear S M a; intro a w1 b1 S M hB
  refine st_y S rfl rfl rfl (y_assign S rfl) ?_; clear S a; intro a S
  refine wpList_nil ?_
  replace S := S.sub [(0, _), (1, _), (2, _)] rfl
  refine then_normal ?_
  refine wp_seq ?_
  refine wp_seq ?_
  -- region 1 ref.go:100
  refine wp_regionK [] #[false, false, false, false, false, false, false, false, false, false, false, false, false, false, false] rfl M (by kernel_rfl) ?_; clear M; intro w2 M
  refine k_pure (listed' := #[true, false, false, false, false, false, false, false, false, false, false, false, false, false, false]) 0 S rfl rfl rfl rfl (by kernel_rfl) rfl (fun _ d _ _ _ h => by cases d <;> exact h) (fun w => y_fieldAddr (k := 0) S (by kernel_rfl) rfl) ?_; clear S a; intro a S
  refine k_read (listed' := #[true, true, false, false, false, false, false, false, false, false, false, false, false, false, false]) 1 S rfl rfl rfl rfl (by kernel_rfl) rfl (fun _ d _ _ _ h => by cases d <;> exact h) (fun w hW => have M := M.grow hW; y_load S (by kernel_rfl) rfl (M.cell 0 rfl rfl)) ?_; clear S a; intro a S
  refine k_pure (listed' := #[true, true, true, false, false, false, false, false, false, false, false, false, false, false, false]) 2 S rfl rfl rfl rfl (by kernel_rfl) rfl (fun _ d _ _ _ h => by cases d <;> exact h) (fun w => y_int S rfl rfl rfl) ?_; clear S a; intro a S
  refine k_pure (listed' := #[true, true, true, true, false, false, false, false, false, false, false, false, false, false, false]) 3 S rfl rfl rfl rfl (by kernel_rfl) rfl (fun _ d _ _ _ h => by cases d <;> exact h) (fun w => y_move S rfl) ?_; clear S a; intro a S
  refine st_split (t := 6) S rfl ?_ ?_
  · clear S; intro h6 S
    first | replace h6 := nrmA h6 | replace h6 := nrmB h6 | skip
    first | replace h6 := nrm1 h6 | replace h6 := nrm2 h6 | replace h6 := nrm3 h6 | replace h6 := nrm4 h6 | replace h6 := nrm5 h6 | replace h6 := nrm6 h6 | replace h6 := of_decide_eq_true h6 | replace h6 := of_decide_eq_false h6 | skip
    refine k_no (listed' := #[true, true, true, true, true, false, false, false, false, false, false, false, false, false, false]) 4 S rfl rfl rfl rfl (by kernel_rfl) rfl (fun _ d _ _ _ h => by cases d <;> exact h) ?_; clear S a; intro a S
    refine k_no (listed' := #[true, true, true, true, true, true, false, false, false, false, false, false, false, false, false]) 5 S rfl rfl rfl rfl (by kernel_rfl) rfl (fun _ d _ _ _ h => by cases d <;> exact h) ?_; clear S a; intro a S
    refine k_no (listed' := #[true, true, true, true, true, true, true, false, false, false, false, false, false, false, false]) 6 S rfl rfl rfl rfl (by kernel_rfl) rfl (fun _ d _ _ _ h => by cases d <;> exact h) ?_; clear S a; intro a S
    refine k_pure (listed' := #[true, true, true, true, true, true, true, true, false, false, false, false, false, false, false]) 7 S rfl rfl rfl rfl (by kernel_rfl) rfl (fun _ d _ _ _ h => by cases d <;> exact h) (fun w => y_pickT S rfl rfl) ?_; clear S a; intro a S
    refine k_pure (listed' := #[true, true, true, true, true, true, true, true, true, false, false, false, false, false, false]) 8 S rfl rfl rfl rfl (by kernel_rfl) rfl (fun _ d _ _ _ h => by cases d <;> exact h) (fun w => y_move S rfl) ?_; clear S a; intro a S
    refine k_no (listed' := #[true, true, true, true, true, true, true, true, true, true, false, false, false, false, false]) 9 S rfl rfl rfl rfl (by kernel_rfl) rfl (fun _ d _ _ _ h => by cases d <;> exact h) ?_; clear S a; intro a S
    refine k_no (listed' := #[true, true, true, true, true, true, true, true, true, true, true, false, false, false, false]) 10 S rfl rfl rfl rfl (by kernel_rfl) rfl (fun _ d _ _ _ h => by cases d <;> exact h) ?_; clear S a; intro a S
    refine k_no (listed' := #[true, true, true, true, true, true, true, true, true, true, true, true, false, false, false]) 11 S rfl rfl rfl rfl (by kernel_rfl) rfl (fun _ d _ _ _ h => by cases d <;> exact h) ?_; clear S a; intro a S
    refine k_no (listed' := #[true, true, true, true, true, true, true, true, true, true, true, true, true, false, false]) 12 S rfl rfl rfl rfl (by kernel_rfl) rfl (fun _ d _ _ _ h => by cases d <;> exact h) ?_; clear S a; intro a S
    refine k_no (listed' := #[true, true, true, true, true, true, true, true, true, true, true, true, true, true, false]) 13 S rfl rfl rfl rfl (by kernel_rfl) rfl (fun _ d _ _ _ h => by cases d <;> exact h) ?_; clear S a; intro a S
    refine k_pure (listed' := #[true, true, true, true, true, true, true, true, true, true, true, true, true, true, true]) 14 S rfl rfl rfl rfl (by kernel_rfl) rfl (fun _ d _ _ _ h => by cases d <;> exact h) (fun w => y_pickT S rfl rfl) ?_; clear S a; intro a S
    refine k_end (by kernel_rfl) ?_
    replace S := S.sub [(0, _), (1, _), (2, _), (17, _)] rfl
    refine then_normal ?_
    refine st_condT S rfl ?_
    refine wp_seq ?_
    -- region 2 ref.go:101
    refine wp_region_lit ?_
    refine st_y S rfl rfl rfl (y_assign S rfl) ?_; clear S a; intro a S
    refine wpList_nil ?_
    replace S := S.sub [(0, _), (1, _), (17, _), (2, _)] rfl
    refine then_normal ?_
    refine wp_ret ?_
    refine then_ret ?_
    refine end_one S rfl (res_tmp rfl) ?_
    refine ⟨ret_bool ?_, M.below⟩; rw [← hR]; clear S M; unfold refMay withinB
    first
      | (rw [if_pos (.inl (by omega))]; done)
      | (rw [if_pos (.inr (by simpa using h17))]; done)
      | (rw [if_neg hns, if_pos (by assumption), Bool.eq_iff_iff]; simp; done)
      | (rw [if_neg hns, if_pos (by assumption), Bool.eq_iff_iff]; simp; omega)
      | (rw [if_neg hns, if_neg (by omega), if_pos (by assumption), Bool.eq_iff_iff]; simp; done)
      | (rw [if_neg hns, if_neg (by omega), if_pos (by assumption), Bool.eq_iff_iff]; simp; omega)
      | (rw [if_neg hns, if_neg (by omega), if_neg (by omega)]; clear hns hsm h17 hR; simp_all; done)
  · clear S; intro h6 S
    first | replace h6 := nrmA h6 | replace h6 := nrmB h6 | skip
    first | replace h6 := nrm1 h6 | replace h6 := nrm2 h6 | replace h6 := nrm3 h6 | replace h6 := nrm4 h6 | replace h6 := nrm5 h6 | replace h6 := nrm6 h6 | replace h6 := of_decide_eq_true h6 | replace h6 := of_decide_eq_false h6 | skip
    refine k_pure (listed' := #[true, true, true, true, true, false, false, false, false, false, false, false, false, false, false]) 4 S rfl rfl rfl rfl (by kernel_rfl) rfl (fun _ d _ _ _ h => by cases d <;> exact h) (fun w => y_fieldAddr (k := 0) S (by kernel_rfl) rfl) ?_; clear S a; intro a S
    refine k_read (listed' := #[true, true, true, true, true, true, false, false, false, false, false, false, false, false, false]) 5 S rfl rfl rfl rfl (by kernel_rfl) rfl (fun _ d _ _ _ h => by cases d <;> exact h) (fun w hW => have M := M.grow hW; y_load S (by kernel_rfl) rfl (M.cell 0 rfl rfl)) ?_; clear S a; intro a S
    refine k_pure (listed' := #[true, true, true, true, true, true, true, false, false, false, false, false, false, false, false]) 6 S rfl rfl rfl rfl (by kernel_rfl) rfl (fun _ d _ _ _ h => by cases d <;> exact h) (fun w => y_int S rfl rfl rfl) ?_; clear S a; intro a S
    refine k_pure (listed' := #[true, true, true, true, true, true, true, true, false, false, false, false, false, false, false]) 7 S rfl rfl rfl rfl (by kernel_rfl) rfl (fun _ d _ _ _ h => by cases d <;> exact h) (fun w => y_pickF S rfl rfl) ?_; clear S a; intro a S
    refine k_pure (listed' := #[true, true, true, true, true, true, true, true, true, false, false, false, false, false, false]) 8 S rfl rfl rfl rfl (by kernel_rfl) rfl (fun _ d _ _ _ h => by cases d <;> exact h) (fun w => y_move S rfl) ?_; clear S a; intro a S
    refine st_split (t := 11) S rfl ?_ ?_
    · clear S; intro h11 S
      first | replace h11 := nrmA h11 | replace h11 := nrmB h11 | skip
      first | replace h11 := nrm1 h11 | replace h11 := nrm2 h11 | replace h11 := nrm3 h11 | replace h11 := nrm4 h11 | replace h11 := nrm5 h11 | replace h11 := nrm6 h11 | replace h11 := of_decide_eq_true h11 | replace h11 := of_decide_eq_false h11 | skip
      refine k_no (listed' := #[true, true, true, true, true, true, true, true, true, true, false, false, false, false, false]) 9 S rfl rfl rfl rfl (by kernel_rfl) rfl (fun _ d _ _ _ h => by cases d <;> exact h) ?_; clear S a; intro a S
      refine k_no (listed' := #[true, true, true, true, true, true, true, true, true, true, true, false, false, false, false]) 10 S rfl rfl rfl rfl (by kernel_rfl) rfl (fun _ d _ _ _ h => by cases d <;> exact h) ?_; clear S a; intro a S
      refine k_no (listed' := #[true, true, true, true, true, true, true, true, true, true, true, true, false, false, false]) 11 S rfl rfl rfl rfl (by kernel_rfl) rfl (fun _ d _ _ _ h => by cases d <;> exact h) ?_; clear S a; intro a S
      refine k_no (listed' := #[true, true, true, true, true, true, true, true, true, true, true, true, true, false, false]) 12 S rfl rfl rfl rfl (by kernel_rfl) rfl (fun _ d _ _ _ h => by cases d <;> exact h) ?_; clear S a; intro a S
      refine k_no (listed' := #[true, true, true, true, true, true, true, true, true, true, true, true, true, true, false]) 13 S rfl rfl rfl rfl (by kernel_rfl) rfl (fun _ d _ _ _ h => by cases d <;> exact h) ?_; clear S a; intro a S
      refine k_pure (listed' := #[true, true, true, true, true, true, true, true, true, true, true, true, true, true, true]) 14 S rfl rfl rfl rfl (by kernel_rfl) rfl (fun _ d _ _ _ h => by cases d <;> exact h) (fun w => y_pickT S rfl rfl) ?_; clear S a; intro a S
      refine k_end (by kernel_rfl) ?_
      replace S := S.sub [(0, _), (1, _), (2, _), (17, _)] rfl
      refine then_normal ?_
      refine st_condT S rfl ?_
      refine wp_seq ?_
      -- region 2 ref.go:101
      refine wp_region_lit ?_
      refine st_y S rfl rfl rfl (y_assign S rfl) ?_; clear S a; intro a S
      refine wpList_nil ?_
      replace S := S.sub [(0, _), (1, _), (17, _), (2, _)] rfl
      refine then_normal ?_
      refine wp_ret ?_
      refine then_ret ?_
      refine end_one S rfl (res_tmp rfl) ?_
      refine ⟨ret_bool ?_, M.below⟩; rw [← hR]; clear S M; unfold refMay withinB
      first
        | (rw [if_pos (.inl (by omega))]; done)
        | (rw [if_pos (.inr (by simpa using h17))]; done)
        | (rw [if_neg hns, if_pos (by assumption), Bool.eq_iff_iff]; simp; done)
        | (rw [if_neg hns, if_pos (by assumption), Bool.eq_iff_iff]; simp; omega)
        | (rw [if_neg hns, if_neg (by omega), if_pos (by assumption), Bool.eq_iff_iff]; simp; done)
        | (rw [if_neg hns, if_neg (by omega), if_pos (by assumption), Bool.eq_iff_iff]; simp; omega)
        | (rw [if_neg hns, if_neg (by omega), if_neg (by omega)]; clear hns hsm h17 hR; simp_all; done)
    · clear S; intro h11 S
      first | replace h11 := nrmA h11 | replace h11 := nrmB h11 | skip
      first | replace h11 := nrm1 h11 | replace h11 := nrm2 h11 | replace h11 := nrm3 h11 | replace h11 := nrm4 h11 | replace h11 := nrm5 h11 | replace h11 := nrm6 h11 | replace h11 := of_decide_eq_true h11 | replace h11 := of_decide_eq_false h11 | skip
      refine k_read (listed' := #[true, true, true, true, true, true, true, true, true, true, false, false, false, false, false]) 9 S rfl rfl rfl rfl (by kernel_rfl) rfl (fun _ d _ _ _ h => by cases d <;> exact h) (fun w hW => have M := M.grow hW; y_loadAgg (cs := [_, _, _, _, _, _, _, _, _, _, _, _]) S (by kernel_rfl) rfl rfl (M.cellsAt (k := 12) 0 rfl rfl)) ?_; clear S a; intro a S
      refine k_read (listed' := #[true, true, true, true, true, true, true, true, true, true, true, false, false, false, false]) 10 S rfl rfl rfl rfl (by kernel_rfl) rfl (fun _ d _ _ _ h => by cases d <;> exact h) (fun w hW => have M := M.grow hW; y_loadAgg (cs := [_, _, _, _, _, _, _, _, _, _, _, _]) S (by kernel_rfl) rfl rfl (M.cellsAt (k := 12) 0 rfl rfl)) ?_; clear S a; intro a S
      refine k_one (listed' := #[true, true, true, true, true, true, true, true, true, true, true, true, false, false, false]) 11 rfl (by kernel_rfl) rfl ?_
      refine st_call (xs := [(Operand.tmp 13)]) S (enters_of Try.func45 (by decide) rfl) rfl rfl rfl (fields_any r va vn vc x _) ?_
      rintro _ w3 ⟨ad, l, c, rfl, hK, hV⟩; refine ⟨_, rfl, ?_⟩; clear S a; intro a S; replace M := M.grow hK
      have hW : Ws 0 w.heap.size w (.slice ad l c) (fldX r x) := by
        rcases hV with ⟨rfl, rfl, rfl, e⟩ | ⟨rfl, rfl, rfl, e⟩ <;> rw [e]
        · exact Rd.nil _ _ _ _
        · exact hv
      refine wpList_nil ?_; refine then_normal ?_; refine ⟨fun _ => hK, ?_⟩
      refine k_one (listed' := #[true, true, true, true, true, true, true, true, true, true, true, true, true, false, false]) 12 rfl (by kernel_rfl) rfl ?_
      refine st_call (xs := [(Operand.tmp 12), (Operand.tmp 14)]) S (enters_of Try.func24 (by decide) rfl) rfl rfl rfl (rSame_any r r.flds _ _ x (fldX r x) _ (M.argW hv) (M.argW hW)) ?_
      rintro _ w4 ⟨rfl, hK⟩; refine ⟨_, rfl, ?_⟩; clear S a; intro a S; replace M := M.grow hK
      refine wpList_nil ?_; refine then_normal ?_; refine ⟨fun _ => hK, ?_⟩
      refine k_pure (listed' := #[true, true, true, true, true, true, true, true, true, true, true, true, true, true, false]) 13 S rfl rfl rfl rfl (by kernel_rfl) rfl (fun _ d _ _ _ h => by cases d <;> exact h) (fun w => y_not S rfl) ?_; clear S a; intro a S
      refine k_pure (listed' := #[true, true, true, true, true, true, true, true, true, true, true, true, true, true, true]) 14 S rfl rfl rfl rfl (by kernel_rfl) rfl (fun _ d _ _ _ h => by cases d <;> exact h) (fun w => y_pickF S rfl rfl) ?_; clear S a; intro a S
      refine k_end (by kernel_rfl) ?_
      replace S := S.sub [(0, _), (1, _), (2, _), (17, _)] rfl
      refine then_normal ?_
      refine st_split (t := 17) S rfl ?_ ?_
      · clear S; intro h17 S
        refine st_condT S rfl ?_
        refine wp_seq ?_
        -- region 2 ref.go:101
        refine wp_region_lit ?_
        refine st_y S rfl rfl rfl (y_assign S rfl) ?_; clear S a; intro a S
        refine wpList_nil ?_
        replace S := S.sub [(0, _), (1, _), (17, _), (2, _)] rfl
        refine then_normal ?_
        refine wp_ret ?_
        refine then_ret ?_
        refine end_one S rfl (res_tmp rfl) ?_
        refine ⟨ret_bool ?_, M.below⟩; rw [← hR]; clear S M; unfold refMay withinB
        first
          | (rw [if_pos (.inl (by omega))]; done)
          | (rw [if_pos (.inr (by simpa using h17))]; done)
          | (rw [if_neg hns, if_pos (by assumption), Bool.eq_iff_iff]; simp; done)
          | (rw [if_neg hns, if_pos (by assumption), Bool.eq_iff_iff]; simp; omega)
          | (rw [if_neg hns, if_neg (by omega), if_pos (by assumption), Bool.eq_iff_iff]; simp; done)
          | (rw [if_neg hns, if_neg (by omega), if_pos (by assumption), Bool.eq_iff_iff]; simp; omega)
          | (rw [if_neg hns, if_neg (by omega), if_neg (by omega)]; clear hns hsm h17 hR; simp_all; done)
      · clear S; intro h17 S
        refine st_condF S rfl ?_
        refine wp_skip ?_
        refine then_normal ?_
        refine wp_seq ?_
        refine wp_seq ?_
        -- region 3 ref.go:103
        have hsm : r.same r.flds x (fldX r x) = true := by simpa using h17
        have hns : ¬ ((r.kind < 1 ∨ 7 < r.kind) ∨ r.same r.flds x (fldX r x) = false) := by
          rintro (h | h)
          · omega
          · rw [hsm] at h; cases h
        refine wp_region_lit ?_
        refine st_y S rfl rfl rfl (y_fieldAddr (k := 0) S (by kernel_rfl) rfl) ?_; clear S a; intro a S
        refine st_y S rfl rfl rfl (y_load S (by kernel_rfl) rfl (M.cell 0 rfl rfl)) ?_; clear S a; intro a S
        refine wpList_nil ?_
        replace S := S.sub [(0, _), (1, _), (2, _), (17, _), (19, _)] rfl
        refine then_normal ?_
        refine wp_block ?_
        refine wp_seq ?_
        -- region 4 ref.go:104
        refine wp_region_lit ?_
        refine st_y S rfl rfl rfl (y_int S rfl rfl rfl) ?_; clear S a; intro a S
        refine st_y S rfl rfl rfl (y_assign S rfl) ?_; clear S a; intro a S
        refine wpList_nil ?_
        replace S := S.sub [(0, _), (1, _), (2, _), (17, _), (19, _), (20, _)] rfl
        refine then_normal ?_
        refine st_split (t := 20) S rfl ?_ ?_
        · clear S; intro h20 S
          first | replace h20 := nrmA h20 | replace h20 := nrmB h20 | skip
          first | replace h20 := nrm1 h20 | replace h20 := nrm2 h20 | replace h20 := nrm3 h20 | replace h20 := nrm4 h20 | replace h20 := nrm5 h20 | replace h20 := nrm6 h20 | replace h20 := of_decide_eq_true h20 | replace h20 := of_decide_eq_false h20 | skip
          refine st_condT S rfl ?_
          refine wp_seq ?_
          -- region 5 ref.go:105
          refine wp_region_lit ?_
          refine st_y S rfl rfl rfl (y_fieldAddr (k := 11) S (by kernel_rfl) rfl) ?_; clear S a; intro a S
          refine st_y S rfl rfl rfl (y_load S (by kernel_rfl) rfl (M.cell 0 rfl rfl)) ?_; clear S a; intro a S
          refine st_y S rfl rfl rfl (y_int S rfl rfl rfl) ?_; clear S a; intro a S
          refine st_y S rfl rfl rfl (y_move S rfl) ?_; clear S a; intro a S
          refine st_split (t := 25) S rfl ?_ ?_
          · clear S; intro h25 S
            first | replace h25 := nrmA h25 | replace h25 := nrmB h25 | skip
            first | replace h25 := nrm1 h25 | replace h25 := nrm2 h25 | replace h25 := nrm3 h25 | replace h25 := nrm4 h25 | replace h25 := nrm5 h25 | replace h25 := nrm6 h25 | replace h25 := of_decide_eq_true h25 | replace h25 := of_decide_eq_false h25 | skip
            refine st_y S rfl rfl rfl (y_fieldAddr (k := 11) S (by kernel_rfl) rfl) ?_; clear S a; intro a S
            refine st_y S rfl rfl rfl (y_load S (by kernel_rfl) rfl (M.cell 0 rfl rfl)) ?_; clear S a; intro a S
            refine st_y S rfl rfl rfl (y_int S rfl rfl rfl) ?_; clear S a; intro a S
            refine st_y S rfl rfl rfl (y_pickT S rfl rfl) ?_; clear S a; intro a S
            refine st_y S rfl rfl rfl (y_assign S rfl) ?_; clear S a; intro a S
            refine wpList_nil ?_
            replace S := S.sub [(0, _), (1, _), (17, _), (19, _), (20, _), (2, _)] rfl
            refine then_normal ?_
            refine wp_ret ?_
            refine block_ret ?_
            refine then_ret ?_
            refine end_one S rfl (res_tmp rfl) ?_
            refine ⟨ret_bool ?_, M.below⟩; rw [← hR]; clear S M; unfold refMay withinB
            first
              | (rw [if_pos (.inl (by omega))]; done)
              | (rw [if_pos (.inr (by simpa using h17))]; done)
              | (rw [if_neg hns, if_pos (by assumption), Bool.eq_iff_iff]; simp; done)
              | (rw [if_neg hns, if_pos (by assumption), Bool.eq_iff_iff]; simp; omega)
              | (rw [if_neg hns, if_neg (by omega), if_pos (by assumption), Bool.eq_iff_iff]; simp; done)
              | (rw [if_neg hns, if_neg (by omega), if_pos (by assumption), Bool.eq_iff_iff]; simp; omega)
              | (rw [if_neg hns, if_neg (by omega), if_neg (by omega)]; clear hns hsm h17 hR; simp_all; done)
          · clear S; intro h25 S
            first | replace h25 := nrmA h25 | replace h25 := nrmB h25 | skip
            first | replace h25 := nrm1 h25 | replace h25 := nrm2 h25 | replace h25 := nrm3 h25 | replace h25 := nrm4 h25 | replace h25 := nrm5 h25 | replace h25 := nrm6 h25 | replace h25 := of_decide_eq_true h25 | replace h25 := of_decide_eq_false h25 | skip
            refine st_no S rfl rfl rfl ?_; clear S a; intro a S
            refine st_no S rfl rfl rfl ?_; clear S a; intro a S
            refine st_no S rfl rfl rfl ?_; clear S a; intro a S
            refine st_y S rfl rfl rfl (y_pickF S rfl rfl) ?_; clear S a; intro a S
            refine st_y S rfl rfl rfl (y_assign S rfl) ?_; clear S a; intro a S
            refine wpList_nil ?_
            replace S := S.sub [(0, _), (1, _), (17, _), (19, _), (20, _), (2, _)] rfl
            refine then_normal ?_
            refine wp_ret ?_
            refine block_ret ?_
            refine then_ret ?_
            refine end_one S rfl (res_tmp rfl) ?_
            refine ⟨ret_bool ?_, M.below⟩; rw [← hR]; clear S M; unfold refMay withinB
            first
              | (rw [if_pos (.inl (by omega))]; done)
              | (rw [if_pos (.inr (by simpa using h17))]; done)
              | (rw [if_neg hns, if_pos (by assumption), Bool.eq_iff_iff]; simp; done)
              | (rw [if_neg hns, if_pos (by assumption), Bool.eq_iff_iff]; simp; omega)
              | (rw [if_neg hns, if_neg (by omega), if_pos (by assumption), Bool.eq_iff_iff]; simp; done)
              | (rw [if_neg hns, if_neg (by omega), if_pos (by assumption), Bool.eq_iff_iff]; simp; omega)
              | (rw [if_neg hns, if_neg (by omega), if_neg (by omega)]; clear hns hsm h17 hR; simp_all; done)
        · clear S; intro h20 S
          first | replace h20 := nrmA h20 | replace h20 := nrmB h20 | skip
          first | replace h20 := nrm1 h20 | replace h20 := nrm2 h20 | replace h20 := nrm3 h20 | replace h20 := nrm4 h20 | replace h20 := nrm5 h20 | replace h20 := nrm6 h20 | replace h20 := of_decide_eq_true h20 | replace h20 := of_decide_eq_false h20 | skip
          refine st_condF S rfl ?_
          refine wp_seq ?_
          -- region 6 ref.go:106
          refine wp_region_lit ?_
          refine st_y S rfl rfl rfl (y_int S rfl rfl rfl) ?_; clear S a; intro a S
          refine st_y S rfl rfl rfl (y_assign S rfl) ?_; clear S a; intro a S
          refine wpList_nil ?_
          replace S := S.sub [(0, _), (1, _), (2, _), (17, _), (19, _), (20, _), (30, _)] rfl
          refine then_normal ?_
          refine st_split (t := 30) S rfl ?_ ?_
          · clear S; intro h30 S
            first | replace h30 := nrmA h30 | replace h30 := nrmB h30 | skip
            first | replace h30 := nrm1 h30 | replace h30 := nrm2 h30 | replace h30 := nrm3 h30 | replace h30 := nrm4 h30 | replace h30 := nrm5 h30 | replace h30 := nrm6 h30 | replace h30 := of_decide_eq_true h30 | replace h30 := of_decide_eq_false h30 | skip
            refine st_condT S rfl ?_
            refine wp_seq ?_
            -- region 7 ref.go:107
            refine wp_region_lit ?_
            refine st_y S rfl rfl rfl (y_fieldAddr (k := 11) S (by kernel_rfl) rfl) ?_; clear S a; intro a S
            refine st_y S rfl rfl rfl (y_load S (by kernel_rfl) rfl (M.cell 0 rfl rfl)) ?_; clear S a; intro a S
            refine st_y S rfl rfl rfl (y_int S rfl rfl rfl) ?_; clear S a; intro a S
            refine st_y S rfl rfl rfl (y_move S rfl) ?_; clear S a; intro a S
            refine st_split (t := 35) S rfl ?_ ?_
            · clear S; intro h35 S
              first | replace h35 := nrmA h35 | replace h35 := nrmB h35 | skip
              first | replace h35 := nrm1 h35 | replace h35 := nrm2 h35 | replace h35 := nrm3 h35 | replace h35 := nrm4 h35 | replace h35 := nrm5 h35 | replace h35 := nrm6 h35 | replace h35 := of_decide_eq_true h35 | replace h35 := of_decide_eq_false h35 | skip
              refine st_y S rfl rfl rfl (y_fieldAddr (k := 11) S (by kernel_rfl) rfl) ?_; clear S a; intro a S
              refine st_y S rfl rfl rfl (y_load S (by kernel_rfl) rfl (M.cell 0 rfl rfl)) ?_; clear S a; intro a S
              refine st_y S rfl rfl rfl (y_int S rfl rfl rfl) ?_; clear S a; intro a S
              refine st_y S rfl rfl rfl (y_pickT S rfl rfl) ?_; clear S a; intro a S
              refine st_y S rfl rfl rfl (y_assign S rfl) ?_; clear S a; intro a S
              refine wpList_nil ?_
              replace S := S.sub [(0, _), (1, _), (17, _), (19, _), (20, _), (30, _), (2, _)] rfl
              refine then_normal ?_
              refine wp_ret ?_
              refine block_ret ?_
              refine then_ret ?_
              refine end_one S rfl (res_tmp rfl) ?_
              refine ⟨ret_bool ?_, M.below⟩; rw [← hR]; clear S M; unfold refMay withinB
              first
                | (rw [if_pos (.inl (by omega))]; done)
                | (rw [if_pos (.inr (by simpa using h17))]; done)
                | (rw [if_neg hns, if_pos (by assumption), Bool.eq_iff_iff]; simp; done)
                | (rw [if_neg hns, if_pos (by assumption), Bool.eq_iff_iff]; simp; omega)
                | (rw [if_neg hns, if_neg (by omega), if_pos (by assumption), Bool.eq_iff_iff]; simp; done)
                | (rw [if_neg hns, if_neg (by omega), if_pos (by assumption), Bool.eq_iff_iff]; simp; omega)
                | (rw [if_neg hns, if_neg (by omega), if_neg (by omega)]; clear hns hsm h17 hR; simp_all; done)
            · clear S; intro h35 S
              first | replace h35 := nrmA h35 | replace h35 := nrmB h35 | skip
              first | replace h35 := nrm1 h35 | replace h35 := nrm2 h35 | replace h35 := nrm3 h35 | replace h35 := nrm4 h35 | replace h35 := nrm5 h35 | replace h35 := nrm6 h35 | replace h35 := of_decide_eq_true h35 | replace h35 := of_decide_eq_false h35 | skip
              refine st_no S rfl rfl rfl ?_; clear S a; intro a S
              refine st_no S rfl rfl rfl ?_; clear S a; intro a S
              refine st_no S rfl rfl rfl ?_; clear S a; intro a S
              refine st_y S rfl rfl rfl (y_pickF S rfl rfl) ?_; clear S a; intro a S
              refine st_y S rfl rfl rfl (y_assign S rfl) ?_; clear S a; intro a S
              refine wpList_nil ?_
              replace S := S.sub [(0, _), (1, _), (17, _), (19, _), (20, _), (30, _), (2, _)] rfl
              refine then_normal ?_
              refine wp_ret ?_
              refine block_ret ?_
              refine then_ret ?_
              refine end_one S rfl (res_tmp rfl) ?_
              refine ⟨ret_bool ?_, M.below⟩; rw [← hR]; clear S M; unfold refMay withinB
              first
                | (rw [if_pos (.inl (by omega))]; done)
                | (rw [if_pos (.inr (by simpa using h17))]; done)
                | (rw [if_neg hns, if_pos (by assumption), Bool.eq_iff_iff]; simp; done)
                | (rw [if_neg hns, if_pos (by assumption), Bool.eq_iff_iff]; simp; omega)
                | (rw [if_neg hns, if_neg (by omega), if_pos (by assumption), Bool.eq_iff_iff]; simp; done)
                | (rw [if_neg hns, if_neg (by omega), if_pos (by assumption), Bool.eq_iff_iff]; simp; omega)
                | (rw [if_neg hns, if_neg (by omega), if_neg (by omega)]; clear hns hsm h17 hR; simp_all; done)
          · clear S; intro h30 S
            first | replace h30 := nrmA h30 | replace h30 := nrmB h30 | skip
            first | replace h30 := nrm1 h30 | replace h30 := nrm2 h30 | replace h30 := nrm3 h30 | replace h30 := nrm4 h30 | replace h30 := nrm5 h30 | replace h30 := nrm6 h30 | replace h30 := of_decide_eq_true h30 | replace h30 := of_decide_eq_false h30 | skip
            refine st_condF S rfl ?_
            refine wp_skip ?_
            refine block_normal ?_
            refine then_normal ?_
            refine wp_seq ?_
            refine wp_seq ?_
            -- region 8 ref.go:109
            refine wp_region_lit ?_
            refine st_y S rfl rfl rfl (y_fieldAddr (k := 1) S (by kernel_rfl) rfl) ?_; clear S a; intro a S
            refine st_y S rfl rfl rfl (y_loadAgg (cs := [_, _, _]) S (by kernel_rfl) rfl rfl (M.cellsAt (k := 3) 0 rfl rfl)) ?_; clear S a; intro a S
            refine st_call (xs := [(Operand.tmp 41)]) S (enters_of Try.func21 (by decide) rfl) rfl rfl rfl (rNamed_any r.name _) ?_
            rintro _ w5 ⟨rfl, hK⟩; refine ⟨_, rfl, ?_⟩; clear S a; intro a S; replace M := M.grow hK
            refine st_y S rfl rfl rfl (y_not S rfl) ?_; clear S a; intro a S
            refine st_y S rfl rfl rfl (y_move S rfl) ?_; clear S a; intro a S
            refine st_split (t := 44) S rfl ?_ ?_
            · clear S; intro h44 S
              refine st_no S rfl rfl rfl ?_; clear S a; intro a S
              refine st_no S rfl rfl rfl ?_; clear S a; intro a S
              refine st_no S rfl rfl rfl ?_; clear S a; intro a S
              refine st_no S rfl rfl rfl ?_; clear S a; intro a S
              refine st_y S rfl rfl rfl (y_pickT S rfl rfl) ?_; clear S a; intro a S
              refine st_y S rfl rfl rfl (y_move S rfl) ?_; clear S a; intro a S
              refine st_no S rfl rfl rfl ?_; clear S a; intro a S
              refine st_no S rfl rfl rfl ?_; clear S a; intro a S
              refine st_no S rfl rfl rfl ?_; clear S a; intro a S
              refine st_no S rfl rfl rfl ?_; clear S a; intro a S
              refine st_no S rfl rfl rfl ?_; clear S a; intro a S
              refine st_no S rfl rfl rfl ?_; clear S a; intro a S
              refine st_y S rfl rfl rfl (y_pickT S rfl rfl) ?_; clear S a; intro a S
              refine wpList_nil ?_
              replace S := S.sub [(0, _), (1, _), (2, _), (17, _), (19, _), (20, _), (30, _), (57, _)] rfl
              refine then_normal ?_
              refine st_condT S rfl ?_
              refine wp_seq ?_
              -- region 9 ref.go:110
              refine wp_region_lit ?_
              refine st_y S rfl rfl rfl (y_assign S rfl) ?_; clear S a; intro a S
              refine wpList_nil ?_
              replace S := S.sub [(0, _), (1, _), (17, _), (19, _), (20, _), (30, _), (57, _), (2, _)] rfl
              refine then_normal ?_
              refine wp_ret ?_
              refine then_ret ?_
              refine end_one S rfl (res_tmp rfl) ?_
              refine ⟨ret_bool ?_, M.below⟩; rw [← hR]; clear S M; unfold refMay withinB
              first
                | (rw [if_pos (.inl (by omega))]; done)
                | (rw [if_pos (.inr (by simpa using h17))]; done)
                | (rw [if_neg hns, if_pos (by assumption), Bool.eq_iff_iff]; simp; done)
                | (rw [if_neg hns, if_pos (by assumption), Bool.eq_iff_iff]; simp; omega)
                | (rw [if_neg hns, if_neg (by omega), if_pos (by assumption), Bool.eq_iff_iff]; simp; done)
                | (rw [if_neg hns, if_neg (by omega), if_pos (by assumption), Bool.eq_iff_iff]; simp; omega)
                | (rw [if_neg hns, if_neg (by omega), if_neg (by omega)]; clear hns hsm h17 hR; simp_all; done)
            · clear S; intro h44 S
              refine st_y S rfl rfl rfl (y_fieldAddr (k := 5) S (by kernel_rfl) rfl) ?_; clear S a; intro a S
              refine st_y S rfl rfl rfl (y_load S (by kernel_rfl) rfl (M.cell 0 rfl rfl)) ?_; clear S a; intro a S
              refine st_call (xs := [(Operand.tmp 46)]) S (enters_of Try.func23 (by decide) rfl) rfl rfl rfl (rWritten_any _ x _ (M.argW hv)) ?_
              rintro _ w6 ⟨rfl, hK⟩; refine ⟨_, rfl, ?_⟩; clear S a; intro a S; replace M := M.grow hK
              refine st_y S rfl rfl rfl (y_not S rfl) ?_; clear S a; intro a S
              refine st_y S rfl rfl rfl (y_pickF S rfl rfl) ?_; clear S a; intro a S
              refine st_y S rfl rfl rfl (y_move S rfl) ?_; clear S a; intro a S
              refine st_split (t := 50) S rfl ?_ ?_
              · clear S; intro h50 S
                refine st_no S rfl rfl rfl ?_; clear S a; intro a S
                refine st_no S rfl rfl rfl ?_; clear S a; intro a S
                refine st_no S rfl rfl rfl ?_; clear S a; intro a S
                refine st_no S rfl rfl rfl ?_; clear S a; intro a S
                refine st_no S rfl rfl rfl ?_; clear S a; intro a S
                refine st_no S rfl rfl rfl ?_; clear S a; intro a S
                refine st_y S rfl rfl rfl (y_pickT S rfl rfl) ?_; clear S a; intro a S
                refine wpList_nil ?_
                replace S := S.sub [(0, _), (1, _), (2, _), (17, _), (19, _), (20, _), (30, _), (57, _)] rfl
                refine then_normal ?_
                refine st_condT S rfl ?_
                refine wp_seq ?_
                -- region 9 ref.go:110
                refine wp_region_lit ?_
                refine st_y S rfl rfl rfl (y_assign S rfl) ?_; clear S a; intro a S
                refine wpList_nil ?_
                replace S := S.sub [(0, _), (1, _), (17, _), (19, _), (20, _), (30, _), (57, _), (2, _)] rfl
                refine then_normal ?_
                refine wp_ret ?_
                refine then_ret ?_
                refine end_one S rfl (res_tmp rfl) ?_
                refine ⟨ret_bool ?_, M.below⟩; rw [← hR]; clear S M; unfold refMay withinB
                first
                  | (rw [if_pos (.inl (by omega))]; done)
                  | (rw [if_pos (.inr (by simpa using h17))]; done)
                  | (rw [if_neg hns, if_pos (by assumption), Bool.eq_iff_iff]; simp; done)
                  | (rw [if_neg hns, if_pos (by assumption), Bool.eq_iff_iff]; simp; omega)
                  | (rw [if_neg hns, if_neg (by omega), if_pos (by assumption), Bool.eq_iff_iff]; simp; done)
                  | (rw [if_neg hns, if_neg (by omega), if_pos (by assumption), Bool.eq_iff_iff]; simp; omega)
                  | (rw [if_neg hns, if_neg (by omega), if_neg (by omega)]; clear hns hsm h17 hR; simp_all; done)
              · clear S; intro h50 S
                refine st_y S rfl rfl rfl (y_fieldAddr (k := 6) S (by kernel_rfl) rfl) ?_; clear S a; intro a S
                refine st_y S rfl rfl rfl (y_load S (by kernel_rfl) rfl (M.cell 0 rfl rfl)) ?_; clear S a; intro a S
                refine st_y S rfl rfl rfl (y_fieldAddr (k := 7) S (by kernel_rfl) rfl) ?_; clear S a; intro a S
                refine st_y S rfl rfl rfl (y_load S (by kernel_rfl) rfl (M.cell 0 rfl rfl)) ?_; clear S a; intro a S
                refine st_call (xs := [(Operand.tmp 52), (Operand.tmp 54)]) S (enters_of Try.func46 (by decide) rfl) rfl rfl rfl (given_any _ _ _) ?_
                rintro _ w7 ⟨rfl, hK⟩; refine ⟨_, rfl, ?_⟩; clear S a; intro a S; replace M := M.grow hK
                refine st_y S rfl rfl rfl (y_not S rfl) ?_; clear S a; intro a S
                refine st_y S rfl rfl rfl (y_pickF S rfl rfl) ?_; clear S a; intro a S
                refine wpList_nil ?_
                replace S := S.sub [(0, _), (1, _), (2, _), (17, _), (19, _), (20, _), (30, _), (57, _)] rfl
                refine then_normal ?_
                refine st_split (t := 57) S rfl ?_ ?_
                · clear S; intro h57 S
                  refine st_condT S rfl ?_
                  refine wp_seq ?_
                  -- region 9 ref.go:110
                  refine wp_region_lit ?_
                  refine st_y S rfl rfl rfl (y_assign S rfl) ?_; clear S a; intro a S
                  refine wpList_nil ?_
                  replace S := S.sub [(0, _), (1, _), (17, _), (19, _), (20, _), (30, _), (57, _), (2, _)] rfl
                  refine then_normal ?_
                  refine wp_ret ?_
                  refine then_ret ?_
                  refine end_one S rfl (res_tmp rfl) ?_
                  refine ⟨ret_bool ?_, M.below⟩; rw [← hR]; clear S M; unfold refMay withinB
                  first
                    | (rw [if_pos (.inl (by omega))]; done)
                    | (rw [if_pos (.inr (by simpa using h17))]; done)
                    | (rw [if_neg hns, if_pos (by assumption), Bool.eq_iff_iff]; simp; done)
                    | (rw [if_neg hns, if_pos (by assumption), Bool.eq_iff_iff]; simp; omega)
                    | (rw [if_neg hns, if_neg (by omega), if_pos (by assumption), Bool.eq_iff_iff]; simp; done)
                    | (rw [if_neg hns, if_neg (by omega), if_pos (by assumption), Bool.eq_iff_iff]; simp; omega)
                    | (rw [if_neg hns, if_neg (by omega), if_neg (by omega)]; clear hns hsm h17 hR; simp_all; done)
                · clear S; intro h57 S
                  refine st_condF S rfl ?_
                  refine wp_skip ?_
                  refine then_normal ?_
                  refine wp_seq ?_
                  -- region 10 ref.go:112
                  refine wp_region_lit ?_
                  refine st_y S rfl rfl rfl (y_fieldAddr (k := 0) S (by kernel_rfl) rfl) ?_; clear S a; intro a S
                  refine st_y S rfl rfl rfl (y_load S (by kernel_rfl) rfl (M.cell 0 rfl rfl)) ?_; clear S a; intro a S
                  refine st_y S rfl rfl rfl (y_int S rfl rfl rfl) ?_; clear S a; intro a S
                  refine st_y S rfl rfl rfl (y_move S rfl) ?_; clear S a; intro a S
                  refine st_split (t := 61) S rfl ?_ ?_
                  · clear S; intro h61 S
                    first | replace h61 := nrmA h61 | replace h61 := nrmB h61 | skip
                    first | replace h61 := nrm1 h61 | replace h61 := nrm2 h61 | replace h61 := nrm3 h61 | replace h61 := nrm4 h61 | replace h61 := nrm5 h61 | replace h61 := nrm6 h61 | replace h61 := of_decide_eq_true h61 | replace h61 := of_decide_eq_false h61 | skip
                    refine st_no S rfl rfl rfl ?_; clear S a; intro a S
                    refine st_no S rfl rfl rfl ?_; clear S a; intro a S
                    refine st_no S rfl rfl rfl ?_; clear S a; intro a S
                    refine st_no S rfl rfl rfl ?_; clear S a; intro a S
                    refine st_no S rfl rfl rfl ?_; clear S a; intro a S
                    refine st_no S rfl rfl rfl ?_; clear S a; intro a S
                    refine st_no S rfl rfl rfl ?_; clear S a; intro a S
                    refine st_no S rfl rfl rfl ?_; clear S a; intro a S
                    refine st_y S rfl rfl rfl (y_pickT S rfl rfl) ?_; clear S a; intro a S
                    refine st_y S rfl rfl rfl (y_assign S rfl) ?_; clear S a; intro a S
                    refine wpList_nil ?_
                    replace S := S.sub [(0, _), (1, _), (17, _), (19, _), (20, _), (30, _), (57, _), (2, _)] rfl
                    refine then_normal ?_
                    refine wp_ret ?_
                    refine end_one S rfl (res_tmp rfl) ?_
                    refine ⟨ret_bool ?_, M.below⟩; rw [← hR]; clear S M; unfold refMay withinB
                    first
                      | (rw [if_pos (.inl (by omega))]; done)
                      | (rw [if_pos (.inr (by simpa using h17))]; done)
                      | (rw [if_neg hns, if_pos (by assumption), Bool.eq_iff_iff]; simp; done)
                      | (rw [if_neg hns, if_pos (by assumption), Bool.eq_iff_iff]; simp; omega)
                      | (rw [if_neg hns, if_neg (by omega), if_pos (by assumption), Bool.eq_iff_iff]; simp; done)
                      | (rw [if_neg hns, if_neg (by omega), if_pos (by assumption), Bool.eq_iff_iff]; simp; omega)
                      | (rw [if_neg hns, if_neg (by omega), if_neg (by omega)]; clear hns hsm h17 hR; simp_all; done)
                  · clear S; intro h61 S
                    first | replace h61 := nrmA h61 | replace h61 := nrmB h61 | skip
                    first | replace h61 := nrm1 h61 | replace h61 := nrm2 h61 | replace h61 := nrm3 h61 | replace h61 := nrm4 h61 | replace h61 := nrm5 h61 | replace h61 := nrm6 h61 | replace h61 := of_decide_eq_true h61 | replace h61 := of_decide_eq_false h61 | skip
                    refine st_y S rfl rfl rfl (y_fieldAddr (k := 8) S (by kernel_rfl) rfl) ?_; clear S a; intro a S
                    refine st_y S rfl rfl rfl (y_load S (by kernel_rfl) rfl (M.cell 0 rfl rfl)) ?_; clear S a; intro a S
                    refine st_call (xs := [(Operand.tmp 63)]) S (enters_of Try.func47 (by decide) rfl) rfl rfl rfl (rShards_any _ _ hs) ?_
                    rintro _ w8 ⟨rfl, hK⟩; refine ⟨_, rfl, ?_⟩; clear S a; intro a S; replace M := M.grow hK
                    refine st_y S rfl rfl rfl (y_move S rfl) ?_; clear S a; intro a S
                    refine st_split (t := 65) S rfl ?_ ?_
                    · clear S; intro h65 S
                      refine st_y S rfl rfl rfl (y_fieldAddr (k := 9) S (by kernel_rfl) rfl) ?_; clear S a; intro a S
                      refine st_y S rfl rfl rfl (y_loadAgg (cs := [_, _]) S (by kernel_rfl) rfl rfl (M.cellsAt (k := 2) 0 rfl rfl)) ?_; clear S a; intro a S
                      refine st_call (xs := [(Operand.tmp 67)]) S (enters_of Try.func48 (by decide) rfl) rfl rfl rfl (rChanged_any _ _ _) ?_
                      rintro _ w9 ⟨rfl, hK⟩; refine ⟨_, rfl, ?_⟩; clear S a; intro a S; replace M := M.grow hK
                      refine st_y S rfl rfl rfl (y_pickT S rfl rfl) ?_; clear S a; intro a S
                      refine st_y S rfl rfl rfl (y_pickF S rfl rfl) ?_; clear S a; intro a S
                      refine st_y S rfl rfl rfl (y_assign S rfl) ?_; clear S a; intro a S
                      refine wpList_nil ?_
                      replace S := S.sub [(0, _), (1, _), (17, _), (19, _), (20, _), (30, _), (57, _), (2, _)] rfl
                      refine then_normal ?_
                      refine wp_ret ?_
                      refine end_one S rfl (res_tmp rfl) ?_
                      refine ⟨ret_bool ?_, M.below⟩; rw [← hR]; clear S M; unfold refMay withinB
                      first
                        | (rw [if_pos (.inl (by omega))]; done)
                        | (rw [if_pos (.inr (by simpa using h17))]; done)
                        | (rw [if_neg hns, if_pos (by assumption), Bool.eq_iff_iff]; simp; done)
                        | (rw [if_neg hns, if_pos (by assumption), Bool.eq_iff_iff]; simp; omega)
                        | (rw [if_neg hns, if_neg (by omega), if_pos (by assumption), Bool.eq_iff_iff]; simp; done)
                        | (rw [if_neg hns, if_neg (by omega), if_pos (by assumption), Bool.eq_iff_iff]; simp; omega)
                        | (rw [if_neg hns, if_neg (by omega), if_neg (by omega)]; clear hns hsm h17 hR; simp_all; done)
                    · clear S; intro h65 S
                      refine st_no S rfl rfl rfl ?_; clear S a; intro a S
                      refine st_no S rfl rfl rfl ?_; clear S a; intro a S
                      refine st_no S rfl rfl rfl ?_; clear S a; intro a S
                      refine st_y S rfl rfl rfl (y_pickF S rfl rfl) ?_; clear S a; intro a S
                      refine st_y S rfl rfl rfl (y_pickF S rfl rfl) ?_; clear S a; intro a S
                      refine st_y S rfl rfl rfl (y_assign S rfl) ?_; clear S a; intro a S
                      refine wpList_nil ?_
                      replace S := S.sub [(0, _), (1, _), (17, _), (19, _), (20, _), (30, _), (57, _), (2, _)] rfl
                      refine then_normal ?_
                      refine wp_ret ?_
                      refine end_one S rfl (res_tmp rfl) ?_
                      refine ⟨ret_bool ?_, M.below⟩; rw [← hR]; clear S M; unfold refMay withinB
                      first
                        | (rw [if_pos (.inl (by omega))]; done)
                        | (rw [if_pos (.inr (by simpa using h17))]; done)
                        | (rw [if_neg hns, if_pos (by assumption), Bool.eq_iff_iff]; simp; done)
                        | (rw [if_neg hns, if_pos (by assumption), Bool.eq_iff_iff]; simp; omega)
                        | (rw [if_neg hns, if_neg (by omega), if_pos (by assumption), Bool.eq_iff_iff]; simp; done)
                        | (rw [if_neg hns, if_neg (by omega), if_pos (by assumption), Bool.eq_iff_iff]; simp; omega)
                        | (rw [if_neg hns, if_neg (by omega), if_neg (by omega)]; clear hns hsm h17 hR; simp_all; done)
theorem may_len {r : Rc} {x : List Wr} (hm : r.may x = true) : x.length ≤ 8 := by
  rcases may_cases hm with ⟨-, -, -, h1⟩ | ⟨-, -, -, h1, -⟩ | ⟨-, -, rfl, -⟩ | ⟨-, -, rfl, -⟩ | ⟨-, -, rfl, -⟩ | ⟨-, -, rfl, -⟩ | ⟨-, -, rfl, -⟩
  all_goals first
    | (simp only [writtenB, Bool.and_eq_true, decide_eq_true_eq] at h1; exact h1.1)
    | simp
theorem may_cs {r : Rc} {x : List Wr} (hm : r.may x = true) (hk : r.kind = 4) : -1 ≤ r.cs ∧ r.cs ≤ 7 := by
  rcases may_cases hm with ⟨h, -⟩ | ⟨h, -⟩ | ⟨h, -⟩ | ⟨h, -, -, -, -, hc⟩ | ⟨h, -⟩ | ⟨h, -⟩ | ⟨h, -⟩ <;> try omega
  simp only [changedB, decide_eq_true_eq] at hc; omega

end Go.Proofs.Ytbaoodlkcbiclaa
