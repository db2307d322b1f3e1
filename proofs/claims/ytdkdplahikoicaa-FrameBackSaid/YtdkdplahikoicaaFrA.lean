/-
  Package frame: sequence, incarnation, May.
-/
import Derived.Test.YtdkdplahikoicaaV9
namespace Go.Proofs.Ytdkdplahikoicaa
open Go.RowKit Go.Sort

theorem sequence_any (k : Int) (w : World) : Calls Try.prog 20 #[.int .i64 k] w fun e w' => e = .returned (.bool (decide (1 ≤ k ∧ k ≤ 1099511627776))) ∧ Below w.heap.size w w' := by
  have M := Mem.start w
  refine calls_enter Try.func20 rfl _ rfl rfl ?_
  intro a S
  refine wp_seq ?_
  -- region 0 frame.go:24
  refine wp_region_lit ?_
  refine st_y S rfl rfl rfl (y_assign S rfl) ?_; clear S a; intro a S
  refine wpList_nil ?_
  replace S := S.sub [(0, _), (2, _)] rfl
  refine then_normal ?_
  refine wp_seq ?_
  -- region 1 frame.go:25
  refine wp_region_lit ?_
  refine st_y S rfl rfl rfl (y_move S rfl) ?_; clear S a; intro a S
  refine st_y S rfl rfl rfl (y_int S rfl rfl rfl) ?_; clear S a; intro a S
  refine st_y S rfl rfl rfl (y_move S rfl) ?_; clear S a; intro a S
  refine st_split (t := 5) S rfl ?_ ?_
  · clear S; intro h5 S
    first | replace h5 := nrmA h5 | replace h5 := nrmB h5 | skip
    first | replace h5 := nrm1 h5 | replace h5 := nrm2 h5 | replace h5 := nrm3 h5 | replace h5 := nrm4 h5 | replace h5 := nrm5 h5 | replace h5 := nrm6 h5 | replace h5 := of_decide_eq_true h5 | replace h5 := of_decide_eq_false h5 | skip
    refine st_y S rfl rfl rfl (y_move S rfl) ?_; clear S a; intro a S
    refine st_y S rfl rfl rfl (y_int S rfl rfl rfl) ?_; clear S a; intro a S
    refine st_y S rfl rfl rfl (y_pickT S rfl rfl) ?_; clear S a; intro a S
    refine st_y S rfl rfl rfl (y_assign S rfl) ?_; clear S a; intro a S
    refine wpList_nil ?_
    replace S := S.sub [(0, _), (2, _)] rfl
    refine then_normal ?_
    refine wp_ret ?_
    refine end_one S rfl (res_tmp rfl) ?_
    refine ⟨ret_bool ?_, M.below⟩; rw [Bool.eq_iff_iff]; (first | (simp; done) | (simp; omega))
  · clear S; intro h5 S
    first | replace h5 := nrmA h5 | replace h5 := nrmB h5 | skip
    first | replace h5 := nrm1 h5 | replace h5 := nrm2 h5 | replace h5 := nrm3 h5 | replace h5 := nrm4 h5 | replace h5 := nrm5 h5 | replace h5 := nrm6 h5 | replace h5 := of_decide_eq_true h5 | replace h5 := of_decide_eq_false h5 | skip
    refine st_no S rfl rfl rfl ?_; clear S a; intro a S
    refine st_no S rfl rfl rfl ?_; clear S a; intro a S
    refine st_y S rfl rfl rfl (y_pickF S rfl rfl) ?_; clear S a; intro a S
    refine st_y S rfl rfl rfl (y_assign S rfl) ?_; clear S a; intro a S
    refine wpList_nil ?_
    replace S := S.sub [(0, _), (2, _)] rfl
    refine then_normal ?_
    refine wp_ret ?_
    refine end_one S rfl (res_tmp rfl) ?_
    refine ⟨ret_bool ?_, M.below⟩; rw [Bool.eq_iff_iff]; (first | (simp; done) | (simp; omega))
theorem incarnation_any (k : Int) (w : World) : Calls Try.prog 21 #[.int .i64 k] w fun e w' => e = .returned (.bool (decide (0 ≤ k ∧ k ≤ 1048576))) ∧ Below w.heap.size w w' := by
  have M := Mem.start w
  refine calls_enter Try.func21 rfl _ rfl rfl ?_
  intro a S
  refine wp_seq ?_
  -- region 0 frame.go:29
  refine wp_region_lit ?_
  refine st_y S rfl rfl rfl (y_assign S rfl) ?_; clear S a; intro a S
  refine wpList_nil ?_
  replace S := S.sub [(0, _), (2, _)] rfl
  refine then_normal ?_
  refine wp_seq ?_
  -- region 1 frame.go:30
  refine wp_region_lit ?_
  refine st_y S rfl rfl rfl (y_move S rfl) ?_; clear S a; intro a S
  refine st_y S rfl rfl rfl (y_int S rfl rfl rfl) ?_; clear S a; intro a S
  refine st_y S rfl rfl rfl (y_move S rfl) ?_; clear S a; intro a S
  refine st_split (t := 5) S rfl ?_ ?_
  · clear S; intro h5 S
    first | replace h5 := nrmA h5 | replace h5 := nrmB h5 | skip
    first | replace h5 := nrm1 h5 | replace h5 := nrm2 h5 | replace h5 := nrm3 h5 | replace h5 := nrm4 h5 | replace h5 := nrm5 h5 | replace h5 := nrm6 h5 | replace h5 := of_decide_eq_true h5 | replace h5 := of_decide_eq_false h5 | skip
    refine st_y S rfl rfl rfl (y_move S rfl) ?_; clear S a; intro a S
    refine st_y S rfl rfl rfl (y_int S rfl rfl rfl) ?_; clear S a; intro a S
    refine st_y S rfl rfl rfl (y_pickT S rfl rfl) ?_; clear S a; intro a S
    refine st_y S rfl rfl rfl (y_assign S rfl) ?_; clear S a; intro a S
    refine wpList_nil ?_
    replace S := S.sub [(0, _), (2, _)] rfl
    refine then_normal ?_
    refine wp_ret ?_
    refine end_one S rfl (res_tmp rfl) ?_
    refine ⟨ret_bool ?_, M.below⟩; rw [Bool.eq_iff_iff]; (first | (simp; done) | (simp; omega))
  · clear S; intro h5 S
    first | replace h5 := nrmA h5 | replace h5 := nrmB h5 | skip
    first | replace h5 := nrm1 h5 | replace h5 := nrm2 h5 | replace h5 := nrm3 h5 | replace h5 := nrm4 h5 | replace h5 := nrm5 h5 | replace h5 := nrm6 h5 | replace h5 := of_decide_eq_true h5 | replace h5 := of_decide_eq_false h5 | skip
    refine st_no S rfl rfl rfl ?_; clear S a; intro a S
    refine st_no S rfl rfl rfl ?_; clear S a; intro a S
    refine st_y S rfl rfl rfl (y_pickF S rfl rfl) ?_; clear S a; intro a S
    refine st_y S rfl rfl rfl (y_assign S rfl) ?_; clear S a; intro a S
    refine wpList_nil ?_
    replace S := S.sub [(0, _), (2, _)] rfl
    refine then_normal ?_
    refine wp_ret ?_
    refine end_one S rfl (res_tmp rfl) ?_
    refine ⟨ret_bool ?_, M.below⟩; rw [Bool.eq_iff_iff]; (first | (simp; done) | (simp; omega))

/-- a frame but for its load -/
structure Fr where
  seq : Int
  inc : Int
  part : Int
  of : Int
  mark : BitVec 32

abbrev Fr.cells (f : Fr) (lv : Value) : List Value := [.int .i64 f.seq, .int .i64 f.inc, .int .i64 f.part, .int .i64 f.of, .int .u32 (f.mark.toNat : Int), lv]
/-- may a frame with a load of l bytes be? -/
def Fr.may (f : Fr) (l : Nat) : Bool := decide ((1 ≤ f.seq ∧ f.seq ≤ 1099511627776) ∧ (0 ≤ f.inc ∧ f.inc ≤ 1048576) ∧ (1 ≤ f.of ∧ f.of ≤ 2) ∧ (0 ≤ f.part ∧ f.part < f.of) ∧ (1 ≤ l ∧ l ≤ 45) ∧ (f.part < f.of - 1 → l = 45))

theorem mayF_any (f : Fr) (ad : Option Addr) (l c : Nat) (w : World) : Calls Try.prog 11 #[.agg (f.cells (.slice ad l c)).toArray] w fun e w' => e = .returned (.bool (f.may l)) ∧ Below w.heap.size w w' := by
  have M := Mem.start w
  refine calls_enter Try.func11 rfl _ rfl rfl ?_
  intro a S
  refine wp_seq ?_
  -- region 0 frame.go:34
  refine wp_region_lit ?_
  refine st_box S M rfl rfl rfl #[_, _, _, _, _, _] rfl ?_; clear S M a; intro a w1 b1 S M hB
  refine st_y S rfl rfl rfl (y_assign S rfl) ?_; clear S a; intro a S
  refine wpList_nil ?_
  replace S := S.sub [(0, _), (1, _), (2, _)] rfl
  refine then_normal ?_
  refine wp_scope_straight ?_
  refine wp_seq ?_
  -- region 1 frame.go:35
  refine wp_region_lit ?_
  refine st_y S rfl rfl rfl (y_assign S rfl) ?_; clear S a; intro a S
  refine wpList_nil ?_
  replace S := S.sub [(0, _), (1, _), (2, _), (3, _)] rfl
  refine then_normal ?_
  refine wp_seq ?_
  refine wp_label ?_
  refine then_normal ?_
  refine wp_seq ?_
  refine wp_block ?_
  refine wp_seq ?_
  refine wp_seq ?_
  -- region 3 frame.go:38
  refine wp_region_lit ?_
  refine st_y S rfl rfl rfl (y_fieldAddr (k := 0) S (by kernel_rfl) rfl) ?_; clear S a; intro a S
  refine st_y S rfl rfl rfl (y_load S (by kernel_rfl) rfl (M.cell 0 rfl rfl)) ?_; clear S a; intro a S
  refine st_call (xs := [(Operand.tmp 6)]) S (enters_of Try.func20 (by decide) rfl) rfl rfl rfl (sequence_any _ _) ?_
  rintro _ w2 ⟨rfl, hK⟩; refine ⟨_, rfl, ?_⟩; clear S a; intro a S; replace M := M.grow hK
  refine st_y S rfl rfl rfl (y_not S rfl) ?_; clear S a; intro a S
  refine st_y S rfl rfl rfl (y_assign S rfl) ?_; clear S a; intro a S
  refine wpList_nil ?_
  replace S := S.sub [(0, _), (1, _), (2, _), (3, _), (4, _)] rfl
  refine then_normal ?_
  refine st_split (t := 4) S rfl ?_ ?_
  · clear S; intro h4 S
    first | replace h4 := nrmA h4 | replace h4 := nrmB h4 | skip
    first | replace h4 := nrm1 h4 | replace h4 := nrm2 h4 | replace h4 := nrm3 h4 | replace h4 := nrm4 h4 | replace h4 := nrm5 h4 | replace h4 := nrm6 h4 | replace h4 := of_decide_eq_true h4 | replace h4 := of_decide_eq_false h4 | skip
    refine st_condT S rfl ?_
    refine wp_skip ?_
    refine then_normal ?_
    refine st_condT S rfl ?_
    refine wp_exit ?_
    refine block_hit ?_
    refine then_normal ?_
    refine wp_seq ?_
    -- region 12 frame.go:51
    refine wp_region_lit ?_
    refine st_y S rfl rfl rfl (y_move S rfl) ?_; clear S a; intro a S
    refine st_y S rfl rfl rfl (y_assign S rfl) ?_; clear S a; intro a S
    refine wpList_nil ?_
    replace S := S.sub [(0, _), (1, _), (3, _), (4, _), (2, _)] rfl
    refine then_normal ?_
    refine wp_ret ?_
    refine sc_ret ?_
    refine end_one S rfl (res_tmp rfl) ?_
    refine ⟨ret_bool ?_, M.below⟩; rw [Bool.eq_iff_iff]; (first | (simp [Fr.may]; done) | (simp [Fr.may]; omega))
  · clear S; intro h4 S
    first | replace h4 := nrmA h4 | replace h4 := nrmB h4 | skip
    first | replace h4 := nrm1 h4 | replace h4 := nrm2 h4 | replace h4 := nrm3 h4 | replace h4 := nrm4 h4 | replace h4 := nrm5 h4 | replace h4 := nrm6 h4 | replace h4 := of_decide_eq_true h4 | replace h4 := of_decide_eq_false h4 | skip
    refine st_condF S rfl ?_
    -- region 4 frame.go:38
    refine wp_region_lit ?_
    refine st_y S rfl rfl rfl (y_fieldAddr (k := 1) S (by kernel_rfl) rfl) ?_; clear S a; intro a S
    refine st_y S rfl rfl rfl (y_load S (by kernel_rfl) rfl (M.cell 0 rfl rfl)) ?_; clear S a; intro a S
    refine st_call (xs := [(Operand.tmp 10)]) S (enters_of Try.func21 (by decide) rfl) rfl rfl rfl (incarnation_any _ _) ?_
    rintro _ w3 ⟨rfl, hK⟩; refine ⟨_, rfl, ?_⟩; clear S a; intro a S; replace M := M.grow hK
    refine st_y S rfl rfl rfl (y_not S rfl) ?_; clear S a; intro a S
    refine st_y S rfl rfl rfl (y_assign S rfl) ?_; clear S a; intro a S
    refine wpList_nil ?_
    replace S := S.sub [(0, _), (1, _), (2, _), (3, _), (4, _)] rfl
    refine then_normal ?_
    refine st_split (t := 4) S rfl ?_ ?_
    · clear S; intro h4 S
      first | replace h4 := nrmA h4 | replace h4 := nrmB h4 | skip
      first | replace h4 := nrm1 h4 | replace h4 := nrm2 h4 | replace h4 := nrm3 h4 | replace h4 := nrm4 h4 | replace h4 := nrm5 h4 | replace h4 := nrm6 h4 | replace h4 := of_decide_eq_true h4 | replace h4 := of_decide_eq_false h4 | skip
      refine st_condT S rfl ?_
      refine wp_exit ?_
      refine block_hit ?_
      refine then_normal ?_
      refine wp_seq ?_
      -- region 12 frame.go:51
      refine wp_region_lit ?_
      refine st_y S rfl rfl rfl (y_move S rfl) ?_; clear S a; intro a S
      refine st_y S rfl rfl rfl (y_assign S rfl) ?_; clear S a; intro a S
      refine wpList_nil ?_
      replace S := S.sub [(0, _), (1, _), (3, _), (4, _), (2, _)] rfl
      refine then_normal ?_
      refine wp_ret ?_
      refine sc_ret ?_
      refine end_one S rfl (res_tmp rfl) ?_
      refine ⟨ret_bool ?_, M.below⟩; rw [Bool.eq_iff_iff]; (first | (simp [Fr.may]; done) | (simp [Fr.may]; omega))
    · clear S; intro h4 S
      first | replace h4 := nrmA h4 | replace h4 := nrmB h4 | skip
      first | replace h4 := nrm1 h4 | replace h4 := nrm2 h4 | replace h4 := nrm3 h4 | replace h4 := nrm4 h4 | replace h4 := nrm5 h4 | replace h4 := nrm6 h4 | replace h4 := of_decide_eq_true h4 | replace h4 := of_decide_eq_false h4 | skip
      refine st_condF S rfl ?_
      refine wp_seq ?_
      refine wp_seq ?_
      -- region 5 frame.go:40
      refine wp_region_lit ?_
      refine st_y S rfl rfl rfl (y_fieldAddr (k := 3) S (by kernel_rfl) rfl) ?_; clear S a; intro a S
      refine st_y S rfl rfl rfl (y_load S (by kernel_rfl) rfl (M.cell 0 rfl rfl)) ?_; clear S a; intro a S
      refine st_y S rfl rfl rfl (y_int S rfl rfl rfl) ?_; clear S a; intro a S
      refine st_y S rfl rfl rfl (y_assign S rfl) ?_; clear S a; intro a S
      refine wpList_nil ?_
      replace S := S.sub [(0, _), (1, _), (2, _), (3, _), (4, _), (13, _)] rfl
      refine then_normal ?_
      refine st_split (t := 13) S rfl ?_ ?_
      · clear S; intro h13 S
        first | replace h13 := nrmA h13 | replace h13 := nrmB h13 | skip
        first | replace h13 := nrm1 h13 | replace h13 := nrm2 h13 | replace h13 := nrm3 h13 | replace h13 := nrm4 h13 | replace h13 := nrm5 h13 | replace h13 := nrm6 h13 | replace h13 := of_decide_eq_true h13 | replace h13 := of_decide_eq_false h13 | skip
        refine st_condT S rfl ?_
        refine wp_skip ?_
        refine then_normal ?_
        refine st_condT S rfl ?_
        refine wp_exit ?_
        refine block_hit ?_
        refine then_normal ?_
        refine wp_seq ?_
        -- region 12 frame.go:51
        refine wp_region_lit ?_
        refine st_y S rfl rfl rfl (y_move S rfl) ?_; clear S a; intro a S
        refine st_y S rfl rfl rfl (y_assign S rfl) ?_; clear S a; intro a S
        refine wpList_nil ?_
        replace S := S.sub [(0, _), (1, _), (3, _), (4, _), (13, _), (2, _)] rfl
        refine then_normal ?_
        refine wp_ret ?_
        refine sc_ret ?_
        refine end_one S rfl (res_tmp rfl) ?_
        refine ⟨ret_bool ?_, M.below⟩; rw [Bool.eq_iff_iff]; (first | (simp [Fr.may]; done) | (simp [Fr.may]; omega))
      · clear S; intro h13 S
        first | replace h13 := nrmA h13 | replace h13 := nrmB h13 | skip
        first | replace h13 := nrm1 h13 | replace h13 := nrm2 h13 | replace h13 := nrm3 h13 | replace h13 := nrm4 h13 | replace h13 := nrm5 h13 | replace h13 := nrm6 h13 | replace h13 := of_decide_eq_true h13 | replace h13 := of_decide_eq_false h13 | skip
        refine st_condF S rfl ?_
        -- region 6 frame.go:40
        refine wp_region_lit ?_
        refine st_y S rfl rfl rfl (y_fieldAddr (k := 3) S (by kernel_rfl) rfl) ?_; clear S a; intro a S
        refine st_y S rfl rfl rfl (y_load S (by kernel_rfl) rfl (M.cell 0 rfl rfl)) ?_; clear S a; intro a S
        refine st_y S rfl rfl rfl (y_int S rfl rfl rfl) ?_; clear S a; intro a S
        refine st_y S rfl rfl rfl (y_assign S rfl) ?_; clear S a; intro a S
        refine wpList_nil ?_
        replace S := S.sub [(0, _), (1, _), (2, _), (3, _), (4, _), (13, _)] rfl
        refine then_normal ?_
        refine st_split (t := 13) S rfl ?_ ?_
        · clear S; intro h13 S
          first | replace h13 := nrmA h13 | replace h13 := nrmB h13 | skip
          first | replace h13 := nrm1 h13 | replace h13 := nrm2 h13 | replace h13 := nrm3 h13 | replace h13 := nrm4 h13 | replace h13 := nrm5 h13 | replace h13 := nrm6 h13 | replace h13 := of_decide_eq_true h13 | replace h13 := of_decide_eq_false h13 | skip
          refine st_condT S rfl ?_
          refine wp_exit ?_
          refine block_hit ?_
          refine then_normal ?_
          refine wp_seq ?_
          -- region 12 frame.go:51
          refine wp_region_lit ?_
          refine st_y S rfl rfl rfl (y_move S rfl) ?_; clear S a; intro a S
          refine st_y S rfl rfl rfl (y_assign S rfl) ?_; clear S a; intro a S
          refine wpList_nil ?_
          replace S := S.sub [(0, _), (1, _), (3, _), (4, _), (13, _), (2, _)] rfl
          refine then_normal ?_
          refine wp_ret ?_
          refine sc_ret ?_
          refine end_one S rfl (res_tmp rfl) ?_
          refine ⟨ret_bool ?_, M.below⟩; rw [Bool.eq_iff_iff]; (first | (simp [Fr.may]; done) | (simp [Fr.may]; omega))
        · clear S; intro h13 S
          first | replace h13 := nrmA h13 | replace h13 := nrmB h13 | skip
          first | replace h13 := nrm1 h13 | replace h13 := nrm2 h13 | replace h13 := nrm3 h13 | replace h13 := nrm4 h13 | replace h13 := nrm5 h13 | replace h13 := nrm6 h13 | replace h13 := of_decide_eq_true h13 | replace h13 := of_decide_eq_false h13 | skip
          refine st_condF S rfl ?_
          refine wp_seq ?_
          refine wp_seq ?_
          -- region 7 frame.go:42
          refine wp_region_lit ?_
          refine st_y S rfl rfl rfl (y_fieldAddr (k := 2) S (by kernel_rfl) rfl) ?_; clear S a; intro a S
          refine st_y S rfl rfl rfl (y_load S (by kernel_rfl) rfl (M.cell 0 rfl rfl)) ?_; clear S a; intro a S
          refine st_y S rfl rfl rfl (y_int S rfl rfl rfl) ?_; clear S a; intro a S
          refine st_y S rfl rfl rfl (y_assign S rfl) ?_; clear S a; intro a S
          refine wpList_nil ?_
          replace S := S.sub [(0, _), (1, _), (2, _), (3, _), (4, _), (13, _), (20, _)] rfl
          refine then_normal ?_
          refine st_split (t := 20) S rfl ?_ ?_
          · clear S; intro h20 S
            first | replace h20 := nrmA h20 | replace h20 := nrmB h20 | skip
            first | replace h20 := nrm1 h20 | replace h20 := nrm2 h20 | replace h20 := nrm3 h20 | replace h20 := nrm4 h20 | replace h20 := nrm5 h20 | replace h20 := nrm6 h20 | replace h20 := of_decide_eq_true h20 | replace h20 := of_decide_eq_false h20 | skip
            refine st_condT S rfl ?_
            refine wp_skip ?_
            refine then_normal ?_
            refine st_condT S rfl ?_
            refine wp_exit ?_
            refine block_hit ?_
            refine then_normal ?_
            refine wp_seq ?_
            -- region 12 frame.go:51
            refine wp_region_lit ?_
            refine st_y S rfl rfl rfl (y_move S rfl) ?_; clear S a; intro a S
            refine st_y S rfl rfl rfl (y_assign S rfl) ?_; clear S a; intro a S
            refine wpList_nil ?_
            replace S := S.sub [(0, _), (1, _), (3, _), (4, _), (13, _), (20, _), (2, _)] rfl
            refine then_normal ?_
            refine wp_ret ?_
            refine sc_ret ?_
            refine end_one S rfl (res_tmp rfl) ?_
            refine ⟨ret_bool ?_, M.below⟩; rw [Bool.eq_iff_iff]; (first | (simp [Fr.may]; done) | (simp [Fr.may]; omega))
          · clear S; intro h20 S
            first | replace h20 := nrmA h20 | replace h20 := nrmB h20 | skip
            first | replace h20 := nrm1 h20 | replace h20 := nrm2 h20 | replace h20 := nrm3 h20 | replace h20 := nrm4 h20 | replace h20 := nrm5 h20 | replace h20 := nrm6 h20 | replace h20 := of_decide_eq_true h20 | replace h20 := of_decide_eq_false h20 | skip
            refine st_condF S rfl ?_
            -- region 8 frame.go:42
            refine wp_region_lit ?_
            refine st_y S rfl rfl rfl (y_fieldAddr (k := 2) S (by kernel_rfl) rfl) ?_; clear S a; intro a S
            refine st_y S rfl rfl rfl (y_load S (by kernel_rfl) rfl (M.cell 0 rfl rfl)) ?_; clear S a; intro a S
            refine st_y S rfl rfl rfl (y_fieldAddr (k := 3) S (by kernel_rfl) rfl) ?_; clear S a; intro a S
            refine st_y S rfl rfl rfl (y_load S (by kernel_rfl) rfl (M.cell 0 rfl rfl)) ?_; clear S a; intro a S
            refine st_y S rfl rfl rfl (y_int S rfl rfl rfl) ?_; clear S a; intro a S
            refine st_y S rfl rfl rfl (y_assign S rfl) ?_; clear S a; intro a S
            refine wpList_nil ?_
            replace S := S.sub [(0, _), (1, _), (2, _), (3, _), (4, _), (13, _), (20, _)] rfl
            refine then_normal ?_
            refine st_split (t := 20) S rfl ?_ ?_
            · clear S; intro h20 S
              first | replace h20 := nrmA h20 | replace h20 := nrmB h20 | skip
              first | replace h20 := nrm1 h20 | replace h20 := nrm2 h20 | replace h20 := nrm3 h20 | replace h20 := nrm4 h20 | replace h20 := nrm5 h20 | replace h20 := nrm6 h20 | replace h20 := of_decide_eq_true h20 | replace h20 := of_decide_eq_false h20 | skip
              refine st_condT S rfl ?_
              refine wp_exit ?_
              refine block_hit ?_
              refine then_normal ?_
              refine wp_seq ?_
              -- region 12 frame.go:51
              refine wp_region_lit ?_
              refine st_y S rfl rfl rfl (y_move S rfl) ?_; clear S a; intro a S
              refine st_y S rfl rfl rfl (y_assign S rfl) ?_; clear S a; intro a S
              refine wpList_nil ?_
              replace S := S.sub [(0, _), (1, _), (3, _), (4, _), (13, _), (20, _), (2, _)] rfl
              refine then_normal ?_
              refine wp_ret ?_
              refine sc_ret ?_
              refine end_one S rfl (res_tmp rfl) ?_
              refine ⟨ret_bool ?_, M.below⟩; rw [Bool.eq_iff_iff]; (first | (simp [Fr.may]; done) | (simp [Fr.may]; omega))
            · clear S; intro h20 S
              first | replace h20 := nrmA h20 | replace h20 := nrmB h20 | skip
              first | replace h20 := nrm1 h20 | replace h20 := nrm2 h20 | replace h20 := nrm3 h20 | replace h20 := nrm4 h20 | replace h20 := nrm5 h20 | replace h20 := nrm6 h20 | replace h20 := of_decide_eq_true h20 | replace h20 := of_decide_eq_false h20 | skip
              refine st_condF S rfl ?_
              refine wp_seq ?_
              refine wp_seq ?_
              -- region 9 frame.go:44
              refine wp_region_lit ?_
              refine st_y S rfl rfl rfl (y_fieldAddr (k := 5) S (by kernel_rfl) rfl) ?_; clear S a; intro a S
              refine st_y S rfl rfl rfl (y_load S (by kernel_rfl) rfl (M.cell 0 rfl rfl)) ?_; clear S a; intro a S
              refine st_y S rfl rfl rfl (y_lenS (E := 5) S rfl (by kernel_rfl)) ?_; clear S a; intro a S
              refine st_y S rfl rfl rfl (y_int S rfl rfl rfl) ?_; clear S a; intro a S
              refine st_y S rfl rfl rfl (y_assign S rfl) ?_; clear S a; intro a S
              refine wpList_nil ?_
              replace S := S.sub [(0, _), (1, _), (2, _), (3, _), (4, _), (13, _), (20, _), (29, _)] rfl
              refine then_normal ?_
              refine st_split (t := 29) S rfl ?_ ?_
              · clear S; intro h29 S
                first | replace h29 := nrmA h29 | replace h29 := nrmB h29 | skip
                first | replace h29 := nrm1 h29 | replace h29 := nrm2 h29 | replace h29 := nrm3 h29 | replace h29 := nrm4 h29 | replace h29 := nrm5 h29 | replace h29 := nrm6 h29 | replace h29 := of_decide_eq_true h29 | replace h29 := of_decide_eq_false h29 | skip
                refine st_condT S rfl ?_
                refine wp_skip ?_
                refine then_normal ?_
                refine st_condT S rfl ?_
                refine wp_exit ?_
                refine block_hit ?_
                refine then_normal ?_
                refine wp_seq ?_
                -- region 12 frame.go:51
                refine wp_region_lit ?_
                refine st_y S rfl rfl rfl (y_move S rfl) ?_; clear S a; intro a S
                refine st_y S rfl rfl rfl (y_assign S rfl) ?_; clear S a; intro a S
                refine wpList_nil ?_
                replace S := S.sub [(0, _), (1, _), (3, _), (4, _), (13, _), (20, _), (29, _), (2, _)] rfl
                refine then_normal ?_
                refine wp_ret ?_
                refine sc_ret ?_
                refine end_one S rfl (res_tmp rfl) ?_
                refine ⟨ret_bool ?_, M.below⟩; rw [Bool.eq_iff_iff]; (first | (simp [Fr.may]; done) | (simp [Fr.may]; omega))
              · clear S; intro h29 S
                first | replace h29 := nrmA h29 | replace h29 := nrmB h29 | skip
                first | replace h29 := nrm1 h29 | replace h29 := nrm2 h29 | replace h29 := nrm3 h29 | replace h29 := nrm4 h29 | replace h29 := nrm5 h29 | replace h29 := nrm6 h29 | replace h29 := of_decide_eq_true h29 | replace h29 := of_decide_eq_false h29 | skip
                refine st_condF S rfl ?_
                -- region 10 frame.go:44
                refine wp_region_lit ?_
                refine st_y S rfl rfl rfl (y_fieldAddr (k := 5) S (by kernel_rfl) rfl) ?_; clear S a; intro a S
                refine st_y S rfl rfl rfl (y_load S (by kernel_rfl) rfl (M.cell 0 rfl rfl)) ?_; clear S a; intro a S
                refine st_y S rfl rfl rfl (y_lenS (E := 5) S rfl (by kernel_rfl)) ?_; clear S a; intro a S
                refine st_y S rfl rfl rfl (y_int S rfl rfl rfl) ?_; clear S a; intro a S
                refine st_y S rfl rfl rfl (y_assign S rfl) ?_; clear S a; intro a S
                refine wpList_nil ?_
                replace S := S.sub [(0, _), (1, _), (2, _), (3, _), (4, _), (13, _), (20, _), (29, _)] rfl
                refine then_normal ?_
                refine st_split (t := 29) S rfl ?_ ?_
                · clear S; intro h29 S
                  first | replace h29 := nrmA h29 | replace h29 := nrmB h29 | skip
                  first | replace h29 := nrm1 h29 | replace h29 := nrm2 h29 | replace h29 := nrm3 h29 | replace h29 := nrm4 h29 | replace h29 := nrm5 h29 | replace h29 := nrm6 h29 | replace h29 := of_decide_eq_true h29 | replace h29 := of_decide_eq_false h29 | skip
                  refine st_condT S rfl ?_
                  refine wp_exit ?_
                  refine block_hit ?_
                  refine then_normal ?_
                  refine wp_seq ?_
                  -- region 12 frame.go:51
                  refine wp_region_lit ?_
                  refine st_y S rfl rfl rfl (y_move S rfl) ?_; clear S a; intro a S
                  refine st_y S rfl rfl rfl (y_assign S rfl) ?_; clear S a; intro a S
                  refine wpList_nil ?_
                  replace S := S.sub [(0, _), (1, _), (3, _), (4, _), (13, _), (20, _), (29, _), (2, _)] rfl
                  refine then_normal ?_
                  refine wp_ret ?_
                  refine sc_ret ?_
                  refine end_one S rfl (res_tmp rfl) ?_
                  refine ⟨ret_bool ?_, M.below⟩; rw [Bool.eq_iff_iff]; (first | (simp [Fr.may]; done) | (simp [Fr.may]; omega))
                · clear S; intro h29 S
                  first | replace h29 := nrmA h29 | replace h29 := nrmB h29 | skip
                  first | replace h29 := nrm1 h29 | replace h29 := nrm2 h29 | replace h29 := nrm3 h29 | replace h29 := nrm4 h29 | replace h29 := nrm5 h29 | replace h29 := nrm6 h29 | replace h29 := of_decide_eq_true h29 | replace h29 := of_decide_eq_false h29 | skip
                  refine st_condF S rfl ?_
                  refine wp_seq ?_
                  -- region 11 frame.go:46
                  refine wp_region_lit ?_
                  refine st_y S rfl rfl rfl (y_fieldAddr (k := 2) S (by kernel_rfl) rfl) ?_; clear S a; intro a S
                  refine st_y S rfl rfl rfl (y_load S (by kernel_rfl) rfl (M.cell 0 rfl rfl)) ?_; clear S a; intro a S
                  refine st_y S rfl rfl rfl (y_fieldAddr (k := 3) S (by kernel_rfl) rfl) ?_; clear S a; intro a S
                  refine st_y S rfl rfl rfl (y_load S (by kernel_rfl) rfl (M.cell 0 rfl rfl)) ?_; clear S a; intro a S
                  (first | refine st_y S rfl rfl rfl (y_subN S rfl rfl (by omega)) ?_ | refine st_y S rfl rfl rfl (y_int S rfl rfl rfl) ?_); clear S a; intro a S
                  refine st_y S rfl rfl rfl (y_int S rfl rfl rfl) ?_; clear S a; intro a S
                  refine st_y S rfl rfl rfl (y_move S rfl) ?_; clear S a; intro a S
                  refine st_split (t := 45) S rfl ?_ ?_
                  · clear S; intro h45 S
                    first | replace h45 := nrmA h45 | replace h45 := nrmB h45 | skip
                    first | replace h45 := nrm1 h45 | replace h45 := nrm2 h45 | replace h45 := nrm3 h45 | replace h45 := nrm4 h45 | replace h45 := nrm5 h45 | replace h45 := nrm6 h45 | replace h45 := of_decide_eq_true h45 | replace h45 := of_decide_eq_false h45 | skip
                    refine st_y S rfl rfl rfl (y_fieldAddr (k := 5) S (by kernel_rfl) rfl) ?_; clear S a; intro a S
                    refine st_y S rfl rfl rfl (y_load S (by kernel_rfl) rfl (M.cell 0 rfl rfl)) ?_; clear S a; intro a S
                    refine st_y S rfl rfl rfl (y_lenS (E := 5) S rfl (by kernel_rfl)) ?_; clear S a; intro a S
                    refine st_y S rfl rfl rfl (y_int S rfl rfl rfl) ?_; clear S a; intro a S
                    refine st_y S rfl rfl rfl (y_pickT S rfl rfl) ?_; clear S a; intro a S
                    refine st_y S rfl rfl rfl (y_assign S rfl) ?_; clear S a; intro a S
                    refine wpList_nil ?_
                    replace S := S.sub [(0, _), (1, _), (2, _), (3, _), (4, _), (13, _), (20, _), (29, _), (38, _)] rfl
                    refine then_normal ?_
                    refine st_split (t := 38) S rfl ?_ ?_
                    · clear S; intro h38 S
                      first | replace h38 := nrmA h38 | replace h38 := nrmB h38 | skip
                      first | replace h38 := nrm1 h38 | replace h38 := nrm2 h38 | replace h38 := nrm3 h38 | replace h38 := nrm4 h38 | replace h38 := nrm5 h38 | replace h38 := nrm6 h38 | replace h38 := of_decide_eq_true h38 | replace h38 := of_decide_eq_false h38 | skip
                      refine st_condT S rfl ?_
                      refine wp_exit ?_
                      refine block_hit ?_
                      refine then_normal ?_
                      refine wp_seq ?_
                      -- region 12 frame.go:51
                      refine wp_region_lit ?_
                      refine st_y S rfl rfl rfl (y_move S rfl) ?_; clear S a; intro a S
                      refine st_y S rfl rfl rfl (y_assign S rfl) ?_; clear S a; intro a S
                      refine wpList_nil ?_
                      replace S := S.sub [(0, _), (1, _), (3, _), (4, _), (13, _), (20, _), (29, _), (38, _), (2, _)] rfl
                      refine then_normal ?_
                      refine wp_ret ?_
                      refine sc_ret ?_
                      refine end_one S rfl (res_tmp rfl) ?_
                      refine ⟨ret_bool ?_, M.below⟩; rw [Bool.eq_iff_iff]; (first | (simp [Fr.may]; done) | (simp [Fr.may]; omega))
                    · clear S; intro h38 S
                      first | replace h38 := nrmA h38 | replace h38 := nrmB h38 | skip
                      first | replace h38 := nrm1 h38 | replace h38 := nrm2 h38 | replace h38 := nrm3 h38 | replace h38 := nrm4 h38 | replace h38 := nrm5 h38 | replace h38 := nrm6 h38 | replace h38 := of_decide_eq_true h38 | replace h38 := of_decide_eq_false h38 | skip
                      refine st_condF S rfl ?_
                      -- region 2 frame.go:49
                      refine wp_region_lit ?_
                      refine st_y S rfl rfl rfl (y_assign S rfl) ?_; clear S a; intro a S
                      refine wpList_nil ?_
                      replace S := S.sub [(0, _), (1, _), (2, _), (4, _), (13, _), (20, _), (29, _), (38, _), (3, _)] rfl
                      refine block_normal ?_
                      refine then_normal ?_
                      refine wp_seq ?_
                      -- region 12 frame.go:51
                      refine wp_region_lit ?_
                      refine st_y S rfl rfl rfl (y_move S rfl) ?_; clear S a; intro a S
                      refine st_y S rfl rfl rfl (y_assign S rfl) ?_; clear S a; intro a S
                      refine wpList_nil ?_
                      replace S := S.sub [(0, _), (1, _), (4, _), (13, _), (20, _), (29, _), (38, _), (3, _), (2, _)] rfl
                      refine then_normal ?_
                      refine wp_ret ?_
                      refine sc_ret ?_
                      refine end_one S rfl (res_tmp rfl) ?_
                      refine ⟨ret_bool ?_, M.below⟩; rw [Bool.eq_iff_iff]; (first | (simp [Fr.may]; done) | (simp [Fr.may]; omega))
                  · clear S; intro h45 S
                    first | replace h45 := nrmA h45 | replace h45 := nrmB h45 | skip
                    first | replace h45 := nrm1 h45 | replace h45 := nrm2 h45 | replace h45 := nrm3 h45 | replace h45 := nrm4 h45 | replace h45 := nrm5 h45 | replace h45 := nrm6 h45 | replace h45 := of_decide_eq_true h45 | replace h45 := of_decide_eq_false h45 | skip
                    refine st_no S rfl rfl rfl ?_; clear S a; intro a S
                    refine st_no S rfl rfl rfl ?_; clear S a; intro a S
                    refine st_no S rfl rfl rfl ?_; clear S a; intro a S
                    refine st_no S rfl rfl rfl ?_; clear S a; intro a S
                    refine st_y S rfl rfl rfl (y_pickF S rfl rfl) ?_; clear S a; intro a S
                    refine st_y S rfl rfl rfl (y_assign S rfl) ?_; clear S a; intro a S
                    refine wpList_nil ?_
                    replace S := S.sub [(0, _), (1, _), (2, _), (3, _), (4, _), (13, _), (20, _), (29, _), (38, _)] rfl
                    refine then_normal ?_
                    refine st_condF S rfl ?_
                    -- region 2 frame.go:49
                    refine wp_region_lit ?_
                    refine st_y S rfl rfl rfl (y_assign S rfl) ?_; clear S a; intro a S
                    refine wpList_nil ?_
                    replace S := S.sub [(0, _), (1, _), (2, _), (4, _), (13, _), (20, _), (29, _), (38, _), (3, _)] rfl
                    refine block_normal ?_
                    refine then_normal ?_
                    refine wp_seq ?_
                    -- region 12 frame.go:51
                    refine wp_region_lit ?_
                    refine st_y S rfl rfl rfl (y_move S rfl) ?_; clear S a; intro a S
                    refine st_y S rfl rfl rfl (y_assign S rfl) ?_; clear S a; intro a S
                    refine wpList_nil ?_
                    replace S := S.sub [(0, _), (1, _), (4, _), (13, _), (20, _), (29, _), (38, _), (3, _), (2, _)] rfl
                    refine then_normal ?_
                    refine wp_ret ?_
                    refine sc_ret ?_
                    refine end_one S rfl (res_tmp rfl) ?_
                    refine ⟨ret_bool ?_, M.below⟩; rw [Bool.eq_iff_iff]; (first | (simp [Fr.may]; done) | (simp [Fr.may]; omega))

end Go.Proofs.Ytdkdplahikoicaa
