/-
  Package frame: Same.
-/
import Derived.Test.YtdkdplahikoicaaFrA
import Derived.Test.YtdkdplahikoicaaBytes
namespace Go.Proofs.Ytdkdplahikoicaa
open Go.RowKit Go.Sort

def Fr.same (f g : Fr) (bs cs : List UInt8) : Bool := f.seq == g.seq && f.inc == g.inc && f.part == g.part && f.of == g.of && f.mark == g.mark && bs == cs
theorem Fr.same_iff {f g : Fr} {bs cs : List UInt8} : f.same g bs cs = true ↔ f = g ∧ bs = cs := by
  cases f; cases g; simp [Fr.same, and_assoc]

theorem sameF_any (f g : Fr) (v u : Value) (bs cs : List UInt8) (w : World) (hv : Bs 0 w.heap.size w v bs) (hu : Bs 0 w.heap.size w u cs) : Calls Try.prog 19 #[.agg (f.cells v).toArray, .agg (g.cells u).toArray] w fun e w' => e = .returned (.bool (f.same g bs cs)) ∧ Below w.heap.size w w' := by
  have M := Mem.start w
  refine calls_enter Try.func19 rfl 45 rfl rfl ?_; intro a S
  refine wp_seq ?_
  -- region 0 frame.go:160
  refine wp_region_lit ?_
  refine st_box S M rfl rfl rfl #[_, _, _, _, _, _] rfl ?_; clear S M a; intro a w1 b1 S M hB
  refine st_box S M rfl rfl rfl #[_, _, _, _, _, _] rfl ?_; clear S M a; intro a w2 b2 S M hB
  refine st_y S rfl rfl rfl (y_assign S rfl) ?_; clear S a; intro a S
  refine wpList_nil ?_
  replace S := S.sub [(0, _), (1, _), (2, _), (3, _), (4, _)] rfl
  refine then_normal ?_
  refine wp_seq ?_
  -- region 1 frame.go:161
  refine wp_region_lit ?_
  refine st_y S rfl rfl rfl (y_fieldAddr (k := 0) S (by kernel_rfl) rfl) ?_; clear S a; intro a S
  refine st_y S rfl rfl rfl (y_load S (by kernel_rfl) rfl (M.cell 1 rfl rfl)) ?_; clear S a; intro a S
  refine st_y S rfl rfl rfl (y_fieldAddr (k := 0) S (by kernel_rfl) rfl) ?_; clear S a; intro a S
  refine st_y S rfl rfl rfl (y_load S (by kernel_rfl) rfl (M.cell 0 rfl rfl)) ?_; clear S a; intro a S
  refine st_y S rfl rfl rfl (y_int S rfl rfl rfl) ?_; clear S a; intro a S
  refine st_y S rfl rfl rfl (y_move S rfl) ?_; clear S a; intro a S
  refine st_split (t := 10) S rfl ?_ ?_
  · clear S; intro h10 S
    first | replace h10 := nrmA h10 | replace h10 := nrmB h10 | skip
    first | replace h10 := nrm1 h10 | replace h10 := nrm2 h10 | replace h10 := nrm3 h10 | replace h10 := nrm4 h10 | replace h10 := nrm5 h10 | replace h10 := nrm6 h10 | replace h10 := of_decide_eq_true h10 | replace h10 := of_decide_eq_false h10 | skip
    refine st_y S rfl rfl rfl (y_fieldAddr (k := 1) S (by kernel_rfl) rfl) ?_; clear S a; intro a S
    refine st_y S rfl rfl rfl (y_load S (by kernel_rfl) rfl (M.cell 1 rfl rfl)) ?_; clear S a; intro a S
    refine st_y S rfl rfl rfl (y_fieldAddr (k := 1) S (by kernel_rfl) rfl) ?_; clear S a; intro a S
    refine st_y S rfl rfl rfl (y_load S (by kernel_rfl) rfl (M.cell 0 rfl rfl)) ?_; clear S a; intro a S
    refine st_y S rfl rfl rfl (y_int S rfl rfl rfl) ?_; clear S a; intro a S
    refine st_y S rfl rfl rfl (y_pickT S rfl rfl) ?_; clear S a; intro a S
    refine st_y S rfl rfl rfl (y_move S rfl) ?_; clear S a; intro a S
    refine st_split (t := 17) S rfl ?_ ?_
    · clear S; intro h17 S
      first | replace h17 := nrmA h17 | replace h17 := nrmB h17 | skip
      first | replace h17 := nrm1 h17 | replace h17 := nrm2 h17 | replace h17 := nrm3 h17 | replace h17 := nrm4 h17 | replace h17 := nrm5 h17 | replace h17 := nrm6 h17 | replace h17 := of_decide_eq_true h17 | replace h17 := of_decide_eq_false h17 | skip
      refine st_y S rfl rfl rfl (y_fieldAddr (k := 2) S (by kernel_rfl) rfl) ?_; clear S a; intro a S
      refine st_y S rfl rfl rfl (y_load S (by kernel_rfl) rfl (M.cell 1 rfl rfl)) ?_; clear S a; intro a S
      refine st_y S rfl rfl rfl (y_fieldAddr (k := 2) S (by kernel_rfl) rfl) ?_; clear S a; intro a S
      refine st_y S rfl rfl rfl (y_load S (by kernel_rfl) rfl (M.cell 0 rfl rfl)) ?_; clear S a; intro a S
      refine st_y S rfl rfl rfl (y_int S rfl rfl rfl) ?_; clear S a; intro a S
      refine st_y S rfl rfl rfl (y_pickT S rfl rfl) ?_; clear S a; intro a S
      refine st_y S rfl rfl rfl (y_move S rfl) ?_; clear S a; intro a S
      refine st_split (t := 24) S rfl ?_ ?_
      · clear S; intro h24 S
        first | replace h24 := nrmA h24 | replace h24 := nrmB h24 | skip
        first | replace h24 := nrm1 h24 | replace h24 := nrm2 h24 | replace h24 := nrm3 h24 | replace h24 := nrm4 h24 | replace h24 := nrm5 h24 | replace h24 := nrm6 h24 | replace h24 := of_decide_eq_true h24 | replace h24 := of_decide_eq_false h24 | skip
        refine st_y S rfl rfl rfl (y_fieldAddr (k := 3) S (by kernel_rfl) rfl) ?_; clear S a; intro a S
        refine st_y S rfl rfl rfl (y_load S (by kernel_rfl) rfl (M.cell 1 rfl rfl)) ?_; clear S a; intro a S
        refine st_y S rfl rfl rfl (y_fieldAddr (k := 3) S (by kernel_rfl) rfl) ?_; clear S a; intro a S
        refine st_y S rfl rfl rfl (y_load S (by kernel_rfl) rfl (M.cell 0 rfl rfl)) ?_; clear S a; intro a S
        refine st_y S rfl rfl rfl (y_int S rfl rfl rfl) ?_; clear S a; intro a S
        refine st_y S rfl rfl rfl (y_pickT S rfl rfl) ?_; clear S a; intro a S
        refine st_y S rfl rfl rfl (y_move S rfl) ?_; clear S a; intro a S
        refine st_split (t := 31) S rfl ?_ ?_
        · clear S; intro h31 S
          first | replace h31 := nrmA h31 | replace h31 := nrmB h31 | skip
          first | replace h31 := nrm1 h31 | replace h31 := nrm2 h31 | replace h31 := nrm3 h31 | replace h31 := nrm4 h31 | replace h31 := nrm5 h31 | replace h31 := nrm6 h31 | replace h31 := of_decide_eq_true h31 | replace h31 := of_decide_eq_false h31 | skip
          refine st_y S rfl rfl rfl (y_fieldAddr (k := 4) S (by kernel_rfl) rfl) ?_; clear S a; intro a S
          refine st_y S rfl rfl rfl (y_load S (by kernel_rfl) rfl (M.cell 1 rfl rfl)) ?_; clear S a; intro a S
          refine st_y S rfl rfl rfl (y_fieldAddr (k := 4) S (by kernel_rfl) rfl) ?_; clear S a; intro a S
          refine st_y S rfl rfl rfl (y_load S (by kernel_rfl) rfl (M.cell 0 rfl rfl)) ?_; clear S a; intro a S
          refine st_y S rfl rfl rfl (y_eql32 S rfl rfl) ?_; clear S a; intro a S
          refine st_y S rfl rfl rfl (y_pickT S rfl rfl) ?_; clear S a; intro a S
          refine st_y S rfl rfl rfl (y_move S rfl) ?_; clear S a; intro a S
          refine st_split (t := 38) S rfl ?_ ?_
          · clear S; intro h38 S
            first | replace h38 := nrmA h38 | replace h38 := nrmB h38 | skip
            first | replace h38 := nrm1 h38 | replace h38 := nrm2 h38 | replace h38 := nrm3 h38 | replace h38 := nrm4 h38 | replace h38 := nrm5 h38 | replace h38 := nrm6 h38 | replace h38 := of_decide_eq_true h38 | replace h38 := of_decide_eq_false h38 | skip
            refine st_y S rfl rfl rfl (y_fieldAddr (k := 5) S (by kernel_rfl) rfl) ?_; clear S a; intro a S
            refine st_y S rfl rfl rfl (y_load S (by kernel_rfl) rfl (M.cell 1 rfl rfl)) ?_; clear S a; intro a S
            refine st_y S rfl rfl rfl (y_fieldAddr (k := 5) S (by kernel_rfl) rfl) ?_; clear S a; intro a S
            refine st_y S rfl rfl rfl (y_load S (by kernel_rfl) rfl (M.cell 0 rfl rfl)) ?_; clear S a; intro a S
            refine st_call (xs := [(Operand.tmp 40), (Operand.tmp 42)]) S (enters_of Try.func31 (by decide) rfl) rfl rfl rfl (equal_any _ _ bs cs _ (M.argW hv) (M.argW hu)) ?_
            rintro _ w3 ⟨rfl, hK⟩; refine ⟨_, rfl, ?_⟩; clear S a; intro a S; replace M := M.grow hK
            refine st_y S rfl rfl rfl (y_pickT S rfl rfl) ?_; clear S a; intro a S
            refine st_y S rfl rfl rfl (y_assign S rfl) ?_; clear S a; intro a S
            refine wpList_nil ?_
            replace S := S.sub [(0, _), (1, _), (2, _), (3, _), (4, _)] rfl
            refine then_normal ?_
            refine wp_ret ?_
            refine end_one S rfl (res_tmp rfl) ?_
            exact ⟨ret_bool (by simp [Fr.same, *]), M.below⟩
          · clear S; intro h38 S
            first | replace h38 := nrmA h38 | replace h38 := nrmB h38 | skip
            first | replace h38 := nrm1 h38 | replace h38 := nrm2 h38 | replace h38 := nrm3 h38 | replace h38 := nrm4 h38 | replace h38 := nrm5 h38 | replace h38 := nrm6 h38 | replace h38 := of_decide_eq_true h38 | replace h38 := of_decide_eq_false h38 | skip
            refine st_no S rfl rfl rfl ?_; clear S a; intro a S
            refine st_no S rfl rfl rfl ?_; clear S a; intro a S
            refine st_no S rfl rfl rfl ?_; clear S a; intro a S
            refine st_no S rfl rfl rfl ?_; clear S a; intro a S
            refine st_no S rfl rfl rfl ?_; clear S a; intro a S
            refine st_y S rfl rfl rfl (y_pickF S rfl rfl) ?_; clear S a; intro a S
            refine st_y S rfl rfl rfl (y_assign S rfl) ?_; clear S a; intro a S
            refine wpList_nil ?_
            replace S := S.sub [(0, _), (1, _), (2, _), (3, _), (4, _)] rfl
            refine then_normal ?_
            refine wp_ret ?_
            refine end_one S rfl (res_tmp rfl) ?_
            exact ⟨ret_bool (by simp [Fr.same, *]), M.below⟩
        · clear S; intro h31 S
          first | replace h31 := nrmA h31 | replace h31 := nrmB h31 | skip
          first | replace h31 := nrm1 h31 | replace h31 := nrm2 h31 | replace h31 := nrm3 h31 | replace h31 := nrm4 h31 | replace h31 := nrm5 h31 | replace h31 := nrm6 h31 | replace h31 := of_decide_eq_true h31 | replace h31 := of_decide_eq_false h31 | skip
          refine st_no S rfl rfl rfl ?_; clear S a; intro a S
          refine st_no S rfl rfl rfl ?_; clear S a; intro a S
          refine st_no S rfl rfl rfl ?_; clear S a; intro a S
          refine st_no S rfl rfl rfl ?_; clear S a; intro a S
          refine st_no S rfl rfl rfl ?_; clear S a; intro a S
          refine st_y S rfl rfl rfl (y_pickF S rfl rfl) ?_; clear S a; intro a S
          refine st_y S rfl rfl rfl (y_move S rfl) ?_; clear S a; intro a S
          refine st_no S rfl rfl rfl ?_; clear S a; intro a S
          refine st_no S rfl rfl rfl ?_; clear S a; intro a S
          refine st_no S rfl rfl rfl ?_; clear S a; intro a S
          refine st_no S rfl rfl rfl ?_; clear S a; intro a S
          refine st_no S rfl rfl rfl ?_; clear S a; intro a S
          refine st_y S rfl rfl rfl (y_pickF S rfl rfl) ?_; clear S a; intro a S
          refine st_y S rfl rfl rfl (y_assign S rfl) ?_; clear S a; intro a S
          refine wpList_nil ?_
          replace S := S.sub [(0, _), (1, _), (2, _), (3, _), (4, _)] rfl
          refine then_normal ?_
          refine wp_ret ?_
          refine end_one S rfl (res_tmp rfl) ?_
          exact ⟨ret_bool (by simp [Fr.same, *]), M.below⟩
      · clear S; intro h24 S
        first | replace h24 := nrmA h24 | replace h24 := nrmB h24 | skip
        first | replace h24 := nrm1 h24 | replace h24 := nrm2 h24 | replace h24 := nrm3 h24 | replace h24 := nrm4 h24 | replace h24 := nrm5 h24 | replace h24 := nrm6 h24 | replace h24 := of_decide_eq_true h24 | replace h24 := of_decide_eq_false h24 | skip
        refine st_no S rfl rfl rfl ?_; clear S a; intro a S
        refine st_no S rfl rfl rfl ?_; clear S a; intro a S
        refine st_no S rfl rfl rfl ?_; clear S a; intro a S
        refine st_no S rfl rfl rfl ?_; clear S a; intro a S
        refine st_no S rfl rfl rfl ?_; clear S a; intro a S
        refine st_y S rfl rfl rfl (y_pickF S rfl rfl) ?_; clear S a; intro a S
        refine st_y S rfl rfl rfl (y_move S rfl) ?_; clear S a; intro a S
        refine st_no S rfl rfl rfl ?_; clear S a; intro a S
        refine st_no S rfl rfl rfl ?_; clear S a; intro a S
        refine st_no S rfl rfl rfl ?_; clear S a; intro a S
        refine st_no S rfl rfl rfl ?_; clear S a; intro a S
        refine st_no S rfl rfl rfl ?_; clear S a; intro a S
        refine st_y S rfl rfl rfl (y_pickF S rfl rfl) ?_; clear S a; intro a S
        refine st_y S rfl rfl rfl (y_move S rfl) ?_; clear S a; intro a S
        refine st_no S rfl rfl rfl ?_; clear S a; intro a S
        refine st_no S rfl rfl rfl ?_; clear S a; intro a S
        refine st_no S rfl rfl rfl ?_; clear S a; intro a S
        refine st_no S rfl rfl rfl ?_; clear S a; intro a S
        refine st_no S rfl rfl rfl ?_; clear S a; intro a S
        refine st_y S rfl rfl rfl (y_pickF S rfl rfl) ?_; clear S a; intro a S
        refine st_y S rfl rfl rfl (y_assign S rfl) ?_; clear S a; intro a S
        refine wpList_nil ?_
        replace S := S.sub [(0, _), (1, _), (2, _), (3, _), (4, _)] rfl
        refine then_normal ?_
        refine wp_ret ?_
        refine end_one S rfl (res_tmp rfl) ?_
        exact ⟨ret_bool (by simp [Fr.same, *]), M.below⟩
    · clear S; intro h17 S
      first | replace h17 := nrmA h17 | replace h17 := nrmB h17 | skip
      first | replace h17 := nrm1 h17 | replace h17 := nrm2 h17 | replace h17 := nrm3 h17 | replace h17 := nrm4 h17 | replace h17 := nrm5 h17 | replace h17 := nrm6 h17 | replace h17 := of_decide_eq_true h17 | replace h17 := of_decide_eq_false h17 | skip
      refine st_no S rfl rfl rfl ?_; clear S a; intro a S
      refine st_no S rfl rfl rfl ?_; clear S a; intro a S
      refine st_no S rfl rfl rfl ?_; clear S a; intro a S
      refine st_no S rfl rfl rfl ?_; clear S a; intro a S
      refine st_no S rfl rfl rfl ?_; clear S a; intro a S
      refine st_y S rfl rfl rfl (y_pickF S rfl rfl) ?_; clear S a; intro a S
      refine st_y S rfl rfl rfl (y_move S rfl) ?_; clear S a; intro a S
      refine st_no S rfl rfl rfl ?_; clear S a; intro a S
      refine st_no S rfl rfl rfl ?_; clear S a; intro a S
      refine st_no S rfl rfl rfl ?_; clear S a; intro a S
      refine st_no S rfl rfl rfl ?_; clear S a; intro a S
      refine st_no S rfl rfl rfl ?_; clear S a; intro a S
      refine st_y S rfl rfl rfl (y_pickF S rfl rfl) ?_; clear S a; intro a S
      refine st_y S rfl rfl rfl (y_move S rfl) ?_; clear S a; intro a S
      refine st_no S rfl rfl rfl ?_; clear S a; intro a S
      refine st_no S rfl rfl rfl ?_; clear S a; intro a S
      refine st_no S rfl rfl rfl ?_; clear S a; intro a S
      refine st_no S rfl rfl rfl ?_; clear S a; intro a S
      refine st_no S rfl rfl rfl ?_; clear S a; intro a S
      refine st_y S rfl rfl rfl (y_pickF S rfl rfl) ?_; clear S a; intro a S
      refine st_y S rfl rfl rfl (y_move S rfl) ?_; clear S a; intro a S
      refine st_no S rfl rfl rfl ?_; clear S a; intro a S
      refine st_no S rfl rfl rfl ?_; clear S a; intro a S
      refine st_no S rfl rfl rfl ?_; clear S a; intro a S
      refine st_no S rfl rfl rfl ?_; clear S a; intro a S
      refine st_no S rfl rfl rfl ?_; clear S a; intro a S
      refine st_y S rfl rfl rfl (y_pickF S rfl rfl) ?_; clear S a; intro a S
      refine st_y S rfl rfl rfl (y_assign S rfl) ?_; clear S a; intro a S
      refine wpList_nil ?_
      replace S := S.sub [(0, _), (1, _), (2, _), (3, _), (4, _)] rfl
      refine then_normal ?_
      refine wp_ret ?_
      refine end_one S rfl (res_tmp rfl) ?_
      exact ⟨ret_bool (by simp [Fr.same, *]), M.below⟩
  · clear S; intro h10 S
    first | replace h10 := nrmA h10 | replace h10 := nrmB h10 | skip
    first | replace h10 := nrm1 h10 | replace h10 := nrm2 h10 | replace h10 := nrm3 h10 | replace h10 := nrm4 h10 | replace h10 := nrm5 h10 | replace h10 := nrm6 h10 | replace h10 := of_decide_eq_true h10 | replace h10 := of_decide_eq_false h10 | skip
    refine st_no S rfl rfl rfl ?_; clear S a; intro a S
    refine st_no S rfl rfl rfl ?_; clear S a; intro a S
    refine st_no S rfl rfl rfl ?_; clear S a; intro a S
    refine st_no S rfl rfl rfl ?_; clear S a; intro a S
    refine st_no S rfl rfl rfl ?_; clear S a; intro a S
    refine st_y S rfl rfl rfl (y_pickF S rfl rfl) ?_; clear S a; intro a S
    refine st_y S rfl rfl rfl (y_move S rfl) ?_; clear S a; intro a S
    refine st_no S rfl rfl rfl ?_; clear S a; intro a S
    refine st_no S rfl rfl rfl ?_; clear S a; intro a S
    refine st_no S rfl rfl rfl ?_; clear S a; intro a S
    refine st_no S rfl rfl rfl ?_; clear S a; intro a S
    refine st_no S rfl rfl rfl ?_; clear S a; intro a S
    refine st_y S rfl rfl rfl (y_pickF S rfl rfl) ?_; clear S a; intro a S
    refine st_y S rfl rfl rfl (y_move S rfl) ?_; clear S a; intro a S
    refine st_no S rfl rfl rfl ?_; clear S a; intro a S
    refine st_no S rfl rfl rfl ?_; clear S a; intro a S
    refine st_no S rfl rfl rfl ?_; clear S a; intro a S
    refine st_no S rfl rfl rfl ?_; clear S a; intro a S
    refine st_no S rfl rfl rfl ?_; clear S a; intro a S
    refine st_y S rfl rfl rfl (y_pickF S rfl rfl) ?_; clear S a; intro a S
    refine st_y S rfl rfl rfl (y_move S rfl) ?_; clear S a; intro a S
    refine st_no S rfl rfl rfl ?_; clear S a; intro a S
    refine st_no S rfl rfl rfl ?_; clear S a; intro a S
    refine st_no S rfl rfl rfl ?_; clear S a; intro a S
    refine st_no S rfl rfl rfl ?_; clear S a; intro a S
    refine st_no S rfl rfl rfl ?_; clear S a; intro a S
    refine st_y S rfl rfl rfl (y_pickF S rfl rfl) ?_; clear S a; intro a S
    refine st_y S rfl rfl rfl (y_move S rfl) ?_; clear S a; intro a S
    refine st_no S rfl rfl rfl ?_; clear S a; intro a S
    refine st_no S rfl rfl rfl ?_; clear S a; intro a S
    refine st_no S rfl rfl rfl ?_; clear S a; intro a S
    refine st_no S rfl rfl rfl ?_; clear S a; intro a S
    refine st_no S rfl rfl rfl ?_; clear S a; intro a S
    refine st_y S rfl rfl rfl (y_pickF S rfl rfl) ?_; clear S a; intro a S
    refine st_y S rfl rfl rfl (y_assign S rfl) ?_; clear S a; intro a S
    refine wpList_nil ?_
    replace S := S.sub [(0, _), (1, _), (2, _), (3, _), (4, _)] rfl
    refine then_normal ?_
    refine wp_ret ?_
    refine end_one S rfl (res_tmp rfl) ?_
    exact ⟨ret_bool (by simp [Fr.same, *]), M.below⟩

end Go.Proofs.Ytdkdplahikoicaa
