/-
  Package cashboxlaw07: RecordNames, RecordBack.
-/
import Derived.Test.YtbaoodlkcbiclaaRf
namespace Go.Proofs.Ytbaoodlkcbiclaa
open Go.RowKit Go.Sort

theorem names_any (x y z : Nm) (w : World) : Calls Try.prog 6 #[.agg x.cells, .agg y.cells, .agg z.cells] w fun e w' => e = .returned (.bool true) ∧ Below w.heap.size w w' := by
  have M := Mem.start w
  have F1 : ¬ (x.less y = true ∧ y.less x = true) := by simp only [Nm.less, decide_eq_true_eq]; omega
  have F2 : x.less y = true ∨ y.less x = true ∨ x.eqb y = true := by
    rw [Nm.eqb_iff]
    cases x; cases y
    simp only [Nm.less, decide_eq_true_eq, Nm.mk.injEq]; omega
  have F3 : x.less y = true → y.less z = true → x.less z = true := by simp only [Nm.less, decide_eq_true_eq]; omega
  have F4 : x.less x = false := by simp only [Nm.less, decide_eq_false_iff_not]; omega
  generalize hxy : x.less y = xy at F1 F2 F3
  generalize hyx : y.less x = yx at F1 F2
  generalize hyz : y.less z = yz at F3
  generalize hxz : x.less z = xz at F3
  refine calls_enter Try.func6 rfl 59 rfl rfl ?_; intro a S
  refine wp_seq ?_
  -- region 0 law.go:68
  refine wp_region_lit ?_
  refine st_box S M rfl rfl rfl #[_, _, _] rfl ?_; clear S M a; intro a w1 b1 S M hB
  refine st_box S M rfl rfl rfl #[_, _, _] rfl ?_; clear S M a; intro a w2 b2 S M hB
  refine st_box S M rfl rfl rfl #[_, _, _] rfl ?_; clear S M a; intro a w3 b3 S M hB
  refine st_y S rfl rfl rfl (y_assign S rfl) ?_; clear S a; intro a S
  refine wpList_nil ?_
  replace S := S.sub [(0, _), (1, _), (2, _), (3, _), (4, _), (5, _), (6, _)] rfl
  refine then_normal ?_
  refine wp_seq ?_
  -- region 1 law.go:69
  refine wp_quiet M (by kernel_rfl) (by kernel_rfl) ?_
  refine qt_y S rfl rfl rfl (fun w M => y_loadAgg (cs := [_, _, _]) S (by kernel_rfl) rfl rfl (M.cellsAt (k := 3) 2 rfl rfl)) ?_; clear S a; intro a S
  refine qt_y S rfl rfl rfl (fun w M => y_loadAgg (cs := [_, _, _]) S (by kernel_rfl) rfl rfl (M.cellsAt (k := 3) 1 rfl rfl)) ?_; clear S a; intro a S
  refine qt_call (xs := [(Operand.tmp 11), (Operand.tmp 12)]) S (enters_of Try.func16 (by decide) rfl) rfl rfl rfl (quiet_of fun w M => less_any ⟨_, _, _⟩ ⟨_, _, _⟩ _) ?_; clear S a; intro a S
  refine qt_y S rfl rfl rfl (fun w M => y_loadAgg (cs := [_, _, _]) S (by kernel_rfl) rfl rfl (M.cellsAt (k := 3) 1 rfl rfl)) ?_; clear S a; intro a S
  refine qt_y S rfl rfl rfl (fun w M => y_loadAgg (cs := [_, _, _]) S (by kernel_rfl) rfl rfl (M.cellsAt (k := 3) 2 rfl rfl)) ?_; clear S a; intro a S
  refine qt_call (xs := [(Operand.tmp 14), (Operand.tmp 15)]) S (enters_of Try.func16 (by decide) rfl) rfl rfl rfl (quiet_of fun w M => less_any ⟨_, _, _⟩ ⟨_, _, _⟩ _) ?_; clear S a; intro a S
  refine qt_y S rfl rfl rfl (fun w M => y_loadAgg (cs := [_, _, _]) S (by kernel_rfl) rfl rfl (M.cellsAt (k := 3) 1 rfl rfl)) ?_; clear S a; intro a S
  refine qt_y S rfl rfl rfl (fun w M => y_loadAgg (cs := [_, _, _]) S (by kernel_rfl) rfl rfl (M.cellsAt (k := 3) 0 rfl rfl)) ?_; clear S a; intro a S
  refine qt_call (xs := [(Operand.tmp 17), (Operand.tmp 18)]) S (enters_of Try.func16 (by decide) rfl) rfl rfl rfl (quiet_of fun w M => less_any ⟨_, _, _⟩ ⟨_, _, _⟩ _) ?_; clear S a; intro a S
  refine qt_y S rfl rfl rfl (fun w M => y_loadAgg (cs := [_, _, _]) S (by kernel_rfl) rfl rfl (M.cellsAt (k := 3) 2 rfl rfl)) ?_; clear S a; intro a S
  refine qt_y S rfl rfl rfl (fun w M => y_loadAgg (cs := [_, _, _]) S (by kernel_rfl) rfl rfl (M.cellsAt (k := 3) 0 rfl rfl)) ?_; clear S a; intro a S
  refine qt_call (xs := [(Operand.tmp 20), (Operand.tmp 21)]) S (enters_of Try.func16 (by decide) rfl) rfl rfl rfl (quiet_of fun w M => less_any ⟨_, _, _⟩ ⟨_, _, _⟩ _) ?_; clear S a; intro a S
  refine qt_y S rfl rfl rfl (fun w M => y_assign S rfl) ?_; clear S a; intro a S
  refine qt_y S rfl rfl rfl (fun w M => y_assign S rfl) ?_; clear S a; intro a S
  refine qt_y S rfl rfl rfl (fun w M => y_assign S rfl) ?_; clear S a; intro a S
  refine qt_y S rfl rfl rfl (fun w M => y_assign S rfl) ?_; clear S a; intro a S
  refine wpQuiet_nil ?_; clear M; intro w8 M
  replace S := S.sub [(0, _), (1, _), (2, _), (3, _), (4, _), (5, _), (6, _), (7, _), (8, _), (9, _), (10, _)] rfl
  refine then_normal ?_
  refine wp_seq ?_
  -- region 2 law.go:70
  rw [show (⟨x.stamp, x.inc, x.try_⟩ : Nm).less ⟨y.stamp, y.inc, y.try_⟩ = xy from hxy, show (⟨y.stamp, y.inc, y.try_⟩ : Nm).less ⟨x.stamp, x.inc, x.try_⟩ = yx from hyx, show (⟨y.stamp, y.inc, y.try_⟩ : Nm).less ⟨z.stamp, z.inc, z.try_⟩ = yz from hyz, show (⟨x.stamp, x.inc, x.try_⟩ : Nm).less ⟨z.stamp, z.inc, z.try_⟩ = xz from hxz] at S
  refine wp_region_lit ?_
  refine st_y S rfl rfl rfl (y_move S rfl) ?_; clear S a; intro a S
  refine st_y S rfl rfl rfl (y_move S rfl) ?_; clear S a; intro a S
  refine st_split (t := 24) S rfl ?_ ?_
  · clear S; intro h24 S
    refine st_y S rfl rfl rfl (y_move S rfl) ?_; clear S a; intro a S
    refine st_y S rfl rfl rfl (y_pickT S rfl rfl) ?_; clear S a; intro a S
    refine st_y S rfl rfl rfl (y_not S rfl) ?_; clear S a; intro a S
    refine st_y S rfl rfl rfl (y_move S rfl) ?_; clear S a; intro a S
    refine st_split (t := 28) S rfl ?_ ?_
    · clear S; intro h28 S
      refine st_y S rfl rfl rfl (y_move S rfl) ?_; clear S a; intro a S
      refine st_y S rfl rfl rfl (y_move S rfl) ?_; clear S a; intro a S
      refine st_split (t := 30) S rfl ?_ ?_
      · clear S; intro h30 S
        refine st_no S rfl rfl rfl ?_; clear S a; intro a S
        refine st_y S rfl rfl rfl (y_pickT S rfl rfl) ?_; clear S a; intro a S
        refine st_y S rfl rfl rfl (y_move S rfl) ?_; clear S a; intro a S
        refine st_no S rfl rfl rfl ?_; clear S a; intro a S
        refine st_no S rfl rfl rfl ?_; clear S a; intro a S
        refine st_no S rfl rfl rfl ?_; clear S a; intro a S
        refine st_y S rfl rfl rfl (y_pickT S rfl rfl) ?_; clear S a; intro a S
        refine st_y S rfl rfl rfl (y_pickT S rfl rfl) ?_; clear S a; intro a S
        refine st_y S rfl rfl rfl (y_move S rfl) ?_; clear S a; intro a S
        refine st_y S rfl rfl rfl (y_move S rfl) ?_; clear S a; intro a S
        refine st_y S rfl rfl rfl (y_not S rfl) ?_; clear S a; intro a S
        refine st_y S rfl rfl rfl (y_move S rfl) ?_; clear S a; intro a S
        refine st_split (t := 42) S rfl ?_ ?_
        · clear S; intro h42 S
          refine st_no S rfl rfl rfl ?_; clear S a; intro a S
          refine st_no S rfl rfl rfl ?_; clear S a; intro a S
          refine st_y S rfl rfl rfl (y_pickT S rfl rfl) ?_; clear S a; intro a S
          refine st_y S rfl rfl rfl (y_move S rfl) ?_; clear S a; intro a S
          refine st_no S rfl rfl rfl ?_; clear S a; intro a S
          refine st_y S rfl rfl rfl (y_pickT S rfl rfl) ?_; clear S a; intro a S
          refine st_y S rfl rfl rfl (y_pickT S rfl rfl) ?_; clear S a; intro a S
          refine st_y S rfl rfl rfl (y_move S rfl) ?_; clear S a; intro a S
          refine st_y S rfl rfl rfl (y_loadAgg (cs := [_, _, _]) S (by kernel_rfl) rfl rfl (M.cellsAt (k := 3) 2 rfl rfl)) ?_; clear S a; intro a S
          refine st_y S rfl rfl rfl (y_loadAgg (cs := [_, _, _]) S (by kernel_rfl) rfl rfl (M.cellsAt (k := 3) 2 rfl rfl)) ?_; clear S a; intro a S
          refine st_call (xs := [(Operand.tmp 51), (Operand.tmp 52)]) S (enters_of Try.func16 (by decide) rfl) rfl rfl rfl (less_any x x _) ?_
          rintro _ w9 ⟨rfl, hK⟩; refine ⟨_, rfl, ?_⟩; clear S a; intro a S; replace M := M.grow hK
          rw [F4] at S
          refine st_y S rfl rfl rfl (y_not S rfl) ?_; clear S a; intro a S
          refine st_y S rfl rfl rfl (y_pickT S rfl rfl) ?_; clear S a; intro a S
          refine st_y S rfl rfl rfl (y_move S rfl) ?_; clear S a; intro a S
          refine st_split (t := 56) S rfl ?_ ?_
          · clear S; intro h56 S
            refine st_call (xs := []) S (enters_of Try.func8 (by decide) rfl) rfl rfl rfl (wakes_any _) ?_
            rintro _ w10 ⟨rfl, hK⟩; refine ⟨_, rfl, ?_⟩; clear S a; intro a S; replace M := M.grow hK
            refine st_y S rfl rfl rfl (y_pickT S rfl rfl) ?_; clear S a; intro a S
            refine st_y S rfl rfl rfl (y_assign S rfl) ?_; clear S a; intro a S
            refine wpList_nil ?_
            replace S := S.sub [(0, _), (1, _), (2, _), (3, _), (4, _), (5, _), (7, _), (8, _), (9, _), (10, _), (6, _)] rfl
            refine then_normal ?_
            refine wp_ret ?_
            refine end_one S rfl (res_tmp rfl) ?_
            refine ⟨ret_bool ?_, M.below⟩; clear S M; (first | rfl | (exfalso; simp_all; done) | (simp_all; done))
          · clear S; intro h56 S
            refine st_no S rfl rfl rfl ?_; clear S a; intro a S
            refine st_y S rfl rfl rfl (y_pickF S rfl rfl) ?_; clear S a; intro a S
            refine st_y S rfl rfl rfl (y_assign S rfl) ?_; clear S a; intro a S
            refine wpList_nil ?_
            replace S := S.sub [(0, _), (1, _), (2, _), (3, _), (4, _), (5, _), (7, _), (8, _), (9, _), (10, _), (6, _)] rfl
            refine then_normal ?_
            refine wp_ret ?_
            refine end_one S rfl (res_tmp rfl) ?_
            refine ⟨ret_bool ?_, M.below⟩; clear S M; (first | rfl | (exfalso; simp_all; done) | (simp_all; done))
        · clear S; intro h42 S
          refine st_y S rfl rfl rfl (y_move S rfl) ?_; clear S a; intro a S
          refine st_y S rfl rfl rfl (y_not S rfl) ?_; clear S a; intro a S
          refine st_y S rfl rfl rfl (y_pickF S rfl rfl) ?_; clear S a; intro a S
          refine st_y S rfl rfl rfl (y_move S rfl) ?_; clear S a; intro a S
          refine st_split (t := 46) S rfl ?_ ?_
          · clear S; intro h46 S
            refine st_no S rfl rfl rfl ?_; clear S a; intro a S
            refine st_y S rfl rfl rfl (y_pickT S rfl rfl) ?_; clear S a; intro a S
            refine st_y S rfl rfl rfl (y_pickT S rfl rfl) ?_; clear S a; intro a S
            refine st_y S rfl rfl rfl (y_move S rfl) ?_; clear S a; intro a S
            refine st_y S rfl rfl rfl (y_loadAgg (cs := [_, _, _]) S (by kernel_rfl) rfl rfl (M.cellsAt (k := 3) 2 rfl rfl)) ?_; clear S a; intro a S
            refine st_y S rfl rfl rfl (y_loadAgg (cs := [_, _, _]) S (by kernel_rfl) rfl rfl (M.cellsAt (k := 3) 2 rfl rfl)) ?_; clear S a; intro a S
            refine st_call (xs := [(Operand.tmp 51), (Operand.tmp 52)]) S (enters_of Try.func16 (by decide) rfl) rfl rfl rfl (less_any x x _) ?_
            rintro _ w11 ⟨rfl, hK⟩; refine ⟨_, rfl, ?_⟩; clear S a; intro a S; replace M := M.grow hK
            rw [F4] at S
            refine st_y S rfl rfl rfl (y_not S rfl) ?_; clear S a; intro a S
            refine st_y S rfl rfl rfl (y_pickT S rfl rfl) ?_; clear S a; intro a S
            refine st_y S rfl rfl rfl (y_move S rfl) ?_; clear S a; intro a S
            refine st_split (t := 56) S rfl ?_ ?_
            · clear S; intro h56 S
              refine st_call (xs := []) S (enters_of Try.func8 (by decide) rfl) rfl rfl rfl (wakes_any _) ?_
              rintro _ w12 ⟨rfl, hK⟩; refine ⟨_, rfl, ?_⟩; clear S a; intro a S; replace M := M.grow hK
              refine st_y S rfl rfl rfl (y_pickT S rfl rfl) ?_; clear S a; intro a S
              refine st_y S rfl rfl rfl (y_assign S rfl) ?_; clear S a; intro a S
              refine wpList_nil ?_
              replace S := S.sub [(0, _), (1, _), (2, _), (3, _), (4, _), (5, _), (7, _), (8, _), (9, _), (10, _), (6, _)] rfl
              refine then_normal ?_
              refine wp_ret ?_
              refine end_one S rfl (res_tmp rfl) ?_
              refine ⟨ret_bool ?_, M.below⟩; clear S M; (first | rfl | (exfalso; simp_all; done) | (simp_all; done))
            · clear S; intro h56 S
              refine st_no S rfl rfl rfl ?_; clear S a; intro a S
              refine st_y S rfl rfl rfl (y_pickF S rfl rfl) ?_; clear S a; intro a S
              refine st_y S rfl rfl rfl (y_assign S rfl) ?_; clear S a; intro a S
              refine wpList_nil ?_
              replace S := S.sub [(0, _), (1, _), (2, _), (3, _), (4, _), (5, _), (7, _), (8, _), (9, _), (10, _), (6, _)] rfl
              refine then_normal ?_
              refine wp_ret ?_
              refine end_one S rfl (res_tmp rfl) ?_
              refine ⟨ret_bool ?_, M.below⟩; clear S M; (first | rfl | (exfalso; simp_all; done) | (simp_all; done))
          · clear S; intro h46 S
            refine st_y S rfl rfl rfl (y_move S rfl) ?_; clear S a; intro a S
            refine st_y S rfl rfl rfl (y_pickF S rfl rfl) ?_; clear S a; intro a S
            refine st_y S rfl rfl rfl (y_pickT S rfl rfl) ?_; clear S a; intro a S
            refine st_y S rfl rfl rfl (y_move S rfl) ?_; clear S a; intro a S
            refine st_split (t := 50) S rfl ?_ ?_
            · clear S; intro h50 S
              refine st_y S rfl rfl rfl (y_loadAgg (cs := [_, _, _]) S (by kernel_rfl) rfl rfl (M.cellsAt (k := 3) 2 rfl rfl)) ?_; clear S a; intro a S
              refine st_y S rfl rfl rfl (y_loadAgg (cs := [_, _, _]) S (by kernel_rfl) rfl rfl (M.cellsAt (k := 3) 2 rfl rfl)) ?_; clear S a; intro a S
              refine st_call (xs := [(Operand.tmp 51), (Operand.tmp 52)]) S (enters_of Try.func16 (by decide) rfl) rfl rfl rfl (less_any x x _) ?_
              rintro _ w13 ⟨rfl, hK⟩; refine ⟨_, rfl, ?_⟩; clear S a; intro a S; replace M := M.grow hK
              rw [F4] at S
              refine st_y S rfl rfl rfl (y_not S rfl) ?_; clear S a; intro a S
              refine st_y S rfl rfl rfl (y_pickT S rfl rfl) ?_; clear S a; intro a S
              refine st_y S rfl rfl rfl (y_move S rfl) ?_; clear S a; intro a S
              refine st_split (t := 56) S rfl ?_ ?_
              · clear S; intro h56 S
                refine st_call (xs := []) S (enters_of Try.func8 (by decide) rfl) rfl rfl rfl (wakes_any _) ?_
                rintro _ w14 ⟨rfl, hK⟩; refine ⟨_, rfl, ?_⟩; clear S a; intro a S; replace M := M.grow hK
                refine st_y S rfl rfl rfl (y_pickT S rfl rfl) ?_; clear S a; intro a S
                refine st_y S rfl rfl rfl (y_assign S rfl) ?_; clear S a; intro a S
                refine wpList_nil ?_
                replace S := S.sub [(0, _), (1, _), (2, _), (3, _), (4, _), (5, _), (7, _), (8, _), (9, _), (10, _), (6, _)] rfl
                refine then_normal ?_
                refine wp_ret ?_
                refine end_one S rfl (res_tmp rfl) ?_
                refine ⟨ret_bool ?_, M.below⟩; clear S M; (first | rfl | (exfalso; simp_all; done) | (simp_all; done))
              · clear S; intro h56 S
                refine st_no S rfl rfl rfl ?_; clear S a; intro a S
                refine st_y S rfl rfl rfl (y_pickF S rfl rfl) ?_; clear S a; intro a S
                refine st_y S rfl rfl rfl (y_assign S rfl) ?_; clear S a; intro a S
                refine wpList_nil ?_
                replace S := S.sub [(0, _), (1, _), (2, _), (3, _), (4, _), (5, _), (7, _), (8, _), (9, _), (10, _), (6, _)] rfl
                refine then_normal ?_
                refine wp_ret ?_
                refine end_one S rfl (res_tmp rfl) ?_
                refine ⟨ret_bool ?_, M.below⟩; clear S M; (first | rfl | (exfalso; simp_all; done) | (simp_all; done))
            · clear S; intro h50 S
              refine st_no S rfl rfl rfl ?_; clear S a; intro a S
              refine st_no S rfl rfl rfl ?_; clear S a; intro a S
              refine st_no S rfl rfl rfl ?_; clear S a; intro a S
              refine st_no S rfl rfl rfl ?_; clear S a; intro a S
              refine st_y S rfl rfl rfl (y_pickF S rfl rfl) ?_; clear S a; intro a S
              refine st_y S rfl rfl rfl (y_move S rfl) ?_; clear S a; intro a S
              refine st_no S rfl rfl rfl ?_; clear S a; intro a S
              refine st_y S rfl rfl rfl (y_pickF S rfl rfl) ?_; clear S a; intro a S
              refine st_y S rfl rfl rfl (y_assign S rfl) ?_; clear S a; intro a S
              refine wpList_nil ?_
              replace S := S.sub [(0, _), (1, _), (2, _), (3, _), (4, _), (5, _), (7, _), (8, _), (9, _), (10, _), (6, _)] rfl
              refine then_normal ?_
              refine wp_ret ?_
              refine end_one S rfl (res_tmp rfl) ?_
              refine ⟨ret_bool ?_, M.below⟩; clear S M; (first | rfl | (exfalso; simp_all; done) | (simp_all; done))
      · clear S; intro h30 S
        refine st_y S rfl rfl rfl (y_move S rfl) ?_; clear S a; intro a S
        refine st_y S rfl rfl rfl (y_pickF S rfl rfl) ?_; clear S a; intro a S
        refine st_y S rfl rfl rfl (y_move S rfl) ?_; clear S a; intro a S
        refine st_split (t := 33) S rfl ?_ ?_
        · clear S; intro h33 S
          refine st_no S rfl rfl rfl ?_; clear S a; intro a S
          refine st_no S rfl rfl rfl ?_; clear S a; intro a S
          refine st_no S rfl rfl rfl ?_; clear S a; intro a S
          refine st_y S rfl rfl rfl (y_pickT S rfl rfl) ?_; clear S a; intro a S
          refine st_y S rfl rfl rfl (y_pickT S rfl rfl) ?_; clear S a; intro a S
          refine st_y S rfl rfl rfl (y_move S rfl) ?_; clear S a; intro a S
          refine st_y S rfl rfl rfl (y_move S rfl) ?_; clear S a; intro a S
          refine st_y S rfl rfl rfl (y_not S rfl) ?_; clear S a; intro a S
          refine st_y S rfl rfl rfl (y_move S rfl) ?_; clear S a; intro a S
          refine st_split (t := 42) S rfl ?_ ?_
          · clear S; intro h42 S
            refine st_no S rfl rfl rfl ?_; clear S a; intro a S
            refine st_no S rfl rfl rfl ?_; clear S a; intro a S
            refine st_y S rfl rfl rfl (y_pickT S rfl rfl) ?_; clear S a; intro a S
            refine st_y S rfl rfl rfl (y_move S rfl) ?_; clear S a; intro a S
            refine st_no S rfl rfl rfl ?_; clear S a; intro a S
            refine st_y S rfl rfl rfl (y_pickT S rfl rfl) ?_; clear S a; intro a S
            refine st_y S rfl rfl rfl (y_pickT S rfl rfl) ?_; clear S a; intro a S
            refine st_y S rfl rfl rfl (y_move S rfl) ?_; clear S a; intro a S
            refine st_y S rfl rfl rfl (y_loadAgg (cs := [_, _, _]) S (by kernel_rfl) rfl rfl (M.cellsAt (k := 3) 2 rfl rfl)) ?_; clear S a; intro a S
            refine st_y S rfl rfl rfl (y_loadAgg (cs := [_, _, _]) S (by kernel_rfl) rfl rfl (M.cellsAt (k := 3) 2 rfl rfl)) ?_; clear S a; intro a S
            refine st_call (xs := [(Operand.tmp 51), (Operand.tmp 52)]) S (enters_of Try.func16 (by decide) rfl) rfl rfl rfl (less_any x x _) ?_
            rintro _ w15 ⟨rfl, hK⟩; refine ⟨_, rfl, ?_⟩; clear S a; intro a S; replace M := M.grow hK
            rw [F4] at S
            refine st_y S rfl rfl rfl (y_not S rfl) ?_; clear S a; intro a S
            refine st_y S rfl rfl rfl (y_pickT S rfl rfl) ?_; clear S a; intro a S
            refine st_y S rfl rfl rfl (y_move S rfl) ?_; clear S a; intro a S
            refine st_split (t := 56) S rfl ?_ ?_
            · clear S; intro h56 S
              refine st_call (xs := []) S (enters_of Try.func8 (by decide) rfl) rfl rfl rfl (wakes_any _) ?_
              rintro _ w16 ⟨rfl, hK⟩; refine ⟨_, rfl, ?_⟩; clear S a; intro a S; replace M := M.grow hK
              refine st_y S rfl rfl rfl (y_pickT S rfl rfl) ?_; clear S a; intro a S
              refine st_y S rfl rfl rfl (y_assign S rfl) ?_; clear S a; intro a S
              refine wpList_nil ?_
              replace S := S.sub [(0, _), (1, _), (2, _), (3, _), (4, _), (5, _), (7, _), (8, _), (9, _), (10, _), (6, _)] rfl
              refine then_normal ?_
              refine wp_ret ?_
              refine end_one S rfl (res_tmp rfl) ?_
              refine ⟨ret_bool ?_, M.below⟩; clear S M; (first | rfl | (exfalso; simp_all; done) | (simp_all; done))
            · clear S; intro h56 S
              refine st_no S rfl rfl rfl ?_; clear S a; intro a S
              refine st_y S rfl rfl rfl (y_pickF S rfl rfl) ?_; clear S a; intro a S
              refine st_y S rfl rfl rfl (y_assign S rfl) ?_; clear S a; intro a S
              refine wpList_nil ?_
              replace S := S.sub [(0, _), (1, _), (2, _), (3, _), (4, _), (5, _), (7, _), (8, _), (9, _), (10, _), (6, _)] rfl
              refine then_normal ?_
              refine wp_ret ?_
              refine end_one S rfl (res_tmp rfl) ?_
              refine ⟨ret_bool ?_, M.below⟩; clear S M; (first | rfl | (exfalso; simp_all; done) | (simp_all; done))
          · clear S; intro h42 S
            refine st_y S rfl rfl rfl (y_move S rfl) ?_; clear S a; intro a S
            refine st_y S rfl rfl rfl (y_not S rfl) ?_; clear S a; intro a S
            refine st_y S rfl rfl rfl (y_pickF S rfl rfl) ?_; clear S a; intro a S
            refine st_y S rfl rfl rfl (y_move S rfl) ?_; clear S a; intro a S
            refine st_split (t := 46) S rfl ?_ ?_
            · clear S; intro h46 S
              refine st_no S rfl rfl rfl ?_; clear S a; intro a S
              refine st_y S rfl rfl rfl (y_pickT S rfl rfl) ?_; clear S a; intro a S
              refine st_y S rfl rfl rfl (y_pickT S rfl rfl) ?_; clear S a; intro a S
              refine st_y S rfl rfl rfl (y_move S rfl) ?_; clear S a; intro a S
              refine st_y S rfl rfl rfl (y_loadAgg (cs := [_, _, _]) S (by kernel_rfl) rfl rfl (M.cellsAt (k := 3) 2 rfl rfl)) ?_; clear S a; intro a S
              refine st_y S rfl rfl rfl (y_loadAgg (cs := [_, _, _]) S (by kernel_rfl) rfl rfl (M.cellsAt (k := 3) 2 rfl rfl)) ?_; clear S a; intro a S
              refine st_call (xs := [(Operand.tmp 51), (Operand.tmp 52)]) S (enters_of Try.func16 (by decide) rfl) rfl rfl rfl (less_any x x _) ?_
              rintro _ w17 ⟨rfl, hK⟩; refine ⟨_, rfl, ?_⟩; clear S a; intro a S; replace M := M.grow hK
              rw [F4] at S
              refine st_y S rfl rfl rfl (y_not S rfl) ?_; clear S a; intro a S
              refine st_y S rfl rfl rfl (y_pickT S rfl rfl) ?_; clear S a; intro a S
              refine st_y S rfl rfl rfl (y_move S rfl) ?_; clear S a; intro a S
              refine st_split (t := 56) S rfl ?_ ?_
              · clear S; intro h56 S
                refine st_call (xs := []) S (enters_of Try.func8 (by decide) rfl) rfl rfl rfl (wakes_any _) ?_
                rintro _ w18 ⟨rfl, hK⟩; refine ⟨_, rfl, ?_⟩; clear S a; intro a S; replace M := M.grow hK
                refine st_y S rfl rfl rfl (y_pickT S rfl rfl) ?_; clear S a; intro a S
                refine st_y S rfl rfl rfl (y_assign S rfl) ?_; clear S a; intro a S
                refine wpList_nil ?_
                replace S := S.sub [(0, _), (1, _), (2, _), (3, _), (4, _), (5, _), (7, _), (8, _), (9, _), (10, _), (6, _)] rfl
                refine then_normal ?_
                refine wp_ret ?_
                refine end_one S rfl (res_tmp rfl) ?_
                refine ⟨ret_bool ?_, M.below⟩; clear S M; (first | rfl | (exfalso; simp_all; done) | (simp_all; done))
              · clear S; intro h56 S
                refine st_no S rfl rfl rfl ?_; clear S a; intro a S
                refine st_y S rfl rfl rfl (y_pickF S rfl rfl) ?_; clear S a; intro a S
                refine st_y S rfl rfl rfl (y_assign S rfl) ?_; clear S a; intro a S
                refine wpList_nil ?_
                replace S := S.sub [(0, _), (1, _), (2, _), (3, _), (4, _), (5, _), (7, _), (8, _), (9, _), (10, _), (6, _)] rfl
                refine then_normal ?_
                refine wp_ret ?_
                refine end_one S rfl (res_tmp rfl) ?_
                refine ⟨ret_bool ?_, M.below⟩; clear S M; (first | rfl | (exfalso; simp_all; done) | (simp_all; done))
            · clear S; intro h46 S
              refine st_y S rfl rfl rfl (y_move S rfl) ?_; clear S a; intro a S
              refine st_y S rfl rfl rfl (y_pickF S rfl rfl) ?_; clear S a; intro a S
              refine st_y S rfl rfl rfl (y_pickT S rfl rfl) ?_; clear S a; intro a S
              refine st_y S rfl rfl rfl (y_move S rfl) ?_; clear S a; intro a S
              refine st_split (t := 50) S rfl ?_ ?_
              · clear S; intro h50 S
                refine st_y S rfl rfl rfl (y_loadAgg (cs := [_, _, _]) S (by kernel_rfl) rfl rfl (M.cellsAt (k := 3) 2 rfl rfl)) ?_; clear S a; intro a S
                refine st_y S rfl rfl rfl (y_loadAgg (cs := [_, _, _]) S (by kernel_rfl) rfl rfl (M.cellsAt (k := 3) 2 rfl rfl)) ?_; clear S a; intro a S
                refine st_call (xs := [(Operand.tmp 51), (Operand.tmp 52)]) S (enters_of Try.func16 (by decide) rfl) rfl rfl rfl (less_any x x _) ?_
                rintro _ w19 ⟨rfl, hK⟩; refine ⟨_, rfl, ?_⟩; clear S a; intro a S; replace M := M.grow hK
                rw [F4] at S
                refine st_y S rfl rfl rfl (y_not S rfl) ?_; clear S a; intro a S
                refine st_y S rfl rfl rfl (y_pickT S rfl rfl) ?_; clear S a; intro a S
                refine st_y S rfl rfl rfl (y_move S rfl) ?_; clear S a; intro a S
                refine st_split (t := 56) S rfl ?_ ?_
                · clear S; intro h56 S
                  refine st_call (xs := []) S (enters_of Try.func8 (by decide) rfl) rfl rfl rfl (wakes_any _) ?_
                  rintro _ w20 ⟨rfl, hK⟩; refine ⟨_, rfl, ?_⟩; clear S a; intro a S; replace M := M.grow hK
                  refine st_y S rfl rfl rfl (y_pickT S rfl rfl) ?_; clear S a; intro a S
                  refine st_y S rfl rfl rfl (y_assign S rfl) ?_; clear S a; intro a S
                  refine wpList_nil ?_
                  replace S := S.sub [(0, _), (1, _), (2, _), (3, _), (4, _), (5, _), (7, _), (8, _), (9, _), (10, _), (6, _)] rfl
                  refine then_normal ?_
                  refine wp_ret ?_
                  refine end_one S rfl (res_tmp rfl) ?_
                  refine ⟨ret_bool ?_, M.below⟩; clear S M; (first | rfl | (exfalso; simp_all; done) | (simp_all; done))
                · clear S; intro h56 S
                  refine st_no S rfl rfl rfl ?_; clear S a; intro a S
                  refine st_y S rfl rfl rfl (y_pickF S rfl rfl) ?_; clear S a; intro a S
                  refine st_y S rfl rfl rfl (y_assign S rfl) ?_; clear S a; intro a S
                  refine wpList_nil ?_
                  replace S := S.sub [(0, _), (1, _), (2, _), (3, _), (4, _), (5, _), (7, _), (8, _), (9, _), (10, _), (6, _)] rfl
                  refine then_normal ?_
                  refine wp_ret ?_
                  refine end_one S rfl (res_tmp rfl) ?_
                  refine ⟨ret_bool ?_, M.below⟩; clear S M; (first | rfl | (exfalso; simp_all; done) | (simp_all; done))
              · clear S; intro h50 S
                refine st_no S rfl rfl rfl ?_; clear S a; intro a S
                refine st_no S rfl rfl rfl ?_; clear S a; intro a S
                refine st_no S rfl rfl rfl ?_; clear S a; intro a S
                refine st_no S rfl rfl rfl ?_; clear S a; intro a S
                refine st_y S rfl rfl rfl (y_pickF S rfl rfl) ?_; clear S a; intro a S
                refine st_y S rfl rfl rfl (y_move S rfl) ?_; clear S a; intro a S
                refine st_no S rfl rfl rfl ?_; clear S a; intro a S
                refine st_y S rfl rfl rfl (y_pickF S rfl rfl) ?_; clear S a; intro a S
                refine st_y S rfl rfl rfl (y_assign S rfl) ?_; clear S a; intro a S
                refine wpList_nil ?_
                replace S := S.sub [(0, _), (1, _), (2, _), (3, _), (4, _), (5, _), (7, _), (8, _), (9, _), (10, _), (6, _)] rfl
                refine then_normal ?_
                refine wp_ret ?_
                refine end_one S rfl (res_tmp rfl) ?_
                refine ⟨ret_bool ?_, M.below⟩; clear S M; (first | rfl | (exfalso; simp_all; done) | (simp_all; done))
        · clear S; intro h33 S
          refine st_y S rfl rfl rfl (y_loadAgg (cs := [_, _, _]) S (by kernel_rfl) rfl rfl (M.cellsAt (k := 3) 2 rfl rfl)) ?_; clear S a; intro a S
          refine st_y S rfl rfl rfl (y_loadAgg (cs := [_, _, _]) S (by kernel_rfl) rfl rfl (M.cellsAt (k := 3) 1 rfl rfl)) ?_; clear S a; intro a S
          refine st_y S rfl rfl rfl (y_eqlG (by kernel_rfl) S rfl rfl (fun w => equalNm 9998 x y w)) ?_; clear S a; intro a S
          refine st_y S rfl rfl rfl (y_pickF S rfl rfl) ?_; clear S a; intro a S
          refine st_y S rfl rfl rfl (y_pickT S rfl rfl) ?_; clear S a; intro a S
          refine st_y S rfl rfl rfl (y_move S rfl) ?_; clear S a; intro a S
          refine st_split (t := 39) S rfl ?_ ?_
          · clear S; intro h39 S
            refine st_y S rfl rfl rfl (y_move S rfl) ?_; clear S a; intro a S
            refine st_y S rfl rfl rfl (y_not S rfl) ?_; clear S a; intro a S
            refine st_y S rfl rfl rfl (y_move S rfl) ?_; clear S a; intro a S
            refine st_split (t := 42) S rfl ?_ ?_
            · clear S; intro h42 S
              refine st_no S rfl rfl rfl ?_; clear S a; intro a S
              refine st_no S rfl rfl rfl ?_; clear S a; intro a S
              refine st_y S rfl rfl rfl (y_pickT S rfl rfl) ?_; clear S a; intro a S
              refine st_y S rfl rfl rfl (y_move S rfl) ?_; clear S a; intro a S
              refine st_no S rfl rfl rfl ?_; clear S a; intro a S
              refine st_y S rfl rfl rfl (y_pickT S rfl rfl) ?_; clear S a; intro a S
              refine st_y S rfl rfl rfl (y_pickT S rfl rfl) ?_; clear S a; intro a S
              refine st_y S rfl rfl rfl (y_move S rfl) ?_; clear S a; intro a S
              refine st_y S rfl rfl rfl (y_loadAgg (cs := [_, _, _]) S (by kernel_rfl) rfl rfl (M.cellsAt (k := 3) 2 rfl rfl)) ?_; clear S a; intro a S
              refine st_y S rfl rfl rfl (y_loadAgg (cs := [_, _, _]) S (by kernel_rfl) rfl rfl (M.cellsAt (k := 3) 2 rfl rfl)) ?_; clear S a; intro a S
              refine st_call (xs := [(Operand.tmp 51), (Operand.tmp 52)]) S (enters_of Try.func16 (by decide) rfl) rfl rfl rfl (less_any x x _) ?_
              rintro _ w21 ⟨rfl, hK⟩; refine ⟨_, rfl, ?_⟩; clear S a; intro a S; replace M := M.grow hK
              rw [F4] at S
              refine st_y S rfl rfl rfl (y_not S rfl) ?_; clear S a; intro a S
              refine st_y S rfl rfl rfl (y_pickT S rfl rfl) ?_; clear S a; intro a S
              refine st_y S rfl rfl rfl (y_move S rfl) ?_; clear S a; intro a S
              refine st_split (t := 56) S rfl ?_ ?_
              · clear S; intro h56 S
                refine st_call (xs := []) S (enters_of Try.func8 (by decide) rfl) rfl rfl rfl (wakes_any _) ?_
                rintro _ w22 ⟨rfl, hK⟩; refine ⟨_, rfl, ?_⟩; clear S a; intro a S; replace M := M.grow hK
                refine st_y S rfl rfl rfl (y_pickT S rfl rfl) ?_; clear S a; intro a S
                refine st_y S rfl rfl rfl (y_assign S rfl) ?_; clear S a; intro a S
                refine wpList_nil ?_
                replace S := S.sub [(0, _), (1, _), (2, _), (3, _), (4, _), (5, _), (7, _), (8, _), (9, _), (10, _), (6, _)] rfl
                refine then_normal ?_
                refine wp_ret ?_
                refine end_one S rfl (res_tmp rfl) ?_
                refine ⟨ret_bool ?_, M.below⟩; clear S M; (first | rfl | (exfalso; simp_all; done) | (simp_all; done))
              · clear S; intro h56 S
                refine st_no S rfl rfl rfl ?_; clear S a; intro a S
                refine st_y S rfl rfl rfl (y_pickF S rfl rfl) ?_; clear S a; intro a S
                refine st_y S rfl rfl rfl (y_assign S rfl) ?_; clear S a; intro a S
                refine wpList_nil ?_
                replace S := S.sub [(0, _), (1, _), (2, _), (3, _), (4, _), (5, _), (7, _), (8, _), (9, _), (10, _), (6, _)] rfl
                refine then_normal ?_
                refine wp_ret ?_
                refine end_one S rfl (res_tmp rfl) ?_
                refine ⟨ret_bool ?_, M.below⟩; clear S M; (first | rfl | (exfalso; simp_all; done) | (simp_all; done))
            · clear S; intro h42 S
              refine st_y S rfl rfl rfl (y_move S rfl) ?_; clear S a; intro a S
              refine st_y S rfl rfl rfl (y_not S rfl) ?_; clear S a; intro a S
              refine st_y S rfl rfl rfl (y_pickF S rfl rfl) ?_; clear S a; intro a S
              refine st_y S rfl rfl rfl (y_move S rfl) ?_; clear S a; intro a S
              refine st_split (t := 46) S rfl ?_ ?_
              · clear S; intro h46 S
                refine st_no S rfl rfl rfl ?_; clear S a; intro a S
                refine st_y S rfl rfl rfl (y_pickT S rfl rfl) ?_; clear S a; intro a S
                refine st_y S rfl rfl rfl (y_pickT S rfl rfl) ?_; clear S a; intro a S
                refine st_y S rfl rfl rfl (y_move S rfl) ?_; clear S a; intro a S
                refine st_y S rfl rfl rfl (y_loadAgg (cs := [_, _, _]) S (by kernel_rfl) rfl rfl (M.cellsAt (k := 3) 2 rfl rfl)) ?_; clear S a; intro a S
                refine st_y S rfl rfl rfl (y_loadAgg (cs := [_, _, _]) S (by kernel_rfl) rfl rfl (M.cellsAt (k := 3) 2 rfl rfl)) ?_; clear S a; intro a S
                refine st_call (xs := [(Operand.tmp 51), (Operand.tmp 52)]) S (enters_of Try.func16 (by decide) rfl) rfl rfl rfl (less_any x x _) ?_
                rintro _ w23 ⟨rfl, hK⟩; refine ⟨_, rfl, ?_⟩; clear S a; intro a S; replace M := M.grow hK
                rw [F4] at S
                refine st_y S rfl rfl rfl (y_not S rfl) ?_; clear S a; intro a S
                refine st_y S rfl rfl rfl (y_pickT S rfl rfl) ?_; clear S a; intro a S
                refine st_y S rfl rfl rfl (y_move S rfl) ?_; clear S a; intro a S
                refine st_split (t := 56) S rfl ?_ ?_
                · clear S; intro h56 S
                  refine st_call (xs := []) S (enters_of Try.func8 (by decide) rfl) rfl rfl rfl (wakes_any _) ?_
                  rintro _ w24 ⟨rfl, hK⟩; refine ⟨_, rfl, ?_⟩; clear S a; intro a S; replace M := M.grow hK
                  refine st_y S rfl rfl rfl (y_pickT S rfl rfl) ?_; clear S a; intro a S
                  refine st_y S rfl rfl rfl (y_assign S rfl) ?_; clear S a; intro a S
                  refine wpList_nil ?_
                  replace S := S.sub [(0, _), (1, _), (2, _), (3, _), (4, _), (5, _), (7, _), (8, _), (9, _), (10, _), (6, _)] rfl
                  refine then_normal ?_
                  refine wp_ret ?_
                  refine end_one S rfl (res_tmp rfl) ?_
                  refine ⟨ret_bool ?_, M.below⟩; clear S M; (first | rfl | (exfalso; simp_all; done) | (simp_all; done))
                · clear S; intro h56 S
                  refine st_no S rfl rfl rfl ?_; clear S a; intro a S
                  refine st_y S rfl rfl rfl (y_pickF S rfl rfl) ?_; clear S a; intro a S
                  refine st_y S rfl rfl rfl (y_assign S rfl) ?_; clear S a; intro a S
                  refine wpList_nil ?_
                  replace S := S.sub [(0, _), (1, _), (2, _), (3, _), (4, _), (5, _), (7, _), (8, _), (9, _), (10, _), (6, _)] rfl
                  refine then_normal ?_
                  refine wp_ret ?_
                  refine end_one S rfl (res_tmp rfl) ?_
                  refine ⟨ret_bool ?_, M.below⟩; clear S M; (first | rfl | (exfalso; simp_all; done) | (simp_all; done))
              · clear S; intro h46 S
                refine st_y S rfl rfl rfl (y_move S rfl) ?_; clear S a; intro a S
                refine st_y S rfl rfl rfl (y_pickF S rfl rfl) ?_; clear S a; intro a S
                refine st_y S rfl rfl rfl (y_pickT S rfl rfl) ?_; clear S a; intro a S
                refine st_y S rfl rfl rfl (y_move S rfl) ?_; clear S a; intro a S
                refine st_split (t := 50) S rfl ?_ ?_
                · clear S; intro h50 S
                  refine st_y S rfl rfl rfl (y_loadAgg (cs := [_, _, _]) S (by kernel_rfl) rfl rfl (M.cellsAt (k := 3) 2 rfl rfl)) ?_; clear S a; intro a S
                  refine st_y S rfl rfl rfl (y_loadAgg (cs := [_, _, _]) S (by kernel_rfl) rfl rfl (M.cellsAt (k := 3) 2 rfl rfl)) ?_; clear S a; intro a S
                  refine st_call (xs := [(Operand.tmp 51), (Operand.tmp 52)]) S (enters_of Try.func16 (by decide) rfl) rfl rfl rfl (less_any x x _) ?_
                  rintro _ w25 ⟨rfl, hK⟩; refine ⟨_, rfl, ?_⟩; clear S a; intro a S; replace M := M.grow hK
                  rw [F4] at S
                  refine st_y S rfl rfl rfl (y_not S rfl) ?_; clear S a; intro a S
                  refine st_y S rfl rfl rfl (y_pickT S rfl rfl) ?_; clear S a; intro a S
                  refine st_y S rfl rfl rfl (y_move S rfl) ?_; clear S a; intro a S
                  refine st_split (t := 56) S rfl ?_ ?_
                  · clear S; intro h56 S
                    refine st_call (xs := []) S (enters_of Try.func8 (by decide) rfl) rfl rfl rfl (wakes_any _) ?_
                    rintro _ w26 ⟨rfl, hK⟩; refine ⟨_, rfl, ?_⟩; clear S a; intro a S; replace M := M.grow hK
                    refine st_y S rfl rfl rfl (y_pickT S rfl rfl) ?_; clear S a; intro a S
                    refine st_y S rfl rfl rfl (y_assign S rfl) ?_; clear S a; intro a S
                    refine wpList_nil ?_
                    replace S := S.sub [(0, _), (1, _), (2, _), (3, _), (4, _), (5, _), (7, _), (8, _), (9, _), (10, _), (6, _)] rfl
                    refine then_normal ?_
                    refine wp_ret ?_
                    refine end_one S rfl (res_tmp rfl) ?_
                    refine ⟨ret_bool ?_, M.below⟩; clear S M; (first | rfl | (exfalso; simp_all; done) | (simp_all; done))
                  · clear S; intro h56 S
                    refine st_no S rfl rfl rfl ?_; clear S a; intro a S
                    refine st_y S rfl rfl rfl (y_pickF S rfl rfl) ?_; clear S a; intro a S
                    refine st_y S rfl rfl rfl (y_assign S rfl) ?_; clear S a; intro a S
                    refine wpList_nil ?_
                    replace S := S.sub [(0, _), (1, _), (2, _), (3, _), (4, _), (5, _), (7, _), (8, _), (9, _), (10, _), (6, _)] rfl
                    refine then_normal ?_
                    refine wp_ret ?_
                    refine end_one S rfl (res_tmp rfl) ?_
                    refine ⟨ret_bool ?_, M.below⟩; clear S M; (first | rfl | (exfalso; simp_all; done) | (simp_all; done))
                · clear S; intro h50 S
                  refine st_no S rfl rfl rfl ?_; clear S a; intro a S
                  refine st_no S rfl rfl rfl ?_; clear S a; intro a S
                  refine st_no S rfl rfl rfl ?_; clear S a; intro a S
                  refine st_no S rfl rfl rfl ?_; clear S a; intro a S
                  refine st_y S rfl rfl rfl (y_pickF S rfl rfl) ?_; clear S a; intro a S
                  refine st_y S rfl rfl rfl (y_move S rfl) ?_; clear S a; intro a S
                  refine st_no S rfl rfl rfl ?_; clear S a; intro a S
                  refine st_y S rfl rfl rfl (y_pickF S rfl rfl) ?_; clear S a; intro a S
                  refine st_y S rfl rfl rfl (y_assign S rfl) ?_; clear S a; intro a S
                  refine wpList_nil ?_
                  replace S := S.sub [(0, _), (1, _), (2, _), (3, _), (4, _), (5, _), (7, _), (8, _), (9, _), (10, _), (6, _)] rfl
                  refine then_normal ?_
                  refine wp_ret ?_
                  refine end_one S rfl (res_tmp rfl) ?_
                  refine ⟨ret_bool ?_, M.below⟩; clear S M; (first | rfl | (exfalso; simp_all; done) | (simp_all; done))
          · clear S; intro h39 S
            refine st_no S rfl rfl rfl ?_; clear S a; intro a S
            refine st_no S rfl rfl rfl ?_; clear S a; intro a S
            refine st_no S rfl rfl rfl ?_; clear S a; intro a S
            refine st_no S rfl rfl rfl ?_; clear S a; intro a S
            refine st_no S rfl rfl rfl ?_; clear S a; intro a S
            refine st_no S rfl rfl rfl ?_; clear S a; intro a S
            refine st_no S rfl rfl rfl ?_; clear S a; intro a S
            refine st_no S rfl rfl rfl ?_; clear S a; intro a S
            refine st_no S rfl rfl rfl ?_; clear S a; intro a S
            refine st_y S rfl rfl rfl (y_pickF S rfl rfl) ?_; clear S a; intro a S
            refine st_y S rfl rfl rfl (y_move S rfl) ?_; clear S a; intro a S
            refine st_no S rfl rfl rfl ?_; clear S a; intro a S
            refine st_no S rfl rfl rfl ?_; clear S a; intro a S
            refine st_no S rfl rfl rfl ?_; clear S a; intro a S
            refine st_no S rfl rfl rfl ?_; clear S a; intro a S
            refine st_y S rfl rfl rfl (y_pickF S rfl rfl) ?_; clear S a; intro a S
            refine st_y S rfl rfl rfl (y_move S rfl) ?_; clear S a; intro a S
            refine st_no S rfl rfl rfl ?_; clear S a; intro a S
            refine st_y S rfl rfl rfl (y_pickF S rfl rfl) ?_; clear S a; intro a S
            refine st_y S rfl rfl rfl (y_assign S rfl) ?_; clear S a; intro a S
            refine wpList_nil ?_
            replace S := S.sub [(0, _), (1, _), (2, _), (3, _), (4, _), (5, _), (7, _), (8, _), (9, _), (10, _), (6, _)] rfl
            refine then_normal ?_
            refine wp_ret ?_
            refine end_one S rfl (res_tmp rfl) ?_
            refine ⟨ret_bool ?_, M.below⟩; clear S M; (first | rfl | (exfalso; simp_all; done) | (simp_all; done))
    · clear S; intro h28 S
      refine st_no S rfl rfl rfl ?_; clear S a; intro a S
      refine st_no S rfl rfl rfl ?_; clear S a; intro a S
      refine st_no S rfl rfl rfl ?_; clear S a; intro a S
      refine st_no S rfl rfl rfl ?_; clear S a; intro a S
      refine st_no S rfl rfl rfl ?_; clear S a; intro a S
      refine st_no S rfl rfl rfl ?_; clear S a; intro a S
      refine st_no S rfl rfl rfl ?_; clear S a; intro a S
      refine st_no S rfl rfl rfl ?_; clear S a; intro a S
      refine st_no S rfl rfl rfl ?_; clear S a; intro a S
      refine st_y S rfl rfl rfl (y_pickF S rfl rfl) ?_; clear S a; intro a S
      refine st_y S rfl rfl rfl (y_move S rfl) ?_; clear S a; intro a S
      refine st_no S rfl rfl rfl ?_; clear S a; intro a S
      refine st_no S rfl rfl rfl ?_; clear S a; intro a S
      refine st_no S rfl rfl rfl ?_; clear S a; intro a S
      refine st_no S rfl rfl rfl ?_; clear S a; intro a S
      refine st_no S rfl rfl rfl ?_; clear S a; intro a S
      refine st_no S rfl rfl rfl ?_; clear S a; intro a S
      refine st_no S rfl rfl rfl ?_; clear S a; intro a S
      refine st_no S rfl rfl rfl ?_; clear S a; intro a S
      refine st_no S rfl rfl rfl ?_; clear S a; intro a S
      refine st_y S rfl rfl rfl (y_pickF S rfl rfl) ?_; clear S a; intro a S
      refine st_y S rfl rfl rfl (y_move S rfl) ?_; clear S a; intro a S
      refine st_no S rfl rfl rfl ?_; clear S a; intro a S
      refine st_no S rfl rfl rfl ?_; clear S a; intro a S
      refine st_no S rfl rfl rfl ?_; clear S a; intro a S
      refine st_no S rfl rfl rfl ?_; clear S a; intro a S
      refine st_y S rfl rfl rfl (y_pickF S rfl rfl) ?_; clear S a; intro a S
      refine st_y S rfl rfl rfl (y_move S rfl) ?_; clear S a; intro a S
      refine st_no S rfl rfl rfl ?_; clear S a; intro a S
      refine st_y S rfl rfl rfl (y_pickF S rfl rfl) ?_; clear S a; intro a S
      refine st_y S rfl rfl rfl (y_assign S rfl) ?_; clear S a; intro a S
      refine wpList_nil ?_
      replace S := S.sub [(0, _), (1, _), (2, _), (3, _), (4, _), (5, _), (7, _), (8, _), (9, _), (10, _), (6, _)] rfl
      refine then_normal ?_
      refine wp_ret ?_
      refine end_one S rfl (res_tmp rfl) ?_
      refine ⟨ret_bool ?_, M.below⟩; clear S M; (first | rfl | (exfalso; simp_all; done) | (simp_all; done))
  · clear S; intro h24 S
    refine st_no S rfl rfl rfl ?_; clear S a; intro a S
    refine st_y S rfl rfl rfl (y_pickF S rfl rfl) ?_; clear S a; intro a S
    refine st_y S rfl rfl rfl (y_not S rfl) ?_; clear S a; intro a S
    refine st_y S rfl rfl rfl (y_move S rfl) ?_; clear S a; intro a S
    refine st_y S rfl rfl rfl (y_move S rfl) ?_; clear S a; intro a S
    refine st_y S rfl rfl rfl (y_move S rfl) ?_; clear S a; intro a S
    refine st_split (t := 30) S rfl ?_ ?_
    · clear S; intro h30 S
      refine st_no S rfl rfl rfl ?_; clear S a; intro a S
      refine st_y S rfl rfl rfl (y_pickT S rfl rfl) ?_; clear S a; intro a S
      refine st_y S rfl rfl rfl (y_move S rfl) ?_; clear S a; intro a S
      refine st_no S rfl rfl rfl ?_; clear S a; intro a S
      refine st_no S rfl rfl rfl ?_; clear S a; intro a S
      refine st_no S rfl rfl rfl ?_; clear S a; intro a S
      refine st_y S rfl rfl rfl (y_pickT S rfl rfl) ?_; clear S a; intro a S
      refine st_y S rfl rfl rfl (y_pickT S rfl rfl) ?_; clear S a; intro a S
      refine st_y S rfl rfl rfl (y_move S rfl) ?_; clear S a; intro a S
      refine st_y S rfl rfl rfl (y_move S rfl) ?_; clear S a; intro a S
      refine st_y S rfl rfl rfl (y_not S rfl) ?_; clear S a; intro a S
      refine st_y S rfl rfl rfl (y_move S rfl) ?_; clear S a; intro a S
      refine st_split (t := 42) S rfl ?_ ?_
      · clear S; intro h42 S
        refine st_no S rfl rfl rfl ?_; clear S a; intro a S
        refine st_no S rfl rfl rfl ?_; clear S a; intro a S
        refine st_y S rfl rfl rfl (y_pickT S rfl rfl) ?_; clear S a; intro a S
        refine st_y S rfl rfl rfl (y_move S rfl) ?_; clear S a; intro a S
        refine st_no S rfl rfl rfl ?_; clear S a; intro a S
        refine st_y S rfl rfl rfl (y_pickT S rfl rfl) ?_; clear S a; intro a S
        refine st_y S rfl rfl rfl (y_pickT S rfl rfl) ?_; clear S a; intro a S
        refine st_y S rfl rfl rfl (y_move S rfl) ?_; clear S a; intro a S
        refine st_y S rfl rfl rfl (y_loadAgg (cs := [_, _, _]) S (by kernel_rfl) rfl rfl (M.cellsAt (k := 3) 2 rfl rfl)) ?_; clear S a; intro a S
        refine st_y S rfl rfl rfl (y_loadAgg (cs := [_, _, _]) S (by kernel_rfl) rfl rfl (M.cellsAt (k := 3) 2 rfl rfl)) ?_; clear S a; intro a S
        refine st_call (xs := [(Operand.tmp 51), (Operand.tmp 52)]) S (enters_of Try.func16 (by decide) rfl) rfl rfl rfl (less_any x x _) ?_
        rintro _ w27 ⟨rfl, hK⟩; refine ⟨_, rfl, ?_⟩; clear S a; intro a S; replace M := M.grow hK
        rw [F4] at S
        refine st_y S rfl rfl rfl (y_not S rfl) ?_; clear S a; intro a S
        refine st_y S rfl rfl rfl (y_pickT S rfl rfl) ?_; clear S a; intro a S
        refine st_y S rfl rfl rfl (y_move S rfl) ?_; clear S a; intro a S
        refine st_split (t := 56) S rfl ?_ ?_
        · clear S; intro h56 S
          refine st_call (xs := []) S (enters_of Try.func8 (by decide) rfl) rfl rfl rfl (wakes_any _) ?_
          rintro _ w28 ⟨rfl, hK⟩; refine ⟨_, rfl, ?_⟩; clear S a; intro a S; replace M := M.grow hK
          refine st_y S rfl rfl rfl (y_pickT S rfl rfl) ?_; clear S a; intro a S
          refine st_y S rfl rfl rfl (y_assign S rfl) ?_; clear S a; intro a S
          refine wpList_nil ?_
          replace S := S.sub [(0, _), (1, _), (2, _), (3, _), (4, _), (5, _), (7, _), (8, _), (9, _), (10, _), (6, _)] rfl
          refine then_normal ?_
          refine wp_ret ?_
          refine end_one S rfl (res_tmp rfl) ?_
          refine ⟨ret_bool ?_, M.below⟩; clear S M; (first | rfl | (exfalso; simp_all; done) | (simp_all; done))
        · clear S; intro h56 S
          refine st_no S rfl rfl rfl ?_; clear S a; intro a S
          refine st_y S rfl rfl rfl (y_pickF S rfl rfl) ?_; clear S a; intro a S
          refine st_y S rfl rfl rfl (y_assign S rfl) ?_; clear S a; intro a S
          refine wpList_nil ?_
          replace S := S.sub [(0, _), (1, _), (2, _), (3, _), (4, _), (5, _), (7, _), (8, _), (9, _), (10, _), (6, _)] rfl
          refine then_normal ?_
          refine wp_ret ?_
          refine end_one S rfl (res_tmp rfl) ?_
          refine ⟨ret_bool ?_, M.below⟩; clear S M; (first | rfl | (exfalso; simp_all; done) | (simp_all; done))
      · clear S; intro h42 S
        refine st_y S rfl rfl rfl (y_move S rfl) ?_; clear S a; intro a S
        refine st_y S rfl rfl rfl (y_not S rfl) ?_; clear S a; intro a S
        refine st_y S rfl rfl rfl (y_pickF S rfl rfl) ?_; clear S a; intro a S
        refine st_y S rfl rfl rfl (y_move S rfl) ?_; clear S a; intro a S
        refine st_split (t := 46) S rfl ?_ ?_
        · clear S; intro h46 S
          refine st_no S rfl rfl rfl ?_; clear S a; intro a S
          refine st_y S rfl rfl rfl (y_pickT S rfl rfl) ?_; clear S a; intro a S
          refine st_y S rfl rfl rfl (y_pickT S rfl rfl) ?_; clear S a; intro a S
          refine st_y S rfl rfl rfl (y_move S rfl) ?_; clear S a; intro a S
          refine st_y S rfl rfl rfl (y_loadAgg (cs := [_, _, _]) S (by kernel_rfl) rfl rfl (M.cellsAt (k := 3) 2 rfl rfl)) ?_; clear S a; intro a S
          refine st_y S rfl rfl rfl (y_loadAgg (cs := [_, _, _]) S (by kernel_rfl) rfl rfl (M.cellsAt (k := 3) 2 rfl rfl)) ?_; clear S a; intro a S
          refine st_call (xs := [(Operand.tmp 51), (Operand.tmp 52)]) S (enters_of Try.func16 (by decide) rfl) rfl rfl rfl (less_any x x _) ?_
          rintro _ w29 ⟨rfl, hK⟩; refine ⟨_, rfl, ?_⟩; clear S a; intro a S; replace M := M.grow hK
          rw [F4] at S
          refine st_y S rfl rfl rfl (y_not S rfl) ?_; clear S a; intro a S
          refine st_y S rfl rfl rfl (y_pickT S rfl rfl) ?_; clear S a; intro a S
          refine st_y S rfl rfl rfl (y_move S rfl) ?_; clear S a; intro a S
          refine st_split (t := 56) S rfl ?_ ?_
          · clear S; intro h56 S
            refine st_call (xs := []) S (enters_of Try.func8 (by decide) rfl) rfl rfl rfl (wakes_any _) ?_
            rintro _ w30 ⟨rfl, hK⟩; refine ⟨_, rfl, ?_⟩; clear S a; intro a S; replace M := M.grow hK
            refine st_y S rfl rfl rfl (y_pickT S rfl rfl) ?_; clear S a; intro a S
            refine st_y S rfl rfl rfl (y_assign S rfl) ?_; clear S a; intro a S
            refine wpList_nil ?_
            replace S := S.sub [(0, _), (1, _), (2, _), (3, _), (4, _), (5, _), (7, _), (8, _), (9, _), (10, _), (6, _)] rfl
            refine then_normal ?_
            refine wp_ret ?_
            refine end_one S rfl (res_tmp rfl) ?_
            refine ⟨ret_bool ?_, M.below⟩; clear S M; (first | rfl | (exfalso; simp_all; done) | (simp_all; done))
          · clear S; intro h56 S
            refine st_no S rfl rfl rfl ?_; clear S a; intro a S
            refine st_y S rfl rfl rfl (y_pickF S rfl rfl) ?_; clear S a; intro a S
            refine st_y S rfl rfl rfl (y_assign S rfl) ?_; clear S a; intro a S
            refine wpList_nil ?_
            replace S := S.sub [(0, _), (1, _), (2, _), (3, _), (4, _), (5, _), (7, _), (8, _), (9, _), (10, _), (6, _)] rfl
            refine then_normal ?_
            refine wp_ret ?_
            refine end_one S rfl (res_tmp rfl) ?_
            refine ⟨ret_bool ?_, M.below⟩; clear S M; (first | rfl | (exfalso; simp_all; done) | (simp_all; done))
        · clear S; intro h46 S
          refine st_y S rfl rfl rfl (y_move S rfl) ?_; clear S a; intro a S
          refine st_y S rfl rfl rfl (y_pickF S rfl rfl) ?_; clear S a; intro a S
          refine st_y S rfl rfl rfl (y_pickT S rfl rfl) ?_; clear S a; intro a S
          refine st_y S rfl rfl rfl (y_move S rfl) ?_; clear S a; intro a S
          refine st_split (t := 50) S rfl ?_ ?_
          · clear S; intro h50 S
            refine st_y S rfl rfl rfl (y_loadAgg (cs := [_, _, _]) S (by kernel_rfl) rfl rfl (M.cellsAt (k := 3) 2 rfl rfl)) ?_; clear S a; intro a S
            refine st_y S rfl rfl rfl (y_loadAgg (cs := [_, _, _]) S (by kernel_rfl) rfl rfl (M.cellsAt (k := 3) 2 rfl rfl)) ?_; clear S a; intro a S
            refine st_call (xs := [(Operand.tmp 51), (Operand.tmp 52)]) S (enters_of Try.func16 (by decide) rfl) rfl rfl rfl (less_any x x _) ?_
            rintro _ w31 ⟨rfl, hK⟩; refine ⟨_, rfl, ?_⟩; clear S a; intro a S; replace M := M.grow hK
            rw [F4] at S
            refine st_y S rfl rfl rfl (y_not S rfl) ?_; clear S a; intro a S
            refine st_y S rfl rfl rfl (y_pickT S rfl rfl) ?_; clear S a; intro a S
            refine st_y S rfl rfl rfl (y_move S rfl) ?_; clear S a; intro a S
            refine st_split (t := 56) S rfl ?_ ?_
            · clear S; intro h56 S
              refine st_call (xs := []) S (enters_of Try.func8 (by decide) rfl) rfl rfl rfl (wakes_any _) ?_
              rintro _ w32 ⟨rfl, hK⟩; refine ⟨_, rfl, ?_⟩; clear S a; intro a S; replace M := M.grow hK
              refine st_y S rfl rfl rfl (y_pickT S rfl rfl) ?_; clear S a; intro a S
              refine st_y S rfl rfl rfl (y_assign S rfl) ?_; clear S a; intro a S
              refine wpList_nil ?_
              replace S := S.sub [(0, _), (1, _), (2, _), (3, _), (4, _), (5, _), (7, _), (8, _), (9, _), (10, _), (6, _)] rfl
              refine then_normal ?_
              refine wp_ret ?_
              refine end_one S rfl (res_tmp rfl) ?_
              refine ⟨ret_bool ?_, M.below⟩; clear S M; (first | rfl | (exfalso; simp_all; done) | (simp_all; done))
            · clear S; intro h56 S
              refine st_no S rfl rfl rfl ?_; clear S a; intro a S
              refine st_y S rfl rfl rfl (y_pickF S rfl rfl) ?_; clear S a; intro a S
              refine st_y S rfl rfl rfl (y_assign S rfl) ?_; clear S a; intro a S
              refine wpList_nil ?_
              replace S := S.sub [(0, _), (1, _), (2, _), (3, _), (4, _), (5, _), (7, _), (8, _), (9, _), (10, _), (6, _)] rfl
              refine then_normal ?_
              refine wp_ret ?_
              refine end_one S rfl (res_tmp rfl) ?_
              refine ⟨ret_bool ?_, M.below⟩; clear S M; (first | rfl | (exfalso; simp_all; done) | (simp_all; done))
          · clear S; intro h50 S
            refine st_no S rfl rfl rfl ?_; clear S a; intro a S
            refine st_no S rfl rfl rfl ?_; clear S a; intro a S
            refine st_no S rfl rfl rfl ?_; clear S a; intro a S
            refine st_no S rfl rfl rfl ?_; clear S a; intro a S
            refine st_y S rfl rfl rfl (y_pickF S rfl rfl) ?_; clear S a; intro a S
            refine st_y S rfl rfl rfl (y_move S rfl) ?_; clear S a; intro a S
            refine st_no S rfl rfl rfl ?_; clear S a; intro a S
            refine st_y S rfl rfl rfl (y_pickF S rfl rfl) ?_; clear S a; intro a S
            refine st_y S rfl rfl rfl (y_assign S rfl) ?_; clear S a; intro a S
            refine wpList_nil ?_
            replace S := S.sub [(0, _), (1, _), (2, _), (3, _), (4, _), (5, _), (7, _), (8, _), (9, _), (10, _), (6, _)] rfl
            refine then_normal ?_
            refine wp_ret ?_
            refine end_one S rfl (res_tmp rfl) ?_
            refine ⟨ret_bool ?_, M.below⟩; clear S M; (first | rfl | (exfalso; simp_all; done) | (simp_all; done))
    · clear S; intro h30 S
      refine st_y S rfl rfl rfl (y_move S rfl) ?_; clear S a; intro a S
      refine st_y S rfl rfl rfl (y_pickF S rfl rfl) ?_; clear S a; intro a S
      refine st_y S rfl rfl rfl (y_move S rfl) ?_; clear S a; intro a S
      refine st_split (t := 33) S rfl ?_ ?_
      · clear S; intro h33 S
        refine st_no S rfl rfl rfl ?_; clear S a; intro a S
        refine st_no S rfl rfl rfl ?_; clear S a; intro a S
        refine st_no S rfl rfl rfl ?_; clear S a; intro a S
        refine st_y S rfl rfl rfl (y_pickT S rfl rfl) ?_; clear S a; intro a S
        refine st_y S rfl rfl rfl (y_pickT S rfl rfl) ?_; clear S a; intro a S
        refine st_y S rfl rfl rfl (y_move S rfl) ?_; clear S a; intro a S
        refine st_y S rfl rfl rfl (y_move S rfl) ?_; clear S a; intro a S
        refine st_y S rfl rfl rfl (y_not S rfl) ?_; clear S a; intro a S
        refine st_y S rfl rfl rfl (y_move S rfl) ?_; clear S a; intro a S
        refine st_split (t := 42) S rfl ?_ ?_
        · clear S; intro h42 S
          refine st_no S rfl rfl rfl ?_; clear S a; intro a S
          refine st_no S rfl rfl rfl ?_; clear S a; intro a S
          refine st_y S rfl rfl rfl (y_pickT S rfl rfl) ?_; clear S a; intro a S
          refine st_y S rfl rfl rfl (y_move S rfl) ?_; clear S a; intro a S
          refine st_no S rfl rfl rfl ?_; clear S a; intro a S
          refine st_y S rfl rfl rfl (y_pickT S rfl rfl) ?_; clear S a; intro a S
          refine st_y S rfl rfl rfl (y_pickT S rfl rfl) ?_; clear S a; intro a S
          refine st_y S rfl rfl rfl (y_move S rfl) ?_; clear S a; intro a S
          refine st_y S rfl rfl rfl (y_loadAgg (cs := [_, _, _]) S (by kernel_rfl) rfl rfl (M.cellsAt (k := 3) 2 rfl rfl)) ?_; clear S a; intro a S
          refine st_y S rfl rfl rfl (y_loadAgg (cs := [_, _, _]) S (by kernel_rfl) rfl rfl (M.cellsAt (k := 3) 2 rfl rfl)) ?_; clear S a; intro a S
          refine st_call (xs := [(Operand.tmp 51), (Operand.tmp 52)]) S (enters_of Try.func16 (by decide) rfl) rfl rfl rfl (less_any x x _) ?_
          rintro _ w33 ⟨rfl, hK⟩; refine ⟨_, rfl, ?_⟩; clear S a; intro a S; replace M := M.grow hK
          rw [F4] at S
          refine st_y S rfl rfl rfl (y_not S rfl) ?_; clear S a; intro a S
          refine st_y S rfl rfl rfl (y_pickT S rfl rfl) ?_; clear S a; intro a S
          refine st_y S rfl rfl rfl (y_move S rfl) ?_; clear S a; intro a S
          refine st_split (t := 56) S rfl ?_ ?_
          · clear S; intro h56 S
            refine st_call (xs := []) S (enters_of Try.func8 (by decide) rfl) rfl rfl rfl (wakes_any _) ?_
            rintro _ w34 ⟨rfl, hK⟩; refine ⟨_, rfl, ?_⟩; clear S a; intro a S; replace M := M.grow hK
            refine st_y S rfl rfl rfl (y_pickT S rfl rfl) ?_; clear S a; intro a S
            refine st_y S rfl rfl rfl (y_assign S rfl) ?_; clear S a; intro a S
            refine wpList_nil ?_
            replace S := S.sub [(0, _), (1, _), (2, _), (3, _), (4, _), (5, _), (7, _), (8, _), (9, _), (10, _), (6, _)] rfl
            refine then_normal ?_
            refine wp_ret ?_
            refine end_one S rfl (res_tmp rfl) ?_
            refine ⟨ret_bool ?_, M.below⟩; clear S M; (first | rfl | (exfalso; simp_all; done) | (simp_all; done))
          · clear S; intro h56 S
            refine st_no S rfl rfl rfl ?_; clear S a; intro a S
            refine st_y S rfl rfl rfl (y_pickF S rfl rfl) ?_; clear S a; intro a S
            refine st_y S rfl rfl rfl (y_assign S rfl) ?_; clear S a; intro a S
            refine wpList_nil ?_
            replace S := S.sub [(0, _), (1, _), (2, _), (3, _), (4, _), (5, _), (7, _), (8, _), (9, _), (10, _), (6, _)] rfl
            refine then_normal ?_
            refine wp_ret ?_
            refine end_one S rfl (res_tmp rfl) ?_
            refine ⟨ret_bool ?_, M.below⟩; clear S M; (first | rfl | (exfalso; simp_all; done) | (simp_all; done))
        · clear S; intro h42 S
          refine st_y S rfl rfl rfl (y_move S rfl) ?_; clear S a; intro a S
          refine st_y S rfl rfl rfl (y_not S rfl) ?_; clear S a; intro a S
          refine st_y S rfl rfl rfl (y_pickF S rfl rfl) ?_; clear S a; intro a S
          refine st_y S rfl rfl rfl (y_move S rfl) ?_; clear S a; intro a S
          refine st_split (t := 46) S rfl ?_ ?_
          · clear S; intro h46 S
            refine st_no S rfl rfl rfl ?_; clear S a; intro a S
            refine st_y S rfl rfl rfl (y_pickT S rfl rfl) ?_; clear S a; intro a S
            refine st_y S rfl rfl rfl (y_pickT S rfl rfl) ?_; clear S a; intro a S
            refine st_y S rfl rfl rfl (y_move S rfl) ?_; clear S a; intro a S
            refine st_y S rfl rfl rfl (y_loadAgg (cs := [_, _, _]) S (by kernel_rfl) rfl rfl (M.cellsAt (k := 3) 2 rfl rfl)) ?_; clear S a; intro a S
            refine st_y S rfl rfl rfl (y_loadAgg (cs := [_, _, _]) S (by kernel_rfl) rfl rfl (M.cellsAt (k := 3) 2 rfl rfl)) ?_; clear S a; intro a S
            refine st_call (xs := [(Operand.tmp 51), (Operand.tmp 52)]) S (enters_of Try.func16 (by decide) rfl) rfl rfl rfl (less_any x x _) ?_
            rintro _ w35 ⟨rfl, hK⟩; refine ⟨_, rfl, ?_⟩; clear S a; intro a S; replace M := M.grow hK
            rw [F4] at S
            refine st_y S rfl rfl rfl (y_not S rfl) ?_; clear S a; intro a S
            refine st_y S rfl rfl rfl (y_pickT S rfl rfl) ?_; clear S a; intro a S
            refine st_y S rfl rfl rfl (y_move S rfl) ?_; clear S a; intro a S
            refine st_split (t := 56) S rfl ?_ ?_
            · clear S; intro h56 S
              refine st_call (xs := []) S (enters_of Try.func8 (by decide) rfl) rfl rfl rfl (wakes_any _) ?_
              rintro _ w36 ⟨rfl, hK⟩; refine ⟨_, rfl, ?_⟩; clear S a; intro a S; replace M := M.grow hK
              refine st_y S rfl rfl rfl (y_pickT S rfl rfl) ?_; clear S a; intro a S
              refine st_y S rfl rfl rfl (y_assign S rfl) ?_; clear S a; intro a S
              refine wpList_nil ?_
              replace S := S.sub [(0, _), (1, _), (2, _), (3, _), (4, _), (5, _), (7, _), (8, _), (9, _), (10, _), (6, _)] rfl
              refine then_normal ?_
              refine wp_ret ?_
              refine end_one S rfl (res_tmp rfl) ?_
              refine ⟨ret_bool ?_, M.below⟩; clear S M; (first | rfl | (exfalso; simp_all; done) | (simp_all; done))
            · clear S; intro h56 S
              refine st_no S rfl rfl rfl ?_; clear S a; intro a S
              refine st_y S rfl rfl rfl (y_pickF S rfl rfl) ?_; clear S a; intro a S
              refine st_y S rfl rfl rfl (y_assign S rfl) ?_; clear S a; intro a S
              refine wpList_nil ?_
              replace S := S.sub [(0, _), (1, _), (2, _), (3, _), (4, _), (5, _), (7, _), (8, _), (9, _), (10, _), (6, _)] rfl
              refine then_normal ?_
              refine wp_ret ?_
              refine end_one S rfl (res_tmp rfl) ?_
              refine ⟨ret_bool ?_, M.below⟩; clear S M; (first | rfl | (exfalso; simp_all; done) | (simp_all; done))
          · clear S; intro h46 S
            refine st_y S rfl rfl rfl (y_move S rfl) ?_; clear S a; intro a S
            refine st_y S rfl rfl rfl (y_pickF S rfl rfl) ?_; clear S a; intro a S
            refine st_y S rfl rfl rfl (y_pickT S rfl rfl) ?_; clear S a; intro a S
            refine st_y S rfl rfl rfl (y_move S rfl) ?_; clear S a; intro a S
            refine st_split (t := 50) S rfl ?_ ?_
            · clear S; intro h50 S
              refine st_y S rfl rfl rfl (y_loadAgg (cs := [_, _, _]) S (by kernel_rfl) rfl rfl (M.cellsAt (k := 3) 2 rfl rfl)) ?_; clear S a; intro a S
              refine st_y S rfl rfl rfl (y_loadAgg (cs := [_, _, _]) S (by kernel_rfl) rfl rfl (M.cellsAt (k := 3) 2 rfl rfl)) ?_; clear S a; intro a S
              refine st_call (xs := [(Operand.tmp 51), (Operand.tmp 52)]) S (enters_of Try.func16 (by decide) rfl) rfl rfl rfl (less_any x x _) ?_
              rintro _ w37 ⟨rfl, hK⟩; refine ⟨_, rfl, ?_⟩; clear S a; intro a S; replace M := M.grow hK
              rw [F4] at S
              refine st_y S rfl rfl rfl (y_not S rfl) ?_; clear S a; intro a S
              refine st_y S rfl rfl rfl (y_pickT S rfl rfl) ?_; clear S a; intro a S
              refine st_y S rfl rfl rfl (y_move S rfl) ?_; clear S a; intro a S
              refine st_split (t := 56) S rfl ?_ ?_
              · clear S; intro h56 S
                refine st_call (xs := []) S (enters_of Try.func8 (by decide) rfl) rfl rfl rfl (wakes_any _) ?_
                rintro _ w38 ⟨rfl, hK⟩; refine ⟨_, rfl, ?_⟩; clear S a; intro a S; replace M := M.grow hK
                refine st_y S rfl rfl rfl (y_pickT S rfl rfl) ?_; clear S a; intro a S
                refine st_y S rfl rfl rfl (y_assign S rfl) ?_; clear S a; intro a S
                refine wpList_nil ?_
                replace S := S.sub [(0, _), (1, _), (2, _), (3, _), (4, _), (5, _), (7, _), (8, _), (9, _), (10, _), (6, _)] rfl
                refine then_normal ?_
                refine wp_ret ?_
                refine end_one S rfl (res_tmp rfl) ?_
                refine ⟨ret_bool ?_, M.below⟩; clear S M; (first | rfl | (exfalso; simp_all; done) | (simp_all; done))
              · clear S; intro h56 S
                refine st_no S rfl rfl rfl ?_; clear S a; intro a S
                refine st_y S rfl rfl rfl (y_pickF S rfl rfl) ?_; clear S a; intro a S
                refine st_y S rfl rfl rfl (y_assign S rfl) ?_; clear S a; intro a S
                refine wpList_nil ?_
                replace S := S.sub [(0, _), (1, _), (2, _), (3, _), (4, _), (5, _), (7, _), (8, _), (9, _), (10, _), (6, _)] rfl
                refine then_normal ?_
                refine wp_ret ?_
                refine end_one S rfl (res_tmp rfl) ?_
                refine ⟨ret_bool ?_, M.below⟩; clear S M; (first | rfl | (exfalso; simp_all; done) | (simp_all; done))
            · clear S; intro h50 S
              refine st_no S rfl rfl rfl ?_; clear S a; intro a S
              refine st_no S rfl rfl rfl ?_; clear S a; intro a S
              refine st_no S rfl rfl rfl ?_; clear S a; intro a S
              refine st_no S rfl rfl rfl ?_; clear S a; intro a S
              refine st_y S rfl rfl rfl (y_pickF S rfl rfl) ?_; clear S a; intro a S
              refine st_y S rfl rfl rfl (y_move S rfl) ?_; clear S a; intro a S
              refine st_no S rfl rfl rfl ?_; clear S a; intro a S
              refine st_y S rfl rfl rfl (y_pickF S rfl rfl) ?_; clear S a; intro a S
              refine st_y S rfl rfl rfl (y_assign S rfl) ?_; clear S a; intro a S
              refine wpList_nil ?_
              replace S := S.sub [(0, _), (1, _), (2, _), (3, _), (4, _), (5, _), (7, _), (8, _), (9, _), (10, _), (6, _)] rfl
              refine then_normal ?_
              refine wp_ret ?_
              refine end_one S rfl (res_tmp rfl) ?_
              refine ⟨ret_bool ?_, M.below⟩; clear S M; (first | rfl | (exfalso; simp_all; done) | (simp_all; done))
      · clear S; intro h33 S
        refine st_y S rfl rfl rfl (y_loadAgg (cs := [_, _, _]) S (by kernel_rfl) rfl rfl (M.cellsAt (k := 3) 2 rfl rfl)) ?_; clear S a; intro a S
        refine st_y S rfl rfl rfl (y_loadAgg (cs := [_, _, _]) S (by kernel_rfl) rfl rfl (M.cellsAt (k := 3) 1 rfl rfl)) ?_; clear S a; intro a S
        refine st_y S rfl rfl rfl (y_eqlG (by kernel_rfl) S rfl rfl (fun w => equalNm 9998 x y w)) ?_; clear S a; intro a S
        refine st_y S rfl rfl rfl (y_pickF S rfl rfl) ?_; clear S a; intro a S
        refine st_y S rfl rfl rfl (y_pickT S rfl rfl) ?_; clear S a; intro a S
        refine st_y S rfl rfl rfl (y_move S rfl) ?_; clear S a; intro a S
        refine st_split (t := 39) S rfl ?_ ?_
        · clear S; intro h39 S
          refine st_y S rfl rfl rfl (y_move S rfl) ?_; clear S a; intro a S
          refine st_y S rfl rfl rfl (y_not S rfl) ?_; clear S a; intro a S
          refine st_y S rfl rfl rfl (y_move S rfl) ?_; clear S a; intro a S
          refine st_split (t := 42) S rfl ?_ ?_
          · clear S; intro h42 S
            refine st_no S rfl rfl rfl ?_; clear S a; intro a S
            refine st_no S rfl rfl rfl ?_; clear S a; intro a S
            refine st_y S rfl rfl rfl (y_pickT S rfl rfl) ?_; clear S a; intro a S
            refine st_y S rfl rfl rfl (y_move S rfl) ?_; clear S a; intro a S
            refine st_no S rfl rfl rfl ?_; clear S a; intro a S
            refine st_y S rfl rfl rfl (y_pickT S rfl rfl) ?_; clear S a; intro a S
            refine st_y S rfl rfl rfl (y_pickT S rfl rfl) ?_; clear S a; intro a S
            refine st_y S rfl rfl rfl (y_move S rfl) ?_; clear S a; intro a S
            refine st_y S rfl rfl rfl (y_loadAgg (cs := [_, _, _]) S (by kernel_rfl) rfl rfl (M.cellsAt (k := 3) 2 rfl rfl)) ?_; clear S a; intro a S
            refine st_y S rfl rfl rfl (y_loadAgg (cs := [_, _, _]) S (by kernel_rfl) rfl rfl (M.cellsAt (k := 3) 2 rfl rfl)) ?_; clear S a; intro a S
            refine st_call (xs := [(Operand.tmp 51), (Operand.tmp 52)]) S (enters_of Try.func16 (by decide) rfl) rfl rfl rfl (less_any x x _) ?_
            rintro _ w39 ⟨rfl, hK⟩; refine ⟨_, rfl, ?_⟩; clear S a; intro a S; replace M := M.grow hK
            rw [F4] at S
            refine st_y S rfl rfl rfl (y_not S rfl) ?_; clear S a; intro a S
            refine st_y S rfl rfl rfl (y_pickT S rfl rfl) ?_; clear S a; intro a S
            refine st_y S rfl rfl rfl (y_move S rfl) ?_; clear S a; intro a S
            refine st_split (t := 56) S rfl ?_ ?_
            · clear S; intro h56 S
              refine st_call (xs := []) S (enters_of Try.func8 (by decide) rfl) rfl rfl rfl (wakes_any _) ?_
              rintro _ w40 ⟨rfl, hK⟩; refine ⟨_, rfl, ?_⟩; clear S a; intro a S; replace M := M.grow hK
              refine st_y S rfl rfl rfl (y_pickT S rfl rfl) ?_; clear S a; intro a S
              refine st_y S rfl rfl rfl (y_assign S rfl) ?_; clear S a; intro a S
              refine wpList_nil ?_
              replace S := S.sub [(0, _), (1, _), (2, _), (3, _), (4, _), (5, _), (7, _), (8, _), (9, _), (10, _), (6, _)] rfl
              refine then_normal ?_
              refine wp_ret ?_
              refine end_one S rfl (res_tmp rfl) ?_
              refine ⟨ret_bool ?_, M.below⟩; clear S M; (first | rfl | (exfalso; simp_all; done) | (simp_all; done))
            · clear S; intro h56 S
              refine st_no S rfl rfl rfl ?_; clear S a; intro a S
              refine st_y S rfl rfl rfl (y_pickF S rfl rfl) ?_; clear S a; intro a S
              refine st_y S rfl rfl rfl (y_assign S rfl) ?_; clear S a; intro a S
              refine wpList_nil ?_
              replace S := S.sub [(0, _), (1, _), (2, _), (3, _), (4, _), (5, _), (7, _), (8, _), (9, _), (10, _), (6, _)] rfl
              refine then_normal ?_
              refine wp_ret ?_
              refine end_one S rfl (res_tmp rfl) ?_
              refine ⟨ret_bool ?_, M.below⟩; clear S M; (first | rfl | (exfalso; simp_all; done) | (simp_all; done))
          · clear S; intro h42 S
            refine st_y S rfl rfl rfl (y_move S rfl) ?_; clear S a; intro a S
            refine st_y S rfl rfl rfl (y_not S rfl) ?_; clear S a; intro a S
            refine st_y S rfl rfl rfl (y_pickF S rfl rfl) ?_; clear S a; intro a S
            refine st_y S rfl rfl rfl (y_move S rfl) ?_; clear S a; intro a S
            refine st_split (t := 46) S rfl ?_ ?_
            · clear S; intro h46 S
              refine st_no S rfl rfl rfl ?_; clear S a; intro a S
              refine st_y S rfl rfl rfl (y_pickT S rfl rfl) ?_; clear S a; intro a S
              refine st_y S rfl rfl rfl (y_pickT S rfl rfl) ?_; clear S a; intro a S
              refine st_y S rfl rfl rfl (y_move S rfl) ?_; clear S a; intro a S
              refine st_y S rfl rfl rfl (y_loadAgg (cs := [_, _, _]) S (by kernel_rfl) rfl rfl (M.cellsAt (k := 3) 2 rfl rfl)) ?_; clear S a; intro a S
              refine st_y S rfl rfl rfl (y_loadAgg (cs := [_, _, _]) S (by kernel_rfl) rfl rfl (M.cellsAt (k := 3) 2 rfl rfl)) ?_; clear S a; intro a S
              refine st_call (xs := [(Operand.tmp 51), (Operand.tmp 52)]) S (enters_of Try.func16 (by decide) rfl) rfl rfl rfl (less_any x x _) ?_
              rintro _ w41 ⟨rfl, hK⟩; refine ⟨_, rfl, ?_⟩; clear S a; intro a S; replace M := M.grow hK
              rw [F4] at S
              refine st_y S rfl rfl rfl (y_not S rfl) ?_; clear S a; intro a S
              refine st_y S rfl rfl rfl (y_pickT S rfl rfl) ?_; clear S a; intro a S
              refine st_y S rfl rfl rfl (y_move S rfl) ?_; clear S a; intro a S
              refine st_split (t := 56) S rfl ?_ ?_
              · clear S; intro h56 S
                refine st_call (xs := []) S (enters_of Try.func8 (by decide) rfl) rfl rfl rfl (wakes_any _) ?_
                rintro _ w42 ⟨rfl, hK⟩; refine ⟨_, rfl, ?_⟩; clear S a; intro a S; replace M := M.grow hK
                refine st_y S rfl rfl rfl (y_pickT S rfl rfl) ?_; clear S a; intro a S
                refine st_y S rfl rfl rfl (y_assign S rfl) ?_; clear S a; intro a S
                refine wpList_nil ?_
                replace S := S.sub [(0, _), (1, _), (2, _), (3, _), (4, _), (5, _), (7, _), (8, _), (9, _), (10, _), (6, _)] rfl
                refine then_normal ?_
                refine wp_ret ?_
                refine end_one S rfl (res_tmp rfl) ?_
                refine ⟨ret_bool ?_, M.below⟩; clear S M; (first | rfl | (exfalso; simp_all; done) | (simp_all; done))
              · clear S; intro h56 S
                refine st_no S rfl rfl rfl ?_; clear S a; intro a S
                refine st_y S rfl rfl rfl (y_pickF S rfl rfl) ?_; clear S a; intro a S
                refine st_y S rfl rfl rfl (y_assign S rfl) ?_; clear S a; intro a S
                refine wpList_nil ?_
                replace S := S.sub [(0, _), (1, _), (2, _), (3, _), (4, _), (5, _), (7, _), (8, _), (9, _), (10, _), (6, _)] rfl
                refine then_normal ?_
                refine wp_ret ?_
                refine end_one S rfl (res_tmp rfl) ?_
                refine ⟨ret_bool ?_, M.below⟩; clear S M; (first | rfl | (exfalso; simp_all; done) | (simp_all; done))
            · clear S; intro h46 S
              refine st_y S rfl rfl rfl (y_move S rfl) ?_; clear S a; intro a S
              refine st_y S rfl rfl rfl (y_pickF S rfl rfl) ?_; clear S a; intro a S
              refine st_y S rfl rfl rfl (y_pickT S rfl rfl) ?_; clear S a; intro a S
              refine st_y S rfl rfl rfl (y_move S rfl) ?_; clear S a; intro a S
              refine st_split (t := 50) S rfl ?_ ?_
              · clear S; intro h50 S
                refine st_y S rfl rfl rfl (y_loadAgg (cs := [_, _, _]) S (by kernel_rfl) rfl rfl (M.cellsAt (k := 3) 2 rfl rfl)) ?_; clear S a; intro a S
                refine st_y S rfl rfl rfl (y_loadAgg (cs := [_, _, _]) S (by kernel_rfl) rfl rfl (M.cellsAt (k := 3) 2 rfl rfl)) ?_; clear S a; intro a S
                refine st_call (xs := [(Operand.tmp 51), (Operand.tmp 52)]) S (enters_of Try.func16 (by decide) rfl) rfl rfl rfl (less_any x x _) ?_
                rintro _ w43 ⟨rfl, hK⟩; refine ⟨_, rfl, ?_⟩; clear S a; intro a S; replace M := M.grow hK
                rw [F4] at S
                refine st_y S rfl rfl rfl (y_not S rfl) ?_; clear S a; intro a S
                refine st_y S rfl rfl rfl (y_pickT S rfl rfl) ?_; clear S a; intro a S
                refine st_y S rfl rfl rfl (y_move S rfl) ?_; clear S a; intro a S
                refine st_split (t := 56) S rfl ?_ ?_
                · clear S; intro h56 S
                  refine st_call (xs := []) S (enters_of Try.func8 (by decide) rfl) rfl rfl rfl (wakes_any _) ?_
                  rintro _ w44 ⟨rfl, hK⟩; refine ⟨_, rfl, ?_⟩; clear S a; intro a S; replace M := M.grow hK
                  refine st_y S rfl rfl rfl (y_pickT S rfl rfl) ?_; clear S a; intro a S
                  refine st_y S rfl rfl rfl (y_assign S rfl) ?_; clear S a; intro a S
                  refine wpList_nil ?_
                  replace S := S.sub [(0, _), (1, _), (2, _), (3, _), (4, _), (5, _), (7, _), (8, _), (9, _), (10, _), (6, _)] rfl
                  refine then_normal ?_
                  refine wp_ret ?_
                  refine end_one S rfl (res_tmp rfl) ?_
                  refine ⟨ret_bool ?_, M.below⟩; clear S M; (first | rfl | (exfalso; simp_all; done) | (simp_all; done))
                · clear S; intro h56 S
                  refine st_no S rfl rfl rfl ?_; clear S a; intro a S
                  refine st_y S rfl rfl rfl (y_pickF S rfl rfl) ?_; clear S a; intro a S
                  refine st_y S rfl rfl rfl (y_assign S rfl) ?_; clear S a; intro a S
                  refine wpList_nil ?_
                  replace S := S.sub [(0, _), (1, _), (2, _), (3, _), (4, _), (5, _), (7, _), (8, _), (9, _), (10, _), (6, _)] rfl
                  refine then_normal ?_
                  refine wp_ret ?_
                  refine end_one S rfl (res_tmp rfl) ?_
                  refine ⟨ret_bool ?_, M.below⟩; clear S M; (first | rfl | (exfalso; simp_all; done) | (simp_all; done))
              · clear S; intro h50 S
                refine st_no S rfl rfl rfl ?_; clear S a; intro a S
                refine st_no S rfl rfl rfl ?_; clear S a; intro a S
                refine st_no S rfl rfl rfl ?_; clear S a; intro a S
                refine st_no S rfl rfl rfl ?_; clear S a; intro a S
                refine st_y S rfl rfl rfl (y_pickF S rfl rfl) ?_; clear S a; intro a S
                refine st_y S rfl rfl rfl (y_move S rfl) ?_; clear S a; intro a S
                refine st_no S rfl rfl rfl ?_; clear S a; intro a S
                refine st_y S rfl rfl rfl (y_pickF S rfl rfl) ?_; clear S a; intro a S
                refine st_y S rfl rfl rfl (y_assign S rfl) ?_; clear S a; intro a S
                refine wpList_nil ?_
                replace S := S.sub [(0, _), (1, _), (2, _), (3, _), (4, _), (5, _), (7, _), (8, _), (9, _), (10, _), (6, _)] rfl
                refine then_normal ?_
                refine wp_ret ?_
                refine end_one S rfl (res_tmp rfl) ?_
                refine ⟨ret_bool ?_, M.below⟩; clear S M; (first | rfl | (exfalso; simp_all; done) | (simp_all; done))
        · clear S; intro h39 S
          refine st_no S rfl rfl rfl ?_; clear S a; intro a S
          refine st_no S rfl rfl rfl ?_; clear S a; intro a S
          refine st_no S rfl rfl rfl ?_; clear S a; intro a S
          refine st_no S rfl rfl rfl ?_; clear S a; intro a S
          refine st_no S rfl rfl rfl ?_; clear S a; intro a S
          refine st_no S rfl rfl rfl ?_; clear S a; intro a S
          refine st_no S rfl rfl rfl ?_; clear S a; intro a S
          refine st_no S rfl rfl rfl ?_; clear S a; intro a S
          refine st_no S rfl rfl rfl ?_; clear S a; intro a S
          refine st_y S rfl rfl rfl (y_pickF S rfl rfl) ?_; clear S a; intro a S
          refine st_y S rfl rfl rfl (y_move S rfl) ?_; clear S a; intro a S
          refine st_no S rfl rfl rfl ?_; clear S a; intro a S
          refine st_no S rfl rfl rfl ?_; clear S a; intro a S
          refine st_no S rfl rfl rfl ?_; clear S a; intro a S
          refine st_no S rfl rfl rfl ?_; clear S a; intro a S
          refine st_y S rfl rfl rfl (y_pickF S rfl rfl) ?_; clear S a; intro a S
          refine st_y S rfl rfl rfl (y_move S rfl) ?_; clear S a; intro a S
          refine st_no S rfl rfl rfl ?_; clear S a; intro a S
          refine st_y S rfl rfl rfl (y_pickF S rfl rfl) ?_; clear S a; intro a S
          refine st_y S rfl rfl rfl (y_assign S rfl) ?_; clear S a; intro a S
          refine wpList_nil ?_
          replace S := S.sub [(0, _), (1, _), (2, _), (3, _), (4, _), (5, _), (7, _), (8, _), (9, _), (10, _), (6, _)] rfl
          refine then_normal ?_
          refine wp_ret ?_
          refine end_one S rfl (res_tmp rfl) ?_
          refine ⟨ret_bool ?_, M.below⟩; clear S M; (first | rfl | (exfalso; simp_all; done) | (simp_all; done))

theorem back_any (r : Rc) (va : Option Addr) (vn vc : Nat) (x : List Wr) (bv : Value) (bs : List UInt8) (w : World) (hs : r.shards ≤ 9223372036854775807) (hu : Ws 0 w.heap.size w (.slice va vn vc) x) (hb : Bs 0 w.heap.size w bv bs) :
    Calls Try.prog 5 #[.agg (r.cells (.slice va vn vc)), bv] w fun e w' => e = .returned (.bool true) ∧ Below w.heap.size w w' := by
  have M := Mem.start w
  have hvn : vn = x.length := by obtain ⟨ad, cp, e, -, -⟩ := hu.form; cases e; rfl
  refine calls_enter Try.func5 rfl 113 rfl rfl ?_; intro a S
  refine wp_seq ?_
  -- region 0 law.go:41
  refine wp_region_lit ?_
  refine st_box S M rfl rfl rfl #[_, _, _, _, _, _, _, _, _, _, _, _] rfl ?_; clear S M a; intro a w1 b1 S M hB
  refine st_y S rfl rfl rfl (y_assign S rfl) ?_; clear S a; intro a S
  refine wpList_nil ?_
  replace S := S.sub [(0, _), (1, _), (2, _), (4, _)] rfl
  refine then_normal ?_
  refine wp_seq ?_
  refine wp_seq ?_
  -- region 1 law.go:42
  refine wp_region_lit ?_
  refine st_y S rfl rfl rfl (y_loadAgg (cs := [_, _, _, _, _, _, _, _, _, _, _, _]) S (by kernel_rfl) rfl rfl (M.cellsAt (k := 12) 0 rfl rfl)) ?_; clear S a; intro a S
  refine st_call (xs := [(Operand.tmp 15)]) S (enters_of Try.func12 (by decide) rfl) rfl rfl rfl (great_any _ _ _ _ _) ?_
  rintro _ w2 ⟨rfl, hK⟩; refine ⟨_, rfl, ?_⟩; clear S a; intro a S; replace M := M.grow hK
  refine st_y S rfl rfl rfl (y_move S rfl) ?_; clear S a; intro a S
  refine st_split (t := 17) S rfl ?_ ?_
  · clear S; intro h17 S
    first | replace h17 := nrmA h17 | replace h17 := nrmB h17 | skip
    first | replace h17 := nrm1 h17 | replace h17 := nrm2 h17 | replace h17 := nrm3 h17 | replace h17 := nrm4 h17 | replace h17 := nrm5 h17 | replace h17 := nrm6 h17 | replace h17 := of_decide_eq_true h17 | replace h17 := of_decide_eq_false h17 | skip
    refine st_no S rfl rfl rfl ?_; clear S a; intro a S
    refine st_no S rfl rfl rfl ?_; clear S a; intro a S
    refine st_no S rfl rfl rfl ?_; clear S a; intro a S
    refine st_y S rfl rfl rfl (y_pickT S rfl rfl) ?_; clear S a; intro a S
    refine wpList_nil ?_
    replace S := S.sub [(0, _), (1, _), (2, _), (4, _), (21, _)] rfl
    refine then_normal ?_
    refine st_condT S rfl ?_
    refine wp_seq ?_
    -- region 2 law.go:43
    refine wp_region_lit ?_
    refine st_call (xs := []) S (enters_of Try.func8 (by decide) rfl) rfl rfl rfl (wakes_any _) ?_
    rintro _ w3 ⟨rfl, hK⟩; refine ⟨_, rfl, ?_⟩; clear S a; intro a S; replace M := M.grow hK
    refine st_y S rfl rfl rfl (y_assign S rfl) ?_; clear S a; intro a S
    refine wpList_nil ?_
    replace S := S.sub [(0, _), (1, _), (2, _), (21, _), (4, _)] rfl
    refine then_normal ?_
    refine wp_ret ?_
    refine then_ret ?_
    refine end_one S rfl (res_tmp rfl) ?_
    exact ⟨rfl, M.below⟩
  · clear S; intro h17 S
    first | replace h17 := nrmA h17 | replace h17 := nrmB h17 | skip
    first | replace h17 := nrm1 h17 | replace h17 := nrm2 h17 | replace h17 := nrm3 h17 | replace h17 := nrm4 h17 | replace h17 := nrm5 h17 | replace h17 := nrm6 h17 | replace h17 := of_decide_eq_true h17 | replace h17 := of_decide_eq_false h17 | skip
    refine st_y S rfl rfl rfl (y_move S rfl) ?_; clear S a; intro a S
    refine st_y S rfl rfl rfl (y_lenR (E := 5) S rfl (M.arg hb) (by kernel_rfl)) ?_; clear S a; intro a S
    refine st_y S rfl rfl rfl (y_int S rfl rfl rfl) ?_; clear S a; intro a S
    refine st_y S rfl rfl rfl (y_pickF S rfl rfl) ?_; clear S a; intro a S
    refine wpList_nil ?_
    replace S := S.sub [(0, _), (1, _), (2, _), (4, _), (21, _)] rfl
    refine then_normal ?_
    refine st_split (t := 21) S rfl ?_ ?_
    · clear S; intro h21 S
      first | replace h21 := nrmA h21 | replace h21 := nrmB h21 | skip
      first | replace h21 := nrm1 h21 | replace h21 := nrm2 h21 | replace h21 := nrm3 h21 | replace h21 := nrm4 h21 | replace h21 := nrm5 h21 | replace h21 := nrm6 h21 | replace h21 := of_decide_eq_true h21 | replace h21 := of_decide_eq_false h21 | skip
      refine st_condT S rfl ?_
      refine wp_seq ?_
      -- region 2 law.go:43
      refine wp_region_lit ?_
      refine st_call (xs := []) S (enters_of Try.func8 (by decide) rfl) rfl rfl rfl (wakes_any _) ?_
      rintro _ w4 ⟨rfl, hK⟩; refine ⟨_, rfl, ?_⟩; clear S a; intro a S; replace M := M.grow hK
      refine st_y S rfl rfl rfl (y_assign S rfl) ?_; clear S a; intro a S
      refine wpList_nil ?_
      replace S := S.sub [(0, _), (1, _), (2, _), (21, _), (4, _)] rfl
      refine then_normal ?_
      refine wp_ret ?_
      refine then_ret ?_
      refine end_one S rfl (res_tmp rfl) ?_
      exact ⟨rfl, M.below⟩
    · clear S; intro h21 S
      first | replace h21 := nrmA h21 | replace h21 := nrmB h21 | skip
      first | replace h21 := nrm1 h21 | replace h21 := nrm2 h21 | replace h21 := nrm3 h21 | replace h21 := nrm4 h21 | replace h21 := nrm5 h21 | replace h21 := nrm6 h21 | replace h21 := of_decide_eq_true h21 | replace h21 := of_decide_eq_false h21 | skip
      refine st_condF S rfl ?_
      refine wp_skip ?_
      refine then_normal ?_
      refine wp_seq ?_
      -- region 3 law.go:45
      refine wp_region_lit ?_
      refine st_y S rfl rfl rfl (y_loadAgg (cs := [_, _, _, _, _, _, _, _, _, _, _, _]) S (by kernel_rfl) rfl rfl (M.cellsAt (k := 12) 0 rfl rfl)) ?_; clear S a; intro a S
      refine st_call (xs := [(Operand.tmp 24)]) S (enters_of Try.func13 (by decide) rfl) rfl rfl rfl (bytes_any r va vn vc x _ hs (M.argW hu)) ?_
      rintro _ w5 ⟨v7, rfl, hK, h1, h2⟩; refine ⟨_, rfl, ?_⟩; clear S a; intro a S
      have hF := fresh_if hK h1 (fun h => h2 (by simpa using h))
      obtain ⟨lo2, hi2, -, M⟩ := M.pushFresh hF
      refine st_y S rfl rfl rfl (y_move S rfl) ?_; clear S a; intro a S
      refine st_y S rfl rfl rfl (y_extract S rfl rfl) ?_; clear S a; intro a S
      refine st_y S rfl rfl rfl (y_extract S rfl rfl) ?_; clear S a; intro a S
      refine st_y S rfl rfl rfl (y_assign S rfl) ?_; clear S a; intro a S
      refine st_y S rfl rfl rfl (y_assign S rfl) ?_; clear S a; intro a S
      refine wpList_nil ?_
      replace S := S.sub [(0, _), (1, _), (2, _), (4, _), (21, _), (5, _), (6, _)] rfl
      refine then_normal ?_
      refine wp_seq ?_
      refine wp_seq ?_
      -- region 4 law.go:46
      refine wp_region_lit ?_
      refine st_y S rfl rfl rfl (y_move S rfl) ?_; clear S a; intro a S
      refine st_y S rfl rfl rfl (y_int S rfl rfl rfl) ?_; clear S a; intro a S
      refine wpList_nil ?_
      replace S := S.sub [(0, _), (1, _), (2, _), (4, _), (21, _), (5, _), (6, _), (29, _)] rfl
      refine then_normal ?_
      refine st_split (t := 29) S rfl ?_ ?_
      · clear S; intro h29 S
        refine st_condT S rfl ?_
        refine wp_seq ?_
        -- region 5 law.go:47
        have hm : r.may x = true := by
          by_cases hm : r.may x = true
          · exact hm
          · rw [if_neg hm] at h29; simp at h29
        have hl := enc_len hm
        have hlm : (r.enc x).length ≤ maxLen := by unfold maxLen; omega
        rw [ifL_pos hm] at M
        refine wp_region_lit ?_
        refine st_y S rfl rfl rfl (y_move S rfl) ?_; clear S a; intro a S
        refine st_call (xs := [(Operand.tmp 31)]) S (enters_of Try.func9 (by decide) rfl) rfl rfl rfl (read_any _ (r.enc x) _ (M.readAll 0 rfl hlm)) ?_
        rintro _ w6 hR
        obtain ⟨r1, x1, ad1, cp1, c1, rfl, hF1, -, -, hc⟩ := hR.form
        refine ⟨_, rfl, ?_⟩; clear S a; intro a S
        have hcr : c1 = 0 ∧ r1 = r ∧ x1 = x := by
          rcases hc with ⟨h, hm', he⟩ | ⟨-, -, -, hno⟩
          · have := enc_inj hm' hm (rest := []) (by rw [he, List.append_nil])
            exact ⟨h, this.1, this.2.1⟩
          · exact absurd rfl (hno r x hm)
        obtain ⟨rfl, rfl, rfl⟩ := hcr
        obtain ⟨lo3, hi3, -, M⟩ := M.pushFresh hF1
        refine st_y S rfl rfl rfl (y_move S rfl) ?_; clear S a; intro a S
        refine st_y S rfl rfl rfl (y_extract S rfl rfl) ?_; clear S a; intro a S
        refine st_y S rfl rfl rfl (y_extract S rfl rfl) ?_; clear S a; intro a S
        refine st_alloc S M rfl rfl #[.int .i8 0, .int .i64 0, .int .i64 0, .int .i64 0, .bool false, .slice none 0 0, .int .i64 0, .int .i64 0, .int .i64 0, .int .i64 0, .int .i64 0, .int .i64 0] (by kernel_rfl) ?_; clear S M a; intro a w7 b2 S M hB
        refine st_store (sz := 12) (us := [_, _, _, _, _, _, _, _, _, _, _, _]) S M 0 rfl (by kernel_rfl) rfl rfl rfl rfl rfl rfl (by first | decide | (simp; done) | (simp; omega)) ?_; clear M; intro w8 M
        simp only [putL, List.set_cons_zero, List.set_cons_succ, Nat.reduceAdd] at M
        refine st_y S rfl rfl rfl (y_assign S rfl) ?_; clear S a; intro a S
        refine wpList_nil ?_
        replace S := S.sub [(0, _), (1, _), (2, _), (4, _), (21, _), (5, _), (6, _), (29, _), (7, _), (8, _)] rfl
        refine then_normal ?_
        refine wp_seq ?_
        -- region 6 law.go:48
        refine wp_region_lit ?_
        refine st_y S rfl rfl rfl (y_loadAgg (cs := [_, _, _, _, _, _, _, _, _, _, _, _]) S (by kernel_rfl) rfl rfl (M.cellsAt (k := 12) 3 rfl rfl)) ?_; clear S a; intro a S
        refine st_call (xs := [(Operand.tmp 36)]) S (enters_of Try.func15 (by decide) rfl) rfl rfl rfl (sectors_any r1 va vn vc x1 _ hs (M.argW hu)) ?_
        rintro _ w9 ⟨rfl, hK⟩; refine ⟨_, rfl, ?_⟩; clear S a; intro a S; replace M := M.grow hK
        rw [if_pos hm] at S
        have hsec : secsN r1 x1 = (((r1.enc x1).length : Int) + 45 - 1) / 45 := by unfold secsN; rw [if_pos hm]
        generalize secsN r1 x1 = sn at S hsec
        refine st_y S rfl rfl rfl (y_move S rfl) ?_; clear S a; intro a S
        refine st_y S rfl rfl rfl (y_extract S rfl rfl) ?_; clear S a; intro a S
        refine st_y S rfl rfl rfl (y_extract S rfl rfl) ?_; clear S a; intro a S
        refine st_y S rfl rfl rfl (y_assign S rfl) ?_; clear S a; intro a S
        refine st_y S rfl rfl rfl (y_assign S rfl) ?_; clear S a; intro a S
        refine wpList_nil ?_
        replace S := S.sub [(0, _), (1, _), (2, _), (4, _), (21, _), (5, _), (6, _), (29, _), (7, _), (8, _), (9, _), (10, _)] rfl
        refine then_normal ?_
        refine wp_seq ?_
        refine wp_seq ?_
        -- region 7 law.go:49
        refine wp_region_lit ?_
        refine st_y S rfl rfl rfl (y_move S rfl) ?_; clear S a; intro a S
        refine st_y S rfl rfl rfl (y_int S rfl rfl rfl) ?_; clear S a; intro a S
        refine st_y S rfl rfl rfl (y_move S rfl) ?_; clear S a; intro a S
        refine st_split (t := 42) S rfl ?_ ?_
        · clear S; intro h42 S
          simp at h42
        · clear S; intro h42 S
          refine st_y S rfl rfl rfl (y_loadAgg (cs := [_, _, _, _, _, _, _, _, _, _, _, _]) S (by kernel_rfl) rfl rfl (M.cellsAt (k := 12) 0 rfl rfl)) ?_; clear S a; intro a S
          refine st_y S rfl rfl rfl (y_loadAgg (cs := [_, _, _, _, _, _, _, _, _, _, _, _]) S (by kernel_rfl) rfl rfl (M.cellsAt (k := 12) 3 rfl rfl)) ?_; clear S a; intro a S
          refine st_call (xs := [(Operand.tmp 43), (Operand.tmp 44)]) S (enters_of Try.func11 (by decide) rfl) rfl rfl rfl (same_any r1 r1 _ _ x1 x1 _ (M.readAll 1 rfl (by have := hF1.row; unfold maxLen; omega)) (M.argW hu)) ?_
          rintro _ w10 ⟨rfl, hK⟩; refine ⟨_, rfl, ?_⟩; clear S a; intro a S; replace M := M.grow hK
          refine st_y S rfl rfl rfl (y_not S rfl) ?_; clear S a; intro a S
          refine st_y S rfl rfl rfl (y_pickF S rfl rfl) ?_; clear S a; intro a S
          refine st_y S rfl rfl rfl (y_move S rfl) ?_; clear S a; intro a S
          refine st_split (t := 48) S rfl ?_ ?_
          · clear S; intro h48 S
            rw [Rc.same_iff.2 ⟨rfl, rfl⟩] at h48; simp at h48
          · clear S; intro h48 S
            refine st_y S rfl rfl rfl (y_loadAgg (cs := [_, _, _, _, _, _, _, _, _, _, _, _]) S (by kernel_rfl) rfl rfl (M.cellsAt (k := 12) 0 rfl rfl)) ?_; clear S a; intro a S
            refine st_call (xs := [(Operand.tmp 49)]) S (enters_of Try.func14 (by decide) rfl) rfl rfl rfl (may_any r1 ad1 x1.length cp1 x1 _ hs (M.readAll 1 rfl (by unfold maxLen; omega))) ?_
            rintro _ w11 ⟨rfl, hK⟩; refine ⟨_, rfl, ?_⟩; clear S a; intro a S; replace M := M.grow hK
            refine st_y S rfl rfl rfl (y_not S rfl) ?_; clear S a; intro a S
            refine st_y S rfl rfl rfl (y_pickF S rfl rfl) ?_; clear S a; intro a S
            refine st_y S rfl rfl rfl (y_move S rfl) ?_; clear S a; intro a S
            refine st_split (t := 53) S rfl ?_ ?_
            · clear S; intro h53 S
              rw [hm] at h53; simp at h53
            · clear S; intro h53 S
              refine st_y S rfl rfl rfl (y_move S rfl) ?_; clear S a; intro a S
              refine st_y S rfl rfl rfl (y_int S rfl rfl rfl) ?_; clear S a; intro a S
              refine st_y S rfl rfl rfl (y_pickF S rfl rfl) ?_; clear S a; intro a S
              refine st_y S rfl rfl rfl (y_move S rfl) ?_; clear S a; intro a S
              refine st_split (t := 57) S rfl ?_ ?_
              · clear S; intro h57 S
                first | replace h57 := nrmA h57 | replace h57 := nrmB h57 | skip
                first | replace h57 := nrm1 h57 | replace h57 := nrm2 h57 | replace h57 := nrm3 h57 | replace h57 := nrm4 h57 | replace h57 := nrm5 h57 | replace h57 := nrm6 h57 | replace h57 := of_decide_eq_true h57 | replace h57 := of_decide_eq_false h57 | skip
                simp at h57
              · clear S; intro h57 S
                first | replace h57 := nrmA h57 | replace h57 := nrmB h57 | skip
                first | replace h57 := nrm1 h57 | replace h57 := nrm2 h57 | replace h57 := nrm3 h57 | replace h57 := nrm4 h57 | replace h57 := nrm5 h57 | replace h57 := nrm6 h57 | replace h57 := of_decide_eq_true h57 | replace h57 := of_decide_eq_false h57 | skip
                refine st_y S rfl rfl rfl (y_move S rfl) ?_; clear S a; intro a S
                refine st_y S rfl rfl rfl (y_int S rfl rfl rfl) ?_; clear S a; intro a S
                refine st_y S rfl rfl rfl (y_pickF S rfl rfl) ?_; clear S a; intro a S
                refine st_y S rfl rfl rfl (y_move S rfl) ?_; clear S a; intro a S
                refine st_split (t := 61) S rfl ?_ ?_
                · clear S; intro h61 S
                  first | replace h61 := nrmA h61 | replace h61 := nrmB h61 | skip
                  first | replace h61 := nrm1 h61 | replace h61 := nrm2 h61 | replace h61 := nrm3 h61 | replace h61 := nrm4 h61 | replace h61 := nrm5 h61 | replace h61 := nrm6 h61 | replace h61 := of_decide_eq_true h61 | replace h61 := of_decide_eq_false h61 | skip
                  omega
                · clear S; intro h61 S
                  first | replace h61 := nrmA h61 | replace h61 := nrmB h61 | skip
                  first | replace h61 := nrm1 h61 | replace h61 := nrm2 h61 | replace h61 := nrm3 h61 | replace h61 := nrm4 h61 | replace h61 := nrm5 h61 | replace h61 := nrm6 h61 | replace h61 := of_decide_eq_true h61 | replace h61 := of_decide_eq_false h61 | skip
                  refine st_y S rfl rfl rfl (y_move S rfl) ?_; clear S a; intro a S
                  refine st_y S rfl rfl rfl (y_int S rfl rfl rfl) ?_; clear S a; intro a S
                  refine st_y S rfl rfl rfl (y_pickF S rfl rfl) ?_; clear S a; intro a S
                  refine st_y S rfl rfl rfl (y_move S rfl) ?_; clear S a; intro a S
                  refine st_split (t := 65) S rfl ?_ ?_
                  · clear S; intro h65 S
                    first | replace h65 := nrmA h65 | replace h65 := nrmB h65 | skip
                    first | replace h65 := nrm1 h65 | replace h65 := nrm2 h65 | replace h65 := nrm3 h65 | replace h65 := nrm4 h65 | replace h65 := nrm5 h65 | replace h65 := nrm6 h65 | replace h65 := of_decide_eq_true h65 | replace h65 := of_decide_eq_false h65 | skip
                    omega
                  · clear S; intro h65 S
                    first | replace h65 := nrmA h65 | replace h65 := nrmB h65 | skip
                    first | replace h65 := nrm1 h65 | replace h65 := nrm2 h65 | replace h65 := nrm3 h65 | replace h65 := nrm4 h65 | replace h65 := nrm5 h65 | replace h65 := nrm6 h65 | replace h65 := of_decide_eq_true h65 | replace h65 := of_decide_eq_false h65 | skip
                    refine st_y S rfl rfl rfl (y_move S rfl) ?_; clear S a; intro a S
                    refine st_y S rfl rfl rfl (y_lenR (E := 5) S rfl ((M.readAll 2 rfl hlm)) (by kernel_rfl)) ?_; clear S a; intro a S
                    refine st_y S rfl rfl rfl (y_move S rfl) ?_; clear S a; intro a S
                    (first | refine st_y S rfl rfl rfl (y_mulN S rfl rfl (by omega)) ?_ | refine st_y S rfl rfl rfl (y_int S rfl rfl rfl) ?_); clear S a; intro a S
                    refine st_y S rfl rfl rfl (y_int S rfl rfl rfl) ?_; clear S a; intro a S
                    refine st_y S rfl rfl rfl (y_pickF S rfl rfl) ?_; clear S a; intro a S
                    refine st_y S rfl rfl rfl (y_move S rfl) ?_; clear S a; intro a S
                    refine st_split (t := 72) S rfl ?_ ?_
                    · clear S; intro h72 S
                      first | replace h72 := nrmA h72 | replace h72 := nrmB h72 | skip
                      first | replace h72 := nrm1 h72 | replace h72 := nrm2 h72 | replace h72 := nrm3 h72 | replace h72 := nrm4 h72 | replace h72 := nrm5 h72 | replace h72 := nrm6 h72 | replace h72 := of_decide_eq_true h72 | replace h72 := of_decide_eq_false h72 | skip
                      omega
                    · clear S; intro h72 S
                      first | replace h72 := nrmA h72 | replace h72 := nrmB h72 | skip
                      first | replace h72 := nrm1 h72 | replace h72 := nrm2 h72 | replace h72 := nrm3 h72 | replace h72 := nrm4 h72 | replace h72 := nrm5 h72 | replace h72 := nrm6 h72 | replace h72 := of_decide_eq_true h72 | replace h72 := of_decide_eq_false h72 | skip
                      refine st_y S rfl rfl rfl (y_move S rfl) ?_; clear S a; intro a S
                      refine st_y S rfl rfl rfl (y_lenR (E := 5) S rfl ((M.readAll 2 rfl hlm)) (by kernel_rfl)) ?_; clear S a; intro a S
                      refine st_y S rfl rfl rfl (y_move S rfl) ?_; clear S a; intro a S
                      (first | refine st_y S rfl rfl rfl (y_subN S rfl rfl (by omega)) ?_ | refine st_y S rfl rfl rfl (y_int S rfl rfl rfl) ?_); clear S a; intro a S
                      (first | refine st_y S rfl rfl rfl (y_mulN S rfl rfl (by omega)) ?_ | refine st_y S rfl rfl rfl (y_int S rfl rfl rfl) ?_); clear S a; intro a S
                      refine st_y S rfl rfl rfl (y_int S rfl rfl rfl) ?_; clear S a; intro a S
                      refine st_y S rfl rfl rfl (y_pickF S rfl rfl) ?_; clear S a; intro a S
                      refine wpList_nil ?_
                      replace S := S.sub [(0, _), (1, _), (2, _), (4, _), (21, _), (5, _), (6, _), (29, _), (7, _), (8, _), (9, _), (10, _), (79, _)] rfl
                      refine then_normal ?_
                      refine st_split (t := 79) S rfl ?_ ?_
                      · clear S; intro h79 S
                        first | replace h79 := nrmA h79 | replace h79 := nrmB h79 | skip
                        first | replace h79 := nrm1 h79 | replace h79 := nrm2 h79 | replace h79 := nrm3 h79 | replace h79 := nrm4 h79 | replace h79 := nrm5 h79 | replace h79 := nrm6 h79 | replace h79 := of_decide_eq_true h79 | replace h79 := of_decide_eq_false h79 | skip
                        omega
                      · clear S; intro h79 S
                        first | replace h79 := nrmA h79 | replace h79 := nrmB h79 | skip
                        first | replace h79 := nrm1 h79 | replace h79 := nrm2 h79 | replace h79 := nrm3 h79 | replace h79 := nrm4 h79 | replace h79 := nrm5 h79 | replace h79 := nrm6 h79 | replace h79 := of_decide_eq_true h79 | replace h79 := of_decide_eq_false h79 | skip
                        refine st_condF S rfl ?_
                        refine wp_skip ?_
                        refine then_normal ?_
                        refine wp_seq ?_
                        -- region 9 law.go:52
                        refine wp_region_lit ?_
                        refine st_y S rfl rfl rfl (y_move S rfl) ?_; clear S a; intro a S
                        refine st_y S rfl rfl rfl (y_move S rfl) ?_; clear S a; intro a S
                        refine st_y S rfl rfl rfl (y_lenR (E := 5) S rfl ((M.readAll 2 rfl hlm)) (by kernel_rfl)) ?_; clear S a; intro a S
                        (first | refine st_y S rfl rfl rfl (y_subN S rfl rfl (by omega)) ?_ | refine st_y S rfl rfl rfl (y_int S rfl rfl rfl) ?_); clear S a; intro a S
                        refine st_y S rfl rfl rfl (y_slice02R (e := 5) (sz := 1) S (by kernel_rfl) rfl ((M.readAll 2 rfl hlm)) rfl (by first | omega | (simp; done) | (simp; omega))) ?_; clear S a; intro a S
                        refine st_call (xs := [(Operand.tmp 85)]) S (enters_of Try.func9 (by decide) rfl) rfl rfl rfl (read_any _ ((r1.enc x1).take ((r1.enc x1).length - 1)) _ (by have := (M.readAll 2 rfl hlm).cut0 (n := (r1.enc x1).length - 1) (by omega); rw [show (((r1.enc x1).length : Int) - 1).toNat = (r1.enc x1).length - 1 by omega]; exact this)) ?_
                        rintro _ w12 hR
                        obtain ⟨r2, x2, ad2, cp2, c2, rfl, hF2, -, -, hc⟩ := hR.form
                        refine ⟨_, rfl, ?_⟩; clear S a; intro a S
                        have hc40 : c2 = 40 := by
                          rcases hc with ⟨-, hm', he⟩ | ⟨h, -⟩
                          · exact absurd he (enc_pre hm hm' (by omega))
                          · exact h
                        subst hc40
                        replace M := M.grow hF2.below
                        refine st_y S rfl rfl rfl (y_move S rfl) ?_; clear S a; intro a S
                        refine st_y S rfl rfl rfl (y_extract S rfl rfl) ?_; clear S a; intro a S
                        refine st_y S rfl rfl rfl (y_extract S rfl rfl) ?_; clear S a; intro a S
                        refine st_y S rfl rfl rfl (y_assign S rfl) ?_; clear S a; intro a S
                        refine wpList_nil ?_
                        replace S := S.sub [(0, _), (1, _), (2, _), (4, _), (21, _), (5, _), (6, _), (29, _), (7, _), (9, _), (10, _), (79, _), (8, _)] rfl
                        refine then_normal ?_
                        refine wp_seq ?_
                        -- region 10 law.go:53
                        refine wp_region_lit ?_
                        refine st_y S rfl rfl rfl (y_move S rfl) ?_; clear S a; intro a S
                        refine st_y S rfl rfl rfl (y_int S rfl rfl rfl) ?_; clear S a; intro a S
                        refine wpList_nil ?_
                        replace S := S.sub [(0, _), (1, _), (2, _), (4, _), (21, _), (5, _), (6, _), (29, _), (7, _), (9, _), (10, _), (79, _), (8, _), (90, _)] rfl
                        refine then_normal ?_
                        refine st_split (t := 90) S rfl ?_ ?_
                        · clear S; intro h90 S
                          first | replace h90 := nrmA h90 | replace h90 := nrmB h90 | skip
                          first | replace h90 := nrm1 h90 | replace h90 := nrm2 h90 | replace h90 := nrm3 h90 | replace h90 := nrm4 h90 | replace h90 := nrm5 h90 | replace h90 := nrm6 h90 | replace h90 := of_decide_eq_true h90 | replace h90 := of_decide_eq_false h90 | skip
                          simp at h90
                        · clear S; intro h90 S
                          first | replace h90 := nrmA h90 | replace h90 := nrmB h90 | skip
                          first | replace h90 := nrm1 h90 | replace h90 := nrm2 h90 | replace h90 := nrm3 h90 | replace h90 := nrm4 h90 | replace h90 := nrm5 h90 | replace h90 := nrm6 h90 | replace h90 := of_decide_eq_true h90 | replace h90 := of_decide_eq_false h90 | skip
                          refine st_condF S rfl ?_
                          refine wp_skip ?_
                          refine then_normal ?_
                          refine wp_seq ?_
                          -- region 12 law.go:57
                          refine wp_region_lit ?_
                          refine st_y S rfl rfl rfl (y_move S rfl) ?_; clear S a; intro a S
                          refine st_call (xs := [(Operand.tmp 92)]) S (enters_of Try.func9 (by decide) rfl) rfl rfl rfl (read_any _ bs _ (M.argW hb)) ?_
                          rintro _ w13 hR
                          obtain ⟨r3, x3, ad3, cp3, c3, rfl, hF3, hx38, hs3, hc3⟩ := hR.form
                          refine ⟨_, rfl, ?_⟩; clear S a; intro a S
                          obtain ⟨lo4, hi4, -, M⟩ := M.pushFresh hF3
                          refine st_y S rfl rfl rfl (y_move S rfl) ?_; clear S a; intro a S
                          refine st_y S rfl rfl rfl (y_extract S rfl rfl) ?_; clear S a; intro a S
                          refine st_y S rfl rfl rfl (y_extract S rfl rfl) ?_; clear S a; intro a S
                          refine st_alloc S M rfl rfl #[.int .i8 0, .int .i64 0, .int .i64 0, .int .i64 0, .bool false, .slice none 0 0, .int .i64 0, .int .i64 0, .int .i64 0, .int .i64 0, .int .i64 0, .int .i64 0] (by kernel_rfl) ?_; clear S M a; intro a w14 b3 S M hB
                          refine st_store (sz := 12) (us := [_, _, _, _, _, _, _, _, _, _, _, _]) S M 0 rfl (by kernel_rfl) rfl rfl rfl rfl rfl rfl (by first | decide | (simp; done) | (simp; omega)) ?_; clear M; intro w15 M
                          simp only [putL, List.set_cons_zero, List.set_cons_succ, Nat.reduceAdd] at M
                          refine st_y S rfl rfl rfl (y_assign S rfl) ?_; clear S a; intro a S
                          refine wpList_nil ?_
                          replace S := S.sub [(0, _), (1, _), (2, _), (4, _), (21, _), (5, _), (6, _), (29, _), (7, _), (9, _), (10, _), (79, _), (8, _), (90, _), (11, _), (12, _)] rfl
                          refine then_normal ?_
                          refine wp_seq ?_
                          refine wp_seq ?_
                          -- region 13 law.go:58
                          refine wp_region_lit ?_
                          refine st_y S rfl rfl rfl (y_move S rfl) ?_; clear S a; intro a S
                          refine st_y S rfl rfl rfl (y_int S rfl rfl rfl) ?_; clear S a; intro a S
                          refine wpList_nil ?_
                          replace S := S.sub [(0, _), (1, _), (2, _), (4, _), (21, _), (5, _), (6, _), (29, _), (7, _), (9, _), (10, _), (79, _), (8, _), (90, _), (11, _), (12, _), (97, _)] rfl
                          refine then_normal ?_
                          refine st_split (t := 97) S rfl ?_ ?_
                          · clear S; intro h97 S
                            refine st_condT S rfl ?_
                            refine wp_seq ?_
                            -- region 14 law.go:59
                            have hm3 : r3.may x3 = true ∧ r3.enc x3 = bs := by
                              rcases hc3 with ⟨-, h1, h2⟩ | ⟨h, -⟩
                              · exact ⟨h1, h2⟩
                              · rw [h] at h97; simp at h97
                            refine wp_region_lit ?_
                            refine st_y S rfl rfl rfl (y_loadAgg (cs := [_, _, _, _, _, _, _, _, _, _, _, _]) S (by kernel_rfl) rfl rfl (M.cellsAt (k := 12) 0 rfl rfl)) ?_; clear S a; intro a S
                            refine st_call (xs := [(Operand.tmp 99)]) S (enters_of Try.func13 (by decide) rfl) rfl rfl rfl (bytes_any r3 ad3 x3.length cp3 x3 _ (by omega) (M.readAll 1 rfl (by unfold maxLen; omega))) ?_
                            rintro _ w16 ⟨v9, rfl, hK, h1, -⟩; refine ⟨_, rfl, ?_⟩; clear S a; intro a S
                            have hF9 := h1 hm3.1
                            rw [if_pos hm3.1] at S
                            rw [hm3.2] at hF9
                            obtain ⟨lo5, hi5, -, M⟩ := M.pushFresh hF9
                            refine st_y S rfl rfl rfl (y_move S rfl) ?_; clear S a; intro a S
                            refine st_y S rfl rfl rfl (y_extract S rfl rfl) ?_; clear S a; intro a S
                            refine st_y S rfl rfl rfl (y_extract S rfl rfl) ?_; clear S a; intro a S
                            refine st_y S rfl rfl rfl (y_assign S rfl) ?_; clear S a; intro a S
                            refine st_y S rfl rfl rfl (y_assign S rfl) ?_; clear S a; intro a S
                            refine wpList_nil ?_
                            replace S := S.sub [(0, _), (1, _), (2, _), (4, _), (21, _), (5, _), (6, _), (29, _), (7, _), (9, _), (10, _), (79, _), (8, _), (90, _), (11, _), (12, _), (97, _), (13, _), (14, _)] rfl
                            refine then_normal ?_
                            refine wp_seq ?_
                            -- region 15 law.go:60
                            refine wp_region_lit ?_
                            refine st_y S rfl rfl rfl (y_move S rfl) ?_; clear S a; intro a S
                            refine st_y S rfl rfl rfl (y_int S rfl rfl rfl) ?_; clear S a; intro a S
                            refine st_y S rfl rfl rfl (y_move S rfl) ?_; clear S a; intro a S
                            refine st_split (t := 105) S rfl ?_ ?_
                            · clear S; intro h105 S
                              simp at h105
                            · clear S; intro h105 S
                              refine st_y S rfl rfl rfl (y_move S rfl) ?_; clear S a; intro a S
                              refine st_y S rfl rfl rfl (y_bytesStr (e := 5) S rfl (by kernel_rfl) (by kernel_rfl) (by kernel_rfl) (M.readAll 0 rfl hb.2.1)) ?_; clear S a; intro a S
                              refine st_y S rfl rfl rfl (y_move S rfl) ?_; clear S a; intro a S
                              refine st_y S rfl rfl rfl (y_bytesStr (e := 5) S rfl (by kernel_rfl) (by kernel_rfl) (by kernel_rfl) (M.arg hb)) ?_; clear S a; intro a S
                              refine st_y S rfl rfl rfl (y_neqStr S rfl rfl) ?_; clear S a; intro a S
                              refine st_y S rfl rfl rfl (y_pickF S rfl rfl) ?_; clear S a; intro a S
                              refine wpList_nil ?_
                              replace S := S.sub [(0, _), (1, _), (2, _), (4, _), (21, _), (5, _), (6, _), (29, _), (7, _), (9, _), (10, _), (79, _), (8, _), (90, _), (11, _), (12, _), (97, _), (13, _), (14, _), (111, _)] rfl
                              refine then_normal ?_
                              refine st_split (t := 111) S rfl ?_ ?_
                              · clear S; intro h111 S
                                rw [strEq] at h111; simp at h111
                              · clear S; intro h111 S
                                refine st_condF S rfl ?_
                                refine wp_skip ?_
                                refine then_normal ?_
                                refine wp_seq ?_
                                -- region 17 law.go:64
                                refine wp_region_lit ?_
                                refine st_call (xs := []) S (enters_of Try.func8 (by decide) rfl) rfl rfl rfl (wakes_any _) ?_
                                rintro _ w17 ⟨rfl, hK⟩; refine ⟨_, rfl, ?_⟩; clear S a; intro a S; replace M := M.grow hK
                                refine st_y S rfl rfl rfl (y_assign S rfl) ?_; clear S a; intro a S
                                refine wpList_nil ?_
                                replace S := S.sub [(0, _), (1, _), (2, _), (21, _), (5, _), (6, _), (29, _), (7, _), (9, _), (10, _), (79, _), (8, _), (90, _), (11, _), (12, _), (97, _), (13, _), (14, _), (111, _), (4, _)] rfl
                                refine then_normal ?_
                                refine wp_ret ?_
                                refine end_one S rfl (res_tmp rfl) ?_
                                exact ⟨rfl, M.below⟩
                          · clear S; intro h97 S
                            refine st_condF S rfl ?_
                            refine wp_skip ?_
                            refine then_normal ?_
                            refine wp_seq ?_
                            -- region 17 law.go:64
                            refine wp_region_lit ?_
                            refine st_call (xs := []) S (enters_of Try.func8 (by decide) rfl) rfl rfl rfl (wakes_any _) ?_
                            rintro _ w18 ⟨rfl, hK⟩; refine ⟨_, rfl, ?_⟩; clear S a; intro a S; replace M := M.grow hK
                            refine st_y S rfl rfl rfl (y_assign S rfl) ?_; clear S a; intro a S
                            refine wpList_nil ?_
                            replace S := S.sub [(0, _), (1, _), (2, _), (21, _), (5, _), (6, _), (29, _), (7, _), (9, _), (10, _), (79, _), (8, _), (90, _), (11, _), (12, _), (97, _), (4, _)] rfl
                            refine then_normal ?_
                            refine wp_ret ?_
                            refine end_one S rfl (res_tmp rfl) ?_
                            exact ⟨rfl, M.below⟩
      · clear S; intro h29 S
        refine st_condF S rfl ?_
        refine wp_skip ?_
        refine then_normal ?_
        refine wp_seq ?_
        -- region 12 law.go:57
        refine wp_region_lit ?_
        refine st_y S rfl rfl rfl (y_move S rfl) ?_; clear S a; intro a S
        refine st_call (xs := [(Operand.tmp 92)]) S (enters_of Try.func9 (by decide) rfl) rfl rfl rfl (read_any _ bs _ (M.argW hb)) ?_
        rintro _ w19 hR
        obtain ⟨r3, x3, ad3, cp3, c3, rfl, hF3, hx38, hs3, hc3⟩ := hR.form
        refine ⟨_, rfl, ?_⟩; clear S a; intro a S
        obtain ⟨lo4, hi4, -, M⟩ := M.pushFresh hF3
        refine st_y S rfl rfl rfl (y_move S rfl) ?_; clear S a; intro a S
        refine st_y S rfl rfl rfl (y_extract S rfl rfl) ?_; clear S a; intro a S
        refine st_y S rfl rfl rfl (y_extract S rfl rfl) ?_; clear S a; intro a S
        refine st_alloc S M rfl rfl #[.int .i8 0, .int .i64 0, .int .i64 0, .int .i64 0, .bool false, .slice none 0 0, .int .i64 0, .int .i64 0, .int .i64 0, .int .i64 0, .int .i64 0, .int .i64 0] (by kernel_rfl) ?_; clear S M a; intro a w20 b4 S M hB
        refine st_store (sz := 12) (us := [_, _, _, _, _, _, _, _, _, _, _, _]) S M 0 rfl (by kernel_rfl) rfl rfl rfl rfl rfl rfl (by first | decide | (simp; done) | (simp; omega)) ?_; clear M; intro w21 M
        simp only [putL, List.set_cons_zero, List.set_cons_succ, Nat.reduceAdd] at M
        refine st_y S rfl rfl rfl (y_assign S rfl) ?_; clear S a; intro a S
        refine wpList_nil ?_
        replace S := S.sub [(0, _), (1, _), (2, _), (4, _), (21, _), (5, _), (6, _), (29, _), (11, _), (12, _)] rfl
        refine then_normal ?_
        refine wp_seq ?_
        refine wp_seq ?_
        -- region 13 law.go:58
        refine wp_region_lit ?_
        refine st_y S rfl rfl rfl (y_move S rfl) ?_; clear S a; intro a S
        refine st_y S rfl rfl rfl (y_int S rfl rfl rfl) ?_; clear S a; intro a S
        refine wpList_nil ?_
        replace S := S.sub [(0, _), (1, _), (2, _), (4, _), (21, _), (5, _), (6, _), (29, _), (11, _), (12, _), (97, _)] rfl
        refine then_normal ?_
        refine st_split (t := 97) S rfl ?_ ?_
        · clear S; intro h97 S
          refine st_condT S rfl ?_
          refine wp_seq ?_
          -- region 14 law.go:59
          have hm3 : r3.may x3 = true ∧ r3.enc x3 = bs := by
            rcases hc3 with ⟨-, h1, h2⟩ | ⟨h, -⟩
            · exact ⟨h1, h2⟩
            · rw [h] at h97; simp at h97
          refine wp_region_lit ?_
          refine st_y S rfl rfl rfl (y_loadAgg (cs := [_, _, _, _, _, _, _, _, _, _, _, _]) S (by kernel_rfl) rfl rfl (M.cellsAt (k := 12) 0 rfl rfl)) ?_; clear S a; intro a S
          refine st_call (xs := [(Operand.tmp 99)]) S (enters_of Try.func13 (by decide) rfl) rfl rfl rfl (bytes_any r3 ad3 x3.length cp3 x3 _ (by omega) (M.readAll 1 rfl (by unfold maxLen; omega))) ?_
          rintro _ w22 ⟨v9, rfl, hK, h1, -⟩; refine ⟨_, rfl, ?_⟩; clear S a; intro a S
          have hF9 := h1 hm3.1
          rw [if_pos hm3.1] at S
          rw [hm3.2] at hF9
          obtain ⟨lo5, hi5, -, M⟩ := M.pushFresh hF9
          refine st_y S rfl rfl rfl (y_move S rfl) ?_; clear S a; intro a S
          refine st_y S rfl rfl rfl (y_extract S rfl rfl) ?_; clear S a; intro a S
          refine st_y S rfl rfl rfl (y_extract S rfl rfl) ?_; clear S a; intro a S
          refine st_y S rfl rfl rfl (y_assign S rfl) ?_; clear S a; intro a S
          refine st_y S rfl rfl rfl (y_assign S rfl) ?_; clear S a; intro a S
          refine wpList_nil ?_
          replace S := S.sub [(0, _), (1, _), (2, _), (4, _), (21, _), (5, _), (6, _), (29, _), (11, _), (12, _), (97, _), (13, _), (14, _)] rfl
          refine then_normal ?_
          refine wp_seq ?_
          -- region 15 law.go:60
          refine wp_region_lit ?_
          refine st_y S rfl rfl rfl (y_move S rfl) ?_; clear S a; intro a S
          refine st_y S rfl rfl rfl (y_int S rfl rfl rfl) ?_; clear S a; intro a S
          refine st_y S rfl rfl rfl (y_move S rfl) ?_; clear S a; intro a S
          refine st_split (t := 105) S rfl ?_ ?_
          · clear S; intro h105 S
            simp at h105
          · clear S; intro h105 S
            refine st_y S rfl rfl rfl (y_move S rfl) ?_; clear S a; intro a S
            refine st_y S rfl rfl rfl (y_bytesStr (e := 5) S rfl (by kernel_rfl) (by kernel_rfl) (by kernel_rfl) (M.readAll 0 rfl hb.2.1)) ?_; clear S a; intro a S
            refine st_y S rfl rfl rfl (y_move S rfl) ?_; clear S a; intro a S
            refine st_y S rfl rfl rfl (y_bytesStr (e := 5) S rfl (by kernel_rfl) (by kernel_rfl) (by kernel_rfl) (M.arg hb)) ?_; clear S a; intro a S
            refine st_y S rfl rfl rfl (y_neqStr S rfl rfl) ?_; clear S a; intro a S
            refine st_y S rfl rfl rfl (y_pickF S rfl rfl) ?_; clear S a; intro a S
            refine wpList_nil ?_
            replace S := S.sub [(0, _), (1, _), (2, _), (4, _), (21, _), (5, _), (6, _), (29, _), (11, _), (12, _), (97, _), (13, _), (14, _), (111, _)] rfl
            refine then_normal ?_
            refine st_split (t := 111) S rfl ?_ ?_
            · clear S; intro h111 S
              rw [strEq] at h111; simp at h111
            · clear S; intro h111 S
              refine st_condF S rfl ?_
              refine wp_skip ?_
              refine then_normal ?_
              refine wp_seq ?_
              -- region 17 law.go:64
              refine wp_region_lit ?_
              refine st_call (xs := []) S (enters_of Try.func8 (by decide) rfl) rfl rfl rfl (wakes_any _) ?_
              rintro _ w23 ⟨rfl, hK⟩; refine ⟨_, rfl, ?_⟩; clear S a; intro a S; replace M := M.grow hK
              refine st_y S rfl rfl rfl (y_assign S rfl) ?_; clear S a; intro a S
              refine wpList_nil ?_
              replace S := S.sub [(0, _), (1, _), (2, _), (21, _), (5, _), (6, _), (29, _), (11, _), (12, _), (97, _), (13, _), (14, _), (111, _), (4, _)] rfl
              refine then_normal ?_
              refine wp_ret ?_
              refine end_one S rfl (res_tmp rfl) ?_
              exact ⟨rfl, M.below⟩
        · clear S; intro h97 S
          refine st_condF S rfl ?_
          refine wp_skip ?_
          refine then_normal ?_
          refine wp_seq ?_
          -- region 17 law.go:64
          refine wp_region_lit ?_
          refine st_call (xs := []) S (enters_of Try.func8 (by decide) rfl) rfl rfl rfl (wakes_any _) ?_
          rintro _ w24 ⟨rfl, hK⟩; refine ⟨_, rfl, ?_⟩; clear S a; intro a S; replace M := M.grow hK
          refine st_y S rfl rfl rfl (y_assign S rfl) ?_; clear S a; intro a S
          refine wpList_nil ?_
          replace S := S.sub [(0, _), (1, _), (2, _), (21, _), (5, _), (6, _), (29, _), (11, _), (12, _), (97, _), (4, _)] rfl
          refine then_normal ?_
          refine wp_ret ?_
          refine end_one S rfl (res_tmp rfl) ?_
          exact ⟨rfl, M.below⟩

end Go.Proofs.Ytbaoodlkcbiclaa
