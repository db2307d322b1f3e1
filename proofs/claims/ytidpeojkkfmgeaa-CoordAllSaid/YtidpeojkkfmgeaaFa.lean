/-
  The document's layer 15: fields, Same.
-/
import Derived.Test.YtidpeojkkfmgeaaWc
import Derived.Test.YtidpeojkkfmgeaaSn
namespace Go.Proofs.Ytidpeojkkfmgeaa
open Go.RowKit Go.Sort

theorem fSame_any (p q : Msg) (va vb : Value) (x y : List Wr) (w : World) (hx : Ws 0 w.heap.size w va x) (hy : Ws 0 w.heap.size w vb y) :
    Calls Try.prog 27 #[.agg (p.cells va), .agg (q.cells vb)] w fun e w' => e = .returned (.bool (p.same q x y)) ∧ Below w.heap.size w w' := by
  obtain ⟨aa, ca, rfl, -, -⟩ := hx.form
  obtain ⟨ab, cb, rfl, -, -⟩ := hy.form
  have M := Mem.start w
  generalize hr : p.same q x y = R
  refine calls_enter Try.func27 rfl 108 rfl rfl ?_; intro a S
  refine nxD ?_
  refine st_box S M rfl rfl rfl #[_, _, _, _, _, _, _, _, _, _, _, _, _, _, _, _, _, _, _, _, _, _, _, _] rfl ?_; clear S M a; intro a w1 b1 S M hB
  refine st_box S M rfl rfl rfl #[_, _, _, _, _, _, _, _, _, _, _, _, _, _, _, _, _, _, _, _, _, _, _, _] rfl ?_; clear S M a; intro a w2 b2 S M hB
  refine st_go [1] S rfl (by kernel_rfl) ?_; clear S a; intro a S
  refine nxA ?_
  refine st_run [1, 2, 1, 1, 1, 1] S M rfl (by kernel_rfl) ?_; clear S a; intro a S
  refine st_tils (t := 10) S rfl ?_ ?_
  · clear S; intro h10 S
    refine st_go [0, 0, 0, 0, 0, 1, 1, 0, 0, 0, 0, 0, 1, 1, 0, 0, 0, 0, 0, 1, 1, 0, 0, 0, 0, 0, 1, 1, 0, 0, 0, 0, 0, 1, 1, 0, 0, 0, 0, 0, 1, 1, 0, 0, 0, 0, 0, 1, 1, 0, 0, 0, 0, 0, 1, 1, 0, 0, 0, 0, 0, 1, 1, 0, 0, 0, 0, 0, 1, 1, 0, 0, 0, 0, 0, 1, 1, 0, 0, 0, 0, 0, 1, 1, 0, 0, 0, 0, 0, 1, 1, 0, 0, 0, 0, 0, 1, 1] S rfl (by kernel_rfl) ?_; clear S a; intro a S
    replace S := S.sub [(0, _), (1, _), (2, _), (3, _), (4, _)] rfl
    refine nxC ?_
    refine wp_ret ?_
    refine end_one S rfl (res_tmp rfl) ?_
    refine ⟨ret_bool ?_, M.below⟩; rw [← hr]; clear S M; simp [Msg.same, *]
  clear S; intro h10 S
  refine st_run [2, 2, 2, 1, 1, 1, 1] S M rfl (by kernel_rfl) ?_; clear S a; intro a S
  refine st_tils (t := 17) S rfl ?_ ?_
  · clear S; intro h17 S
    refine st_go [0, 0, 0, 0, 0, 1, 1, 0, 0, 0, 0, 0, 1, 1, 0, 0, 0, 0, 0, 1, 1, 0, 0, 0, 0, 0, 1, 1, 0, 0, 0, 0, 0, 1, 1, 0, 0, 0, 0, 0, 1, 1, 0, 0, 0, 0, 0, 1, 1, 0, 0, 0, 0, 0, 1, 1, 0, 0, 0, 0, 0, 1, 1, 0, 0, 0, 0, 0, 1, 1, 0, 0, 0, 0, 0, 1, 1, 0, 0, 0, 0, 0, 1, 1, 0, 0, 0, 0, 0, 1, 1] S rfl (by kernel_rfl) ?_; clear S a; intro a S
    replace S := S.sub [(0, _), (1, _), (2, _), (3, _), (4, _)] rfl
    refine nxC ?_
    refine wp_ret ?_
    refine end_one S rfl (res_tmp rfl) ?_
    refine ⟨ret_bool ?_, M.below⟩; rw [← hr]; clear S M; simp [Msg.same, *]
  clear S; intro h17 S
  refine st_run [3, 2, 3, 1, 1, 1, 1] S M rfl (by kernel_rfl) ?_; clear S a; intro a S
  refine st_tils (t := 24) S rfl ?_ ?_
  · clear S; intro h24 S
    refine st_go [0, 0, 0, 0, 0, 1, 1, 0, 0, 0, 0, 0, 1, 1, 0, 0, 0, 0, 0, 1, 1, 0, 0, 0, 0, 0, 1, 1, 0, 0, 0, 0, 0, 1, 1, 0, 0, 0, 0, 0, 1, 1, 0, 0, 0, 0, 0, 1, 1, 0, 0, 0, 0, 0, 1, 1, 0, 0, 0, 0, 0, 1, 1, 0, 0, 0, 0, 0, 1, 1, 0, 0, 0, 0, 0, 1, 1, 0, 0, 0, 0, 0, 1, 1] S rfl (by kernel_rfl) ?_; clear S a; intro a S
    replace S := S.sub [(0, _), (1, _), (2, _), (3, _), (4, _)] rfl
    refine nxC ?_
    refine wp_ret ?_
    refine end_one S rfl (res_tmp rfl) ?_
    refine ⟨ret_bool ?_, M.below⟩; rw [← hr]; clear S M; simp [Msg.same, *]
  clear S; intro h24 S
  refine st_run [4, 2, 4, 1, 1, 1, 1] S M rfl (by kernel_rfl) ?_; clear S a; intro a S
  refine st_tils (t := 31) S rfl ?_ ?_
  · clear S; intro h31 S
    refine st_go [0, 0, 0, 0, 0, 1, 1, 0, 0, 0, 0, 0, 1, 1, 0, 0, 0, 0, 0, 1, 1, 0, 0, 0, 0, 0, 1, 1, 0, 0, 0, 0, 0, 1, 1, 0, 0, 0, 0, 0, 1, 1, 0, 0, 0, 0, 0, 1, 1, 0, 0, 0, 0, 0, 1, 1, 0, 0, 0, 0, 0, 1, 1, 0, 0, 0, 0, 0, 1, 1, 0, 0, 0, 0, 0, 1, 1] S rfl (by kernel_rfl) ?_; clear S a; intro a S
    replace S := S.sub [(0, _), (1, _), (2, _), (3, _), (4, _)] rfl
    refine nxC ?_
    refine wp_ret ?_
    refine end_one S rfl (res_tmp rfl) ?_
    refine ⟨ret_bool ?_, M.below⟩; rw [← hr]; clear S M; simp [Msg.same, *]
  clear S; intro h31 S
  refine st_run [5, 2, 5, 1, 1, 1, 1] S M rfl (by kernel_rfl) ?_; clear S a; intro a S
  refine st_tils (t := 38) S rfl ?_ ?_
  · clear S; intro h38 S
    refine st_go [0, 0, 0, 0, 0, 1, 1, 0, 0, 0, 0, 0, 1, 1, 0, 0, 0, 0, 0, 1, 1, 0, 0, 0, 0, 0, 1, 1, 0, 0, 0, 0, 0, 1, 1, 0, 0, 0, 0, 0, 1, 1, 0, 0, 0, 0, 0, 1, 1, 0, 0, 0, 0, 0, 1, 1, 0, 0, 0, 0, 0, 1, 1, 0, 0, 0, 0, 0, 1, 1] S rfl (by kernel_rfl) ?_; clear S a; intro a S
    replace S := S.sub [(0, _), (1, _), (2, _), (3, _), (4, _)] rfl
    refine nxC ?_
    refine wp_ret ?_
    refine end_one S rfl (res_tmp rfl) ?_
    refine ⟨ret_bool ?_, M.below⟩; rw [← hr]; clear S M; simp [Msg.same, *]
  clear S; intro h38 S
  refine st_go [6] S rfl (by kernel_rfl) ?_; clear S a; intro a S
  refine st_y S rfl rfl rfl (y_loadAgg (cs := [_, _, _]) S (by kernel_rfl) rfl rfl (M.cellsAt (k := 3) 1 rfl rfl)) ?_; clear S a; intro a S
  refine st_go [6] S rfl (by kernel_rfl) ?_; clear S a; intro a S
  refine st_y S rfl rfl rfl (y_loadAgg (cs := [_, _, _]) S (by kernel_rfl) rfl rfl (M.cellsAt (k := 3) 0 rfl rfl)) ?_; clear S a; intro a S
  refine st_y S rfl rfl rfl (y_eqlG (by kernel_rfl) S rfl rfl (fun w => equalNm 9998 ⟨_, _, _⟩ ⟨_, _, _⟩ w)) ?_; clear S a; intro a S
  refine st_go [1, 1] S rfl (by kernel_rfl) ?_; clear S a; intro a S
  refine st_tils (t := 45) S rfl ?_ ?_
  · clear S; intro h45 S
    refine st_go [0, 0, 0, 0, 0, 1, 1, 0, 0, 0, 0, 0, 1, 1, 0, 0, 0, 0, 0, 1, 1, 0, 0, 0, 0, 0, 1, 1, 0, 0, 0, 0, 0, 1, 1, 0, 0, 0, 0, 0, 1, 1, 0, 0, 0, 0, 0, 1, 1, 0, 0, 0, 0, 0, 1, 1, 0, 0, 0, 0, 0, 1, 1] S rfl (by kernel_rfl) ?_; clear S a; intro a S
    replace S := S.sub [(0, _), (1, _), (2, _), (3, _), (4, _)] rfl
    refine nxC ?_
    refine wp_ret ?_
    refine end_one S rfl (res_tmp rfl) ?_
    refine ⟨ret_bool ?_, M.below⟩; rw [← hr]; clear S M; simp [Msg.same, *]
  clear S; intro h45 S
  refine st_run [9, 2, 9, 1, 1, 1, 1] S M rfl (by kernel_rfl) ?_; clear S a; intro a S
  refine st_tils (t := 52) S rfl ?_ ?_
  · clear S; intro h52 S
    refine st_go [0, 0, 0, 0, 0, 1, 1, 0, 0, 0, 0, 0, 1, 1, 0, 0, 0, 0, 0, 1, 1, 0, 0, 0, 0, 0, 1, 1, 0, 0, 0, 0, 0, 1, 1, 0, 0, 0, 0, 0, 1, 1, 0, 0, 0, 0, 0, 1, 1, 0, 0, 0, 0, 0, 1, 1] S rfl (by kernel_rfl) ?_; clear S a; intro a S
    replace S := S.sub [(0, _), (1, _), (2, _), (3, _), (4, _)] rfl
    refine nxC ?_
    refine wp_ret ?_
    refine end_one S rfl (res_tmp rfl) ?_
    refine ⟨ret_bool ?_, M.below⟩; rw [← hr]; clear S M; simp [Msg.same, *]
  clear S; intro h52 S
  refine st_run [10, 2, 10, 1, 1, 1, 1] S M rfl (by kernel_rfl) ?_; clear S a; intro a S
  refine st_tils (t := 59) S rfl ?_ ?_
  · clear S; intro h59 S
    refine st_go [0, 0, 0, 0, 0, 1, 1, 0, 0, 0, 0, 0, 1, 1, 0, 0, 0, 0, 0, 1, 1, 0, 0, 0, 0, 0, 1, 1, 0, 0, 0, 0, 0, 1, 1, 0, 0, 0, 0, 0, 1, 1, 0, 0, 0, 0, 0, 1, 1] S rfl (by kernel_rfl) ?_; clear S a; intro a S
    replace S := S.sub [(0, _), (1, _), (2, _), (3, _), (4, _)] rfl
    refine nxC ?_
    refine wp_ret ?_
    refine end_one S rfl (res_tmp rfl) ?_
    refine ⟨ret_bool ?_, M.below⟩; rw [← hr]; clear S M; simp [Msg.same, *]
  clear S; intro h59 S
  refine st_run [11, 2, 11, 1, 1, 1, 1] S M rfl (by kernel_rfl) ?_; clear S a; intro a S
  refine st_tils (t := 66) S rfl ?_ ?_
  · clear S; intro h66 S
    refine st_go [0, 0, 0, 0, 0, 1, 1, 0, 0, 0, 0, 0, 1, 1, 0, 0, 0, 0, 0, 1, 1, 0, 0, 0, 0, 0, 1, 1, 0, 0, 0, 0, 0, 1, 1, 0, 0, 0, 0, 0, 1, 1] S rfl (by kernel_rfl) ?_; clear S a; intro a S
    replace S := S.sub [(0, _), (1, _), (2, _), (3, _), (4, _)] rfl
    refine nxC ?_
    refine wp_ret ?_
    refine end_one S rfl (res_tmp rfl) ?_
    refine ⟨ret_bool ?_, M.below⟩; rw [← hr]; clear S M; simp [Msg.same, *]
  clear S; intro h66 S
  refine st_go [12] S rfl (by kernel_rfl) ?_; clear S a; intro a S
  refine st_y S rfl rfl rfl (y_loadAgg (cs := [_, _, _, _, _, _, _, _]) S (by kernel_rfl) rfl rfl (M.cellsAt (k := 8) 1 rfl rfl)) ?_; clear S a; intro a S
  refine st_go [12] S rfl (by kernel_rfl) ?_; clear S a; intro a S
  refine st_y S rfl rfl rfl (y_loadAgg (cs := [_, _, _, _, _, _, _, _]) S (by kernel_rfl) rfl rfl (M.cellsAt (k := 8) 0 rfl rfl)) ?_; clear S a; intro a S
  refine st_y S rfl rfl rfl (y_eqlG (by kernel_rfl) S rfl rfl (fun w => equalV8 9998 ⟨_, _, _, _, _, _, _, _⟩ ⟨_, _, _, _, _, _, _, _⟩ w)) ?_; clear S a; intro a S
  refine st_go [1, 1] S rfl (by kernel_rfl) ?_; clear S a; intro a S
  refine st_tils (t := 73) S rfl ?_ ?_
  · clear S; intro h73 S
    refine st_go [0, 0, 0, 0, 0, 1, 1, 0, 0, 0, 0, 0, 1, 1, 0, 0, 0, 0, 0, 1, 1, 0, 0, 0, 0, 0, 1, 1, 0, 0, 0, 0, 0, 1, 1] S rfl (by kernel_rfl) ?_; clear S a; intro a S
    replace S := S.sub [(0, _), (1, _), (2, _), (3, _), (4, _)] rfl
    refine nxC ?_
    refine wp_ret ?_
    refine end_one S rfl (res_tmp rfl) ?_
    refine ⟨ret_bool ?_, M.below⟩; rw [← hr]; clear S M; simp [Msg.same, *]
  clear S; intro h73 S
  refine st_run [20, 2, 20, 1, 1, 1, 1] S M rfl (by kernel_rfl) ?_; clear S a; intro a S
  refine st_tils (t := 80) S rfl ?_ ?_
  · clear S; intro h80 S
    refine st_go [0, 0, 0, 0, 0, 1, 1, 0, 0, 0, 0, 0, 1, 1, 0, 0, 0, 0, 0, 1, 1, 0, 0, 0, 0, 0, 1, 1] S rfl (by kernel_rfl) ?_; clear S a; intro a S
    replace S := S.sub [(0, _), (1, _), (2, _), (3, _), (4, _)] rfl
    refine nxC ?_
    refine wp_ret ?_
    refine end_one S rfl (res_tmp rfl) ?_
    refine ⟨ret_bool ?_, M.below⟩; rw [← hr]; clear S M; simp [Msg.same, *]
  clear S; intro h80 S
  refine st_run [21, 2, 21, 1] S M rfl (by kernel_rfl) ?_; clear S a; intro a S
  refine st_y S rfl rfl rfl (y_eqlBool (by kernel_rfl) S rfl rfl) ?_; clear S a; intro a S
  refine st_go [1, 1] S rfl (by kernel_rfl) ?_; clear S a; intro a S
  refine st_tils (t := 87) S rfl ?_ ?_
  · clear S; intro h87 S
    refine st_go [0, 0, 0, 0, 0, 1, 1, 0, 0, 0, 0, 0, 1, 1, 0, 0, 0, 0, 0, 1, 1] S rfl (by kernel_rfl) ?_; clear S a; intro a S
    replace S := S.sub [(0, _), (1, _), (2, _), (3, _), (4, _)] rfl
    refine nxC ?_
    refine wp_ret ?_
    refine end_one S rfl (res_tmp rfl) ?_
    refine ⟨ret_bool ?_, M.below⟩; rw [← hr]; clear S M; simp [Msg.same, *]
  clear S; intro h87 S
  refine st_run [22, 2, 22, 1, 1, 1, 1] S M rfl (by kernel_rfl) ?_; clear S a; intro a S
  refine st_tils (t := 94) S rfl ?_ ?_
  · clear S; intro h94 S
    refine st_go [0, 0, 0, 0, 0, 1, 1, 0, 0, 0, 0, 0, 1, 1] S rfl (by kernel_rfl) ?_; clear S a; intro a S
    replace S := S.sub [(0, _), (1, _), (2, _), (3, _), (4, _)] rfl
    refine nxC ?_
    refine wp_ret ?_
    refine end_one S rfl (res_tmp rfl) ?_
    refine ⟨ret_bool ?_, M.below⟩; rw [← hr]; clear S M; simp [Msg.same, *]
  clear S; intro h94 S
  refine st_run [23, 2, 23, 1, 1, 1, 1] S M rfl (by kernel_rfl) ?_; clear S a; intro a S
  refine st_tils (t := 101) S rfl ?_ ?_
  · clear S; intro h101 S
    refine st_go [0, 0, 0, 0, 0, 1, 1] S rfl (by kernel_rfl) ?_; clear S a; intro a S
    replace S := S.sub [(0, _), (1, _), (2, _), (3, _), (4, _)] rfl
    refine nxC ?_
    refine wp_ret ?_
    refine end_one S rfl (res_tmp rfl) ?_
    refine ⟨ret_bool ?_, M.below⟩; rw [← hr]; clear S M; simp [Msg.same, *]
  clear S; intro h101 S
  refine st_run [24, 2, 24, 1] S M rfl (by kernel_rfl) ?_; clear S a; intro a S
  refine st_call (xs := [(Operand.tmp 103), (Operand.tmp 105)]) S (enters_of Try.func59 (by decide) rfl) rfl rfl rfl (sameWrites_any _ _ x y _ (M.argW hx) (M.argW hy)) ?_
  rintro _ w3 ⟨rfl, hK⟩; refine ⟨_, rfl, ?_⟩; clear S a; intro a S; replace M := M.grow hK
  refine st_go [1, 1] S rfl (by kernel_rfl) ?_; clear S a; intro a S
  replace S := S.sub [(0, _), (1, _), (2, _), (3, _), (4, _)] rfl
  refine nxC ?_
  refine wp_ret ?_
  refine end_one S rfl (res_tmp rfl) ?_
  refine ⟨ret_bool ?_, M.below⟩; rw [← hr]; clear S M; simp [Msg.same, *]
theorem fDown_any (k : Int) (w : World) : Calls Try.prog 29 #[.int .i8 k] w fun e w' => e = .returned (.bool (kdown k)) ∧ Below w.heap.size w w' := by
  have M := Mem.start w
  refine calls_enter Try.func29 rfl 21 rfl rfl ?_; intro a S
  refine nxD ?_
  refine st_go [1] S rfl (by kernel_rfl) ?_; clear S a; intro a S
  refine nxA ?_
  refine st_go [1, 1, 1] S rfl (by kernel_rfl) ?_; clear S a; intro a S
  refine st_if (t := 5) S rfl ?_ ?_
  · clear S; intro h5 S
    refine st_go [0, 0, 1, 1, 0, 0, 1, 1, 0, 0, 1, 1, 0, 0, 1, 1] S rfl (by kernel_rfl) ?_; clear S a; intro a S
    replace S := S.sub [(0, _), (2, _)] rfl
    refine nxC ?_
    refine wp_ret ?_
    refine end_one S rfl (res_tmp rfl) ?_
    refine ⟨ret_bool ?_, M.below⟩; clear S M; unfold kdown; simp [*]
  clear S; intro h5 S
  refine st_go [1, 1, 1, 1] S rfl (by kernel_rfl) ?_; clear S a; intro a S
  refine st_if (t := 9) S rfl ?_ ?_
  · clear S; intro h9 S
    refine st_go [0, 0, 1, 1, 0, 0, 1, 1, 0, 0, 1, 1] S rfl (by kernel_rfl) ?_; clear S a; intro a S
    replace S := S.sub [(0, _), (2, _)] rfl
    refine nxC ?_
    refine wp_ret ?_
    refine end_one S rfl (res_tmp rfl) ?_
    refine ⟨ret_bool ?_, M.below⟩; clear S M; unfold kdown; simp [*]
  clear S; intro h9 S
  refine st_go [1, 1, 1, 1] S rfl (by kernel_rfl) ?_; clear S a; intro a S
  refine st_if (t := 13) S rfl ?_ ?_
  · clear S; intro h13 S
    refine st_go [0, 0, 1, 1, 0, 0, 1, 1] S rfl (by kernel_rfl) ?_; clear S a; intro a S
    replace S := S.sub [(0, _), (2, _)] rfl
    refine nxC ?_
    refine wp_ret ?_
    refine end_one S rfl (res_tmp rfl) ?_
    refine ⟨ret_bool ?_, M.below⟩; clear S M; unfold kdown; simp [*]
  clear S; intro h13 S
  refine st_go [1, 1, 1, 1] S rfl (by kernel_rfl) ?_; clear S a; intro a S
  refine st_if (t := 17) S rfl ?_ ?_
  · clear S; intro h17 S
    refine st_go [0, 0, 1, 1] S rfl (by kernel_rfl) ?_; clear S a; intro a S
    replace S := S.sub [(0, _), (2, _)] rfl
    refine nxC ?_
    refine wp_ret ?_
    refine end_one S rfl (res_tmp rfl) ?_
    refine ⟨ret_bool ?_, M.below⟩; clear S M; unfold kdown; simp [*]
  clear S; intro h17 S
  refine st_go [1, 1, 1, 1] S rfl (by kernel_rfl) ?_; clear S a; intro a S
  replace S := S.sub [(0, _), (2, _)] rfl
  refine nxC ?_
  refine wp_ret ?_
  refine end_one S rfl (res_tmp rfl) ?_
  refine ⟨ret_bool ?_, M.below⟩; clear S M; unfold kdown; simp [*]
/-- a message with just the fields that its kind names -/
def Msg.flds (m : Msg) : Msg :=
  { kind := m.kind, frm := m.frm, to := m.to, inc := m.inc, your := m.your
    name := if m.kind ≠ 1 ∧ m.kind ≠ 11 then m.name else ⟨0, 0, 0⟩
    n := if m.kind = 2 ∨ m.kind = 3 then m.n else 0
    op := if m.kind = 2 then m.op else 0
    block := if m.kind = 2 then m.block else 0
    val := if (m.kind = 2 ∧ m.op = 1) ∨ (m.kind = 3 ∧ m.e = 0) then m.val else ⟨0, 0, 0, 0, 0, 0, 0, 0⟩
    e := if m.kind = 3 ∨ m.kind = 10 then m.e else 0
    yes := if m.kind = 5 ∨ m.kind = 6 then m.yes else false
    give := if m.kind = 4 then m.give else 0
    take := if m.kind = 4 then m.take else 0 }
def fldMX (m : Msg) (x : List Wr) : List Wr := if m.kind = 4 then x else []
def fldMV (m : Msg) (v : Value) : Value := if m.kind = 4 then v else .slice none 0 0
set_option maxHeartbeats 1000000 in
theorem fFields_any (m : Msg) (va : Option Addr) (vn vc : Nat) (w : World) :
    Calls Try.prog 28 #[.agg (m.cells (.slice va vn vc))] w fun e w' => e = .returned (.agg (m.flds.cells (fldMV m (.slice va vn vc)))) ∧ Below w.heap.size w w' := by
  have M := Mem.start w
  refine calls_enter Try.func28 rfl 82 rfl rfl ?_; intro a S
  refine nxD ?_
  refine st_box S M rfl rfl rfl #[_, _, _, _, _, _, _, _, _, _, _, _, _, _, _, _, _, _, _, _, _, _, _, _] rfl ?_; clear S M a; intro a w1 bA S M hB
  refine st_alloc S M rfl rfl #[.int .i8 0, .int .i64 0, .int .i64 0, .int .i64 0, .int .i64 0, .int .i64 0, .int .i64 0, .int .i64 0, .int .i64 0, .int .i8 0, .int .i64 0, .int .u8 0, .int .u8 0, .int .u8 0, .int .u8 0, .int .u8 0, .int .u8 0, .int .u8 0, .int .u8 0, .int .i64 0, .bool false, .int .i64 0, .int .i64 0, .slice none 0 0] (by kernel_rfl) ?_; clear S M a; intro a w2 bO S M hB
  refine nxA ?_
  refine st_run [1, 2, 2, 2, 3, 2, 4, 2, 5, 2] S M rfl (by kernel_rfl) ?_; clear S a; intro a S
  refine st_y S rfl rfl rfl (y_build (ps := [(0, (Operand.tmp 5)), (1, (Operand.tmp 7)), (2, (Operand.tmp 9)), (3, (Operand.tmp 11)), (4, (Operand.tmp 13))]) (pl := [(0, 1), (1, 1), (2, 1), (3, 1), (4, 1), (5, 3), (8, 1), (9, 1), (10, 1), (11, 8), (19, 1), (20, 1), (21, 1), (22, 1), (23, 1)]) (z := [.int .i8 0, .int .i64 0, .int .i64 0, .int .i64 0, .int .i64 0, .int .i64 0, .int .i64 0, .int .i64 0, .int .i64 0, .int .i8 0, .int .i64 0, .int .u8 0, .int .u8 0, .int .u8 0, .int .u8 0, .int .u8 0, .int .u8 0, .int .u8 0, .int .u8 0, .int .i64 0, .bool false, .int .i64 0, .int .i64 0, .slice none 0 0]) (cs := [_, _, _, _, _, _, _, _, _, _, _, _, _, _, _, _, _, _, _, _, _, _, _, _]) S (by kernel_rfl) rfl (rfl)) ?_; clear S a; intro a S
  refine st_alloc S M rfl rfl #[.int .i8 0, .int .i64 0, .int .i64 0, .int .i64 0, .int .i64 0, .int .i64 0, .int .i64 0, .int .i64 0, .int .i64 0, .int .i8 0, .int .i64 0, .int .u8 0, .int .u8 0, .int .u8 0, .int .u8 0, .int .u8 0, .int .u8 0, .int .u8 0, .int .u8 0, .int .i64 0, .bool false, .int .i64 0, .int .i64 0, .slice none 0 0] (by kernel_rfl) ?_; clear S M a; intro a w3 bB S M hB
  refine st_store (sz := 24) (us := [_, _, _, _, _, _, _, _, _, _, _, _, _, _, _, _, _, _, _, _, _, _, _, _]) S M 0 rfl (by kernel_rfl) rfl rfl rfl rfl rfl rfl (by first | decide | (simp; done) | (simp; omega)) ?_; clear M; intro w4 M
  simp only [putL, List.set_cons_zero, List.set_cons_succ, Nat.reduceAdd] at M
  refine nxC ?_
  refine wp_cut (fun a w' => Sees 82 a [(1, .pointer (some ⟨bA, 0, none⟩)), (2, .pointer (some ⟨bO, 0, none⟩)), (3, .pointer (some ⟨bB, 0, none⟩))] ∧ ∃ nm : Nm, Mem w w' [.blk bB (Msg.cells ⟨m.kind, m.frm, m.to, m.inc, m.your, nm, 0, 0, 0, ⟨0, 0, 0, 0, 0, 0, 0, 0⟩, 0, false, 0, 0⟩ (.slice none 0 0)) 36, .blk bO (zMsg.cells (.slice none 0 0)) 36, .blk bA (m.cells (.slice va vn vc)) 36] ∧ nm = (if m.kind ≠ 1 ∧ m.kind ≠ 11 then m.name else ⟨0, 0, 0⟩)) ?_ ?_
  · skip
    refine nxD ?_
    refine st_run [1, 3, 1, 1] S M rfl (by kernel_rfl) ?_; clear S a; intro a S
    refine st_fi (t := 18) S rfl ?_ ?_
    · clear S; intro h18 S
      refine st_go [0, 0, 0, 1] S rfl (by kernel_rfl) ?_; clear S a; intro a S
      replace S := S.sub [(0, _), (1, _), (2, _), (3, _), (22, _)] rfl
      refine nxC ?_
      refine st_condF S rfl ?_
      refine wp_skip ?_
      refine then_normal ?_
      first
        | exact ⟨S.sub _ rfl, m.name, M, (if_pos (by omega)).symm⟩
        | exact ⟨S.sub _ rfl, ⟨0, 0, 0⟩, M, (if_neg (by omega)).symm⟩
    clear S; intro h18 S
    refine st_run [1, 3, 1, 1] S M rfl (by kernel_rfl) ?_; clear S a; intro a S
    replace S := S.sub [(0, _), (1, _), (2, _), (3, _), (22, _)] rfl
    refine nxC ?_
    refine st_fi (t := 22) S rfl ?_ ?_
    · clear S; intro h22 S
      refine st_condF S rfl ?_
      refine wp_skip ?_
      refine then_normal ?_
      first
        | exact ⟨S.sub _ rfl, m.name, M, (if_pos (by omega)).symm⟩
        | exact ⟨S.sub _ rfl, ⟨0, 0, 0⟩, M, (if_neg (by omega)).symm⟩
    clear S; intro h22 S
    refine st_condT S rfl ?_
    refine wp_region_lit ?_
    refine st_go [6] S rfl (by kernel_rfl) ?_; clear S a; intro a S
    refine st_y S rfl rfl rfl (y_loadAgg (cs := [_, _, _]) S (by kernel_rfl) rfl rfl (M.cellsAt (k := 3) 2 rfl rfl)) ?_; clear S a; intro a S
    refine st_go [6] S rfl (by kernel_rfl) ?_; clear S a; intro a S
    refine st_store (sz := 3) (us := [_, _, _]) S M 0 rfl (by kernel_rfl) rfl rfl rfl rfl rfl rfl (by first | decide | (simp; done) | (simp; omega)) ?_; clear M; intro w5 M
    simp only [putL, List.set_cons_zero, List.set_cons_succ, Nat.reduceAdd] at M
    refine nxC ?_
    first
      | exact ⟨S.sub _ rfl, m.name, M, (if_pos (by omega)).symm⟩
      | exact ⟨S.sub _ rfl, ⟨0, 0, 0⟩, M, (if_neg (by omega)).symm⟩
  clear S a M; intro a wc
  rintro ⟨S, nm, M, hnm⟩
  refine wp_seq ?_
  refine nxD ?_
  refine st_run [1, 3] S M rfl (by kernel_rfl) ?_; clear S a; intro a S
  refine nxC ?_
  refine wp_block ?_
  refine nxD ?_
  refine st_go [1, 1] S rfl (by kernel_rfl) ?_; clear S a; intro a S
  refine nxC ?_
  refine st_if (t := 28) S rfl ?_ ?_
  · clear S; intro h28 S
    refine st_condT S rfl ?_
    refine nxD ?_
    refine st_run [9, 3, 9] S M rfl (by kernel_rfl) ?_; clear S a; intro a S
    refine st_store (sz := 1) (us := [_]) S M 0 rfl (by kernel_rfl) rfl rfl rfl rfl rfl rfl (by first | decide | (simp; done) | (simp; omega)) ?_; clear M; intro w6 M
    simp only [putL, List.set_cons_zero, List.set_cons_succ, Nat.reduceAdd] at M
    refine nxA ?_
    refine st_run [10, 3, 10] S M rfl (by kernel_rfl) ?_; clear S a; intro a S
    refine st_store (sz := 1) (us := [_]) S M 0 rfl (by kernel_rfl) rfl rfl rfl rfl rfl rfl (by first | decide | (simp; done) | (simp; omega)) ?_; clear M; intro w7 M
    simp only [putL, List.set_cons_zero, List.set_cons_succ, Nat.reduceAdd] at M
    refine nxA ?_
    refine st_run [11, 3, 11] S M rfl (by kernel_rfl) ?_; clear S a; intro a S
    refine st_store (sz := 1) (us := [_]) S M 0 rfl (by kernel_rfl) rfl rfl rfl rfl rfl rfl (by first | decide | (simp; done) | (simp; omega)) ?_; clear M; intro w8 M
    simp only [putL, List.set_cons_zero, List.set_cons_succ, Nat.reduceAdd] at M
    refine nxA ?_
    refine st_run [10, 3, 1] S M rfl (by kernel_rfl) ?_; clear S a; intro a S
    refine nxC ?_
    refine st_fi (t := 41) S rfl ?_ ?_
    · clear S; intro h41 S
      refine st_condF S rfl ?_
      refine wp_skip ?_
      refine block_normal ?_
      refine nxE ?_
      refine st_y S rfl rfl rfl (y_loadAgg (cs := [_, _, _, _, _, _, _, _, _, _, _, _, _, _, _, _, _, _, _, _, _, _, _, _]) S (by kernel_rfl) rfl rfl (M.cellsAt (k := 24) 0 rfl rfl)) ?_; clear S a; intro a S
      refine st_store (sz := 24) (us := [_, _, _, _, _, _, _, _, _, _, _, _, _, _, _, _, _, _, _, _, _, _, _, _]) S M 1 rfl (by kernel_rfl) rfl rfl rfl rfl rfl rfl (by first | decide | (simp; done) | (simp; omega)) ?_; clear M; intro w11 M
      simp only [putL, List.set_cons_zero, List.set_cons_succ, Nat.reduceAdd] at M
      replace S := S.sub [(1, _), (2, _), (3, _), (27, _), (28, _), (41, _)] rfl
      refine nxC ?_
      refine wp_ret ?_
      refine end_one S rfl (res_agg (cs := [_, _, _, _, _, _, _, _, _, _, _, _, _, _, _, _, _, _, _, _, _, _, _, _]) (by kernel_rfl) rfl rfl (M.cellsAt (k := 24) 1 rfl rfl)) ?_
      refine ⟨?_, M.below⟩
      clear S M
      first
        | (exfalso; omega)
        | (simp [Msg.flds, fldMV, hnm, *]; done)
    clear S; intro h41 S
    refine st_condT S rfl ?_
    refine wp_region_lit ?_
    refine st_go [12] S rfl (by kernel_rfl) ?_; clear S a; intro a S
    refine st_y S rfl rfl rfl (y_loadAgg (cs := [_, _, _, _, _, _, _, _]) S (by kernel_rfl) rfl rfl (M.cellsAt (k := 8) 2 rfl rfl)) ?_; clear S a; intro a S
    refine st_go [12] S rfl (by kernel_rfl) ?_; clear S a; intro a S
    refine st_store (sz := 8) (us := [_, _, _, _, _, _, _, _]) S M 0 rfl (by kernel_rfl) rfl rfl rfl rfl rfl rfl (by first | decide | (simp; done) | (simp; omega)) ?_; clear M; intro w9 M
    simp only [putL, List.set_cons_zero, List.set_cons_succ, Nat.reduceAdd] at M
    replace S := S.sub [(1, _), (2, _), (3, _), (27, _), (28, _), (41, _)] rfl
    refine wpList_nil ?_
    refine block_normal ?_
    refine nxE ?_
    refine st_y S rfl rfl rfl (y_loadAgg (cs := [_, _, _, _, _, _, _, _, _, _, _, _, _, _, _, _, _, _, _, _, _, _, _, _]) S (by kernel_rfl) rfl rfl (M.cellsAt (k := 24) 0 rfl rfl)) ?_; clear S a; intro a S
    refine st_store (sz := 24) (us := [_, _, _, _, _, _, _, _, _, _, _, _, _, _, _, _, _, _, _, _, _, _, _, _]) S M 1 rfl (by kernel_rfl) rfl rfl rfl rfl rfl rfl (by first | decide | (simp; done) | (simp; omega)) ?_; clear M; intro w10 M
    simp only [putL, List.set_cons_zero, List.set_cons_succ, Nat.reduceAdd] at M
    refine nxC ?_
    refine wp_ret ?_
    refine end_one S rfl (res_agg (cs := [_, _, _, _, _, _, _, _, _, _, _, _, _, _, _, _, _, _, _, _, _, _, _, _]) (by kernel_rfl) rfl rfl (M.cellsAt (k := 24) 1 rfl rfl)) ?_
    refine ⟨?_, M.below⟩
    clear S M
    first
      | (exfalso; omega)
      | (simp [Msg.flds, fldMV, hnm, *]; done)
  clear S; intro h28 S
  refine st_condF S rfl ?_
  refine nxD ?_
  refine st_go [1, 1] S rfl (by kernel_rfl) ?_; clear S a; intro a S
  refine nxC ?_
  refine st_if (t := 45) S rfl ?_ ?_
  · clear S; intro h45 S
    refine st_condT S rfl ?_
    refine nxD ?_
    refine st_run [9, 3, 9] S M rfl (by kernel_rfl) ?_; clear S a; intro a S
    refine st_store (sz := 1) (us := [_]) S M 0 rfl (by kernel_rfl) rfl rfl rfl rfl rfl rfl (by first | decide | (simp; done) | (simp; omega)) ?_; clear M; intro w12 M
    simp only [putL, List.set_cons_zero, List.set_cons_succ, Nat.reduceAdd] at M
    refine nxA ?_
    refine st_run [20, 3, 20] S M rfl (by kernel_rfl) ?_; clear S a; intro a S
    refine st_store (sz := 1) (us := [_]) S M 0 rfl (by kernel_rfl) rfl rfl rfl rfl rfl rfl (by first | decide | (simp; done) | (simp; omega)) ?_; clear M; intro w13 M
    simp only [putL, List.set_cons_zero, List.set_cons_succ, Nat.reduceAdd] at M
    refine nxA ?_
    refine st_run [20, 3, 1] S M rfl (by kernel_rfl) ?_; clear S a; intro a S
    refine nxC ?_
    refine st_fi (t := 55) S rfl ?_ ?_
    · clear S; intro h55 S
      refine st_condF S rfl ?_
      refine wp_skip ?_
      refine block_normal ?_
      refine nxE ?_
      refine st_y S rfl rfl rfl (y_loadAgg (cs := [_, _, _, _, _, _, _, _, _, _, _, _, _, _, _, _, _, _, _, _, _, _, _, _]) S (by kernel_rfl) rfl rfl (M.cellsAt (k := 24) 0 rfl rfl)) ?_; clear S a; intro a S
      refine st_store (sz := 24) (us := [_, _, _, _, _, _, _, _, _, _, _, _, _, _, _, _, _, _, _, _, _, _, _, _]) S M 1 rfl (by kernel_rfl) rfl rfl rfl rfl rfl rfl (by first | decide | (simp; done) | (simp; omega)) ?_; clear M; intro w16 M
      simp only [putL, List.set_cons_zero, List.set_cons_succ, Nat.reduceAdd] at M
      refine nxC ?_
      refine wp_ret ?_
      refine end_one S rfl (res_agg (cs := [_, _, _, _, _, _, _, _, _, _, _, _, _, _, _, _, _, _, _, _, _, _, _, _]) (by kernel_rfl) rfl rfl (M.cellsAt (k := 24) 1 rfl rfl)) ?_
      refine ⟨?_, M.below⟩
      clear S M
      first
        | (exfalso; omega)
        | (simp [Msg.flds, fldMV, hnm, *]; done)
    clear S; intro h55 S
    refine st_condT S rfl ?_
    refine wp_region_lit ?_
    refine st_go [12] S rfl (by kernel_rfl) ?_; clear S a; intro a S
    refine st_y S rfl rfl rfl (y_loadAgg (cs := [_, _, _, _, _, _, _, _]) S (by kernel_rfl) rfl rfl (M.cellsAt (k := 8) 2 rfl rfl)) ?_; clear S a; intro a S
    refine st_go [12] S rfl (by kernel_rfl) ?_; clear S a; intro a S
    refine st_store (sz := 8) (us := [_, _, _, _, _, _, _, _]) S M 0 rfl (by kernel_rfl) rfl rfl rfl rfl rfl rfl (by first | decide | (simp; done) | (simp; omega)) ?_; clear M; intro w14 M
    simp only [putL, List.set_cons_zero, List.set_cons_succ, Nat.reduceAdd] at M
    replace S := S.sub [(1, _), (2, _), (3, _), (27, _), (28, _), (45, _), (55, _)] rfl
    refine wpList_nil ?_
    refine block_normal ?_
    refine nxE ?_
    refine st_y S rfl rfl rfl (y_loadAgg (cs := [_, _, _, _, _, _, _, _, _, _, _, _, _, _, _, _, _, _, _, _, _, _, _, _]) S (by kernel_rfl) rfl rfl (M.cellsAt (k := 24) 0 rfl rfl)) ?_; clear S a; intro a S
    refine st_store (sz := 24) (us := [_, _, _, _, _, _, _, _, _, _, _, _, _, _, _, _, _, _, _, _, _, _, _, _]) S M 1 rfl (by kernel_rfl) rfl rfl rfl rfl rfl rfl (by first | decide | (simp; done) | (simp; omega)) ?_; clear M; intro w15 M
    simp only [putL, List.set_cons_zero, List.set_cons_succ, Nat.reduceAdd] at M
    refine nxC ?_
    refine wp_ret ?_
    refine end_one S rfl (res_agg (cs := [_, _, _, _, _, _, _, _, _, _, _, _, _, _, _, _, _, _, _, _, _, _, _, _]) (by kernel_rfl) rfl rfl (M.cellsAt (k := 24) 1 rfl rfl)) ?_
    refine ⟨?_, M.below⟩
    clear S M
    first
      | (exfalso; omega)
      | (simp [Msg.flds, fldMV, hnm, *]; done)
  clear S; intro h45 S
  refine st_condF S rfl ?_
  refine nxD ?_
  refine st_go [1, 1] S rfl (by kernel_rfl) ?_; clear S a; intro a S
  refine nxC ?_
  refine st_if (t := 59) S rfl ?_ ?_
  · clear S; intro h59 S
    refine st_condT S rfl ?_
    refine nxD ?_
    refine st_run [22, 3, 22] S M rfl (by kernel_rfl) ?_; clear S a; intro a S
    refine st_store (sz := 1) (us := [_]) S M 0 rfl (by kernel_rfl) rfl rfl rfl rfl rfl rfl (by first | decide | (simp; done) | (simp; omega)) ?_; clear M; intro w17 M
    simp only [putL, List.set_cons_zero, List.set_cons_succ, Nat.reduceAdd] at M
    refine nxA ?_
    refine st_run [23, 3, 23] S M rfl (by kernel_rfl) ?_; clear S a; intro a S
    refine st_store (sz := 1) (us := [_]) S M 0 rfl (by kernel_rfl) rfl rfl rfl rfl rfl rfl (by first | decide | (simp; done) | (simp; omega)) ?_; clear M; intro w18 M
    simp only [putL, List.set_cons_zero, List.set_cons_succ, Nat.reduceAdd] at M
    refine nxB ?_
    refine st_run [24, 3, 24] S M rfl (by kernel_rfl) ?_; clear S a; intro a S
    refine st_store (sz := 1) (us := [_]) S M 0 rfl (by kernel_rfl) rfl rfl rfl rfl rfl rfl (by first | decide | (simp; done) | (simp; omega)) ?_; clear M; intro w19 M
    simp only [putL, List.set_cons_zero, List.set_cons_succ, Nat.reduceAdd] at M
    refine wpList_nil ?_
    refine block_normal ?_
    refine nxE ?_
    refine st_y S rfl rfl rfl (y_loadAgg (cs := [_, _, _, _, _, _, _, _, _, _, _, _, _, _, _, _, _, _, _, _, _, _, _, _]) S (by kernel_rfl) rfl rfl (M.cellsAt (k := 24) 0 rfl rfl)) ?_; clear S a; intro a S
    refine st_store (sz := 24) (us := [_, _, _, _, _, _, _, _, _, _, _, _, _, _, _, _, _, _, _, _, _, _, _, _]) S M 1 rfl (by kernel_rfl) rfl rfl rfl rfl rfl rfl (by first | decide | (simp; done) | (simp; omega)) ?_; clear M; intro w20 M
    simp only [putL, List.set_cons_zero, List.set_cons_succ, Nat.reduceAdd] at M
    replace S := S.sub [(1, _), (2, _), (3, _), (27, _), (28, _), (45, _), (59, _)] rfl
    refine nxC ?_
    refine wp_ret ?_
    refine end_one S rfl (res_agg (cs := [_, _, _, _, _, _, _, _, _, _, _, _, _, _, _, _, _, _, _, _, _, _, _, _]) (by kernel_rfl) rfl rfl (M.cellsAt (k := 24) 1 rfl rfl)) ?_
    refine ⟨?_, M.below⟩
    clear S M
    first
      | (exfalso; omega)
      | (simp [Msg.flds, fldMV, hnm, *]; done)
  clear S; intro h59 S
  refine st_condF S rfl ?_
  refine wp_seq ?_
  refine nxD ?_
  refine st_go [1, 1] S rfl (by kernel_rfl) ?_; clear S a; intro a S
  refine nxC ?_
  refine st_if (t := 70) S rfl ?_ ?_
  · clear S; intro h70 S
    refine st_condT S rfl ?_
    refine wp_skip ?_
    refine then_normal ?_
    refine st_condT S rfl ?_
    refine wp_region_lit ?_
    refine st_run [21, 3, 21] S M rfl (by kernel_rfl) ?_; clear S a; intro a S
    refine st_store (sz := 1) (us := [_]) S M 0 rfl (by kernel_rfl) rfl rfl rfl rfl rfl rfl (by first | decide | (simp; done) | (simp; omega)) ?_; clear M; intro w21 M
    simp only [putL, List.set_cons_zero, List.set_cons_succ, Nat.reduceAdd] at M
    refine wpList_nil ?_
    refine block_normal ?_
    refine nxE ?_
    refine st_y S rfl rfl rfl (y_loadAgg (cs := [_, _, _, _, _, _, _, _, _, _, _, _, _, _, _, _, _, _, _, _, _, _, _, _]) S (by kernel_rfl) rfl rfl (M.cellsAt (k := 24) 0 rfl rfl)) ?_; clear S a; intro a S
    refine st_store (sz := 24) (us := [_, _, _, _, _, _, _, _, _, _, _, _, _, _, _, _, _, _, _, _, _, _, _, _]) S M 1 rfl (by kernel_rfl) rfl rfl rfl rfl rfl rfl (by first | decide | (simp; done) | (simp; omega)) ?_; clear M; intro w22 M
    simp only [putL, List.set_cons_zero, List.set_cons_succ, Nat.reduceAdd] at M
    refine nxC ?_
    refine wp_ret ?_
    refine end_one S rfl (res_agg (cs := [_, _, _, _, _, _, _, _, _, _, _, _, _, _, _, _, _, _, _, _, _, _, _, _]) (by kernel_rfl) rfl rfl (M.cellsAt (k := 24) 1 rfl rfl)) ?_
    refine ⟨?_, M.below⟩
    clear S M
    first
      | (exfalso; omega)
      | (simp [Msg.flds, fldMV, hnm, *]; done)
  clear S; intro h70 S
  refine st_condF S rfl ?_
  refine wp_region_lit ?_
  refine st_go [1, 1] S rfl (by kernel_rfl) ?_; clear S a; intro a S
  refine nxC ?_
  refine st_if (t := 70) S rfl ?_ ?_
  · clear S; intro h70 S
    refine st_condT S rfl ?_
    refine wp_region_lit ?_
    refine st_run [21, 3, 21] S M rfl (by kernel_rfl) ?_; clear S a; intro a S
    refine st_store (sz := 1) (us := [_]) S M 0 rfl (by kernel_rfl) rfl rfl rfl rfl rfl rfl (by first | decide | (simp; done) | (simp; omega)) ?_; clear M; intro w23 M
    simp only [putL, List.set_cons_zero, List.set_cons_succ, Nat.reduceAdd] at M
    refine wpList_nil ?_
    refine block_normal ?_
    refine nxE ?_
    refine st_y S rfl rfl rfl (y_loadAgg (cs := [_, _, _, _, _, _, _, _, _, _, _, _, _, _, _, _, _, _, _, _, _, _, _, _]) S (by kernel_rfl) rfl rfl (M.cellsAt (k := 24) 0 rfl rfl)) ?_; clear S a; intro a S
    refine st_store (sz := 24) (us := [_, _, _, _, _, _, _, _, _, _, _, _, _, _, _, _, _, _, _, _, _, _, _, _]) S M 1 rfl (by kernel_rfl) rfl rfl rfl rfl rfl rfl (by first | decide | (simp; done) | (simp; omega)) ?_; clear M; intro w24 M
    simp only [putL, List.set_cons_zero, List.set_cons_succ, Nat.reduceAdd] at M
    refine nxC ?_
    refine wp_ret ?_
    refine end_one S rfl (res_agg (cs := [_, _, _, _, _, _, _, _, _, _, _, _, _, _, _, _, _, _, _, _, _, _, _, _]) (by kernel_rfl) rfl rfl (M.cellsAt (k := 24) 1 rfl rfl)) ?_
    refine ⟨?_, M.below⟩
    clear S M
    first
      | (exfalso; omega)
      | (simp [Msg.flds, fldMV, hnm, *]; done)
  clear S; intro h70 S
  refine st_condF S rfl ?_
  refine nxD ?_
  refine st_go [1, 1] S rfl (by kernel_rfl) ?_; clear S a; intro a S
  refine nxC ?_
  refine st_fi (t := 76) S rfl ?_ ?_
  · clear S; intro h76 S
    refine st_condF S rfl ?_
    refine wp_skip ?_
    refine block_normal ?_
    refine nxE ?_
    refine st_y S rfl rfl rfl (y_loadAgg (cs := [_, _, _, _, _, _, _, _, _, _, _, _, _, _, _, _, _, _, _, _, _, _, _, _]) S (by kernel_rfl) rfl rfl (M.cellsAt (k := 24) 0 rfl rfl)) ?_; clear S a; intro a S
    refine st_store (sz := 24) (us := [_, _, _, _, _, _, _, _, _, _, _, _, _, _, _, _, _, _, _, _, _, _, _, _]) S M 1 rfl (by kernel_rfl) rfl rfl rfl rfl rfl rfl (by first | decide | (simp; done) | (simp; omega)) ?_; clear M; intro w27 M
    simp only [putL, List.set_cons_zero, List.set_cons_succ, Nat.reduceAdd] at M
    refine nxC ?_
    refine wp_ret ?_
    refine end_one S rfl (res_agg (cs := [_, _, _, _, _, _, _, _, _, _, _, _, _, _, _, _, _, _, _, _, _, _, _, _]) (by kernel_rfl) rfl rfl (M.cellsAt (k := 24) 1 rfl rfl)) ?_
    refine ⟨?_, M.below⟩
    clear S M
    first
      | (exfalso; omega)
      | (simp [Msg.flds, fldMV, hnm, *]; done)
  clear S; intro h76 S
  refine st_condT S rfl ?_
  refine wp_region_lit ?_
  refine st_run [20, 3, 20] S M rfl (by kernel_rfl) ?_; clear S a; intro a S
  refine st_store (sz := 1) (us := [_]) S M 0 rfl (by kernel_rfl) rfl rfl rfl rfl rfl rfl (by first | decide | (simp; done) | (simp; omega)) ?_; clear M; intro w25 M
  simp only [putL, List.set_cons_zero, List.set_cons_succ, Nat.reduceAdd] at M
  refine wpList_nil ?_
  refine block_normal ?_
  refine nxE ?_
  refine st_y S rfl rfl rfl (y_loadAgg (cs := [_, _, _, _, _, _, _, _, _, _, _, _, _, _, _, _, _, _, _, _, _, _, _, _]) S (by kernel_rfl) rfl rfl (M.cellsAt (k := 24) 0 rfl rfl)) ?_; clear S a; intro a S
  refine st_store (sz := 24) (us := [_, _, _, _, _, _, _, _, _, _, _, _, _, _, _, _, _, _, _, _, _, _, _, _]) S M 1 rfl (by kernel_rfl) rfl rfl rfl rfl rfl rfl (by first | decide | (simp; done) | (simp; omega)) ?_; clear M; intro w26 M
  simp only [putL, List.set_cons_zero, List.set_cons_succ, Nat.reduceAdd] at M
  refine nxC ?_
  refine wp_ret ?_
  refine end_one S rfl (res_agg (cs := [_, _, _, _, _, _, _, _, _, _, _, _, _, _, _, _, _, _, _, _, _, _, _, _]) (by kernel_rfl) rfl rfl (M.cellsAt (k := 24) 1 rfl rfl)) ?_
  refine ⟨?_, M.below⟩
  clear S M
  first
    | (exfalso; omega)
    | (simp [Msg.flds, fldMV, hnm, *]; done)

end Go.Proofs.Ytidpeojkkfmgeaa
