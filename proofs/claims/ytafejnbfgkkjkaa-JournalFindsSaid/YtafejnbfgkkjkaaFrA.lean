/-
  Package frame: sequence, incarnation, May.
-/
import Derived.Test.YtafejnbfgkkjkaaGV
namespace Go.Proofs.Ytafejnbfgkkjkaa
open Go.RowKit Go.Sort

theorem sequence_any (k : Int) (w : World) : Calls Try.prog 29 #[.int .i64 k] w fun e w' => e = .returned (.bool (decide (1 ≤ k ∧ k ≤ 1099511627776))) ∧ Below w.heap.size w w' := by
  have M := Mem.start w
  refine calls_enter Try.func29 rfl _ rfl rfl ?_
  intro a S
  refine nxD ?_
  refine st_go [1] S rfl (by kernel_rfl) ?_; clear S a; intro a S
  refine nxA ?_
  refine st_go [1, 1, 1] S rfl (by kernel_rfl) ?_; clear S a; intro a S
  refine st_if (t := 5) S rfl ?_ ?_
  · clear S; intro h5 S
    refine st_go [1, 1, 1, 1] S rfl (by kernel_rfl) ?_; clear S a; intro a S
    refine nxC ?_
    refine wp_ret ?_
    refine end_one S rfl (res_tmp rfl) ?_
    refine ⟨ret_bool ?_, M.below⟩; rw [Bool.eq_iff_iff]; (first | (simp; done) | (simp; omega))
  clear S; intro h5 S
  refine st_go [0, 0, 1, 1] S rfl (by kernel_rfl) ?_; clear S a; intro a S
  refine nxC ?_
  refine wp_ret ?_
  refine end_one S rfl (res_tmp rfl) ?_
  refine ⟨ret_bool ?_, M.below⟩; rw [Bool.eq_iff_iff]; (first | (simp; done) | (simp; omega))
theorem incarnation_any (k : Int) (w : World) : Calls Try.prog 30 #[.int .i64 k] w fun e w' => e = .returned (.bool (decide (0 ≤ k ∧ k ≤ 1048576))) ∧ Below w.heap.size w w' := by
  have M := Mem.start w
  refine calls_enter Try.func30 rfl _ rfl rfl ?_
  intro a S
  refine nxD ?_
  refine st_go [1] S rfl (by kernel_rfl) ?_; clear S a; intro a S
  refine nxA ?_
  refine st_go [1, 1, 1] S rfl (by kernel_rfl) ?_; clear S a; intro a S
  refine st_if (t := 5) S rfl ?_ ?_
  · clear S; intro h5 S
    refine st_go [1, 1, 1, 1] S rfl (by kernel_rfl) ?_; clear S a; intro a S
    refine nxC ?_
    refine wp_ret ?_
    refine end_one S rfl (res_tmp rfl) ?_
    refine ⟨ret_bool ?_, M.below⟩; rw [Bool.eq_iff_iff]; (first | (simp; done) | (simp; omega))
  clear S; intro h5 S
  refine st_go [0, 0, 1, 1] S rfl (by kernel_rfl) ?_; clear S a; intro a S
  refine nxC ?_
  refine wp_ret ?_
  refine end_one S rfl (res_tmp rfl) ?_
  refine ⟨ret_bool ?_, M.below⟩; rw [Bool.eq_iff_iff]; (first | (simp; done) | (simp; omega))

/-- a frame but for its load -/
structure Fr where
  seq : Int
  inc : Int
  part : Int
  of : Int
  mark : BitVec 32

abbrev Fr.cells (f : Fr) (lv : Value) : List Value := [.int .i64 f.seq, .int .i64 f.inc, .int .i64 f.part, .int .i64 f.of, .int .u32 (f.mark.toNat : Int), lv]
/-- may a frame with a load of l bytes be? -/
def Fr.may (f : Fr) (l : Nat) : Bool := decide ((1 ≤ f.seq ∧ f.seq ≤ 1099511627776) ∧ (0 ≤ f.inc ∧ f.inc ≤ 1048576) ∧ (1 ≤ f.of ∧ f.of ≤ 2) ∧ (0 ≤ f.part ∧ f.part < f.of) ∧ (1 ≤ l ∧ l ≤ 45) ∧ (f.part < f.of - 1 → l = 45))

theorem mayF_any (f : Fr) (ad : Option Addr) (l c : Nat) (w : World) : Calls Try.prog 49 #[.agg (f.cells (.slice ad l c)).toArray] w fun e w' => e = .returned (.bool (f.may l)) ∧ Below w.heap.size w w' := by
  have M := Mem.start w
  refine calls_enter Try.func49 rfl _ rfl rfl ?_
  intro a S
  refine nxD ?_
  refine st_box S M rfl rfl rfl #[_, _, _, _, _, _] rfl ?_; clear S M a; intro a w1 b1 S M hB
  refine st_go [1] S rfl (by kernel_rfl) ?_; clear S a; intro a S
  refine nxC ?_
  refine wp_scope_straight ?_
  refine nxD ?_
  refine st_go [1] S rfl (by kernel_rfl) ?_; clear S a; intro a S
  refine nxC ?_
  refine wp_seq ?_
  refine wp_label ?_
  refine then_normal ?_
  refine wp_seq ?_
  refine wp_block ?_
  refine wp_seq ?_
  refine nxD ?_
  refine st_run [1, 1] S M rfl (by kernel_rfl) ?_; clear S a; intro a S
  refine st_call (xs := [(Operand.tmp 6)]) S (enters_of Try.func29 (by decide) rfl) rfl rfl rfl (sequence_any _ _) ?_
  rintro _ w2 ⟨rfl, hK⟩; refine ⟨_, rfl, ?_⟩; clear S a; intro a S; replace M := M.grow hK
  refine st_go [1, 1] S rfl (by kernel_rfl) ?_; clear S a; intro a S
  refine nxC ?_
  refine st_if (t := 4) S rfl ?_ ?_
  · clear S; intro h4 S
    refine st_condT S rfl ?_
    refine wp_skip ?_
    refine then_normal ?_
    refine st_condT S rfl ?_
    refine wp_exit ?_
    refine block_hit ?_
    refine nxE ?_
    refine st_go [1, 1] S rfl (by kernel_rfl) ?_; clear S a; intro a S
    refine nxC ?_
    refine wp_ret ?_
    refine sc_ret ?_
    refine end_one S rfl (res_tmp rfl) ?_
    refine ⟨ret_bool ?_, M.below⟩; rw [Bool.eq_iff_iff]; (first | (simp [Fr.may]; done) | (simp [Fr.may]; omega))
  clear S; intro h4 S
  refine st_condF S rfl ?_
  refine wp_region_lit ?_
  refine st_run [2, 1] S M rfl (by kernel_rfl) ?_; clear S a; intro a S
  refine st_call (xs := [(Operand.tmp 10)]) S (enters_of Try.func30 (by decide) rfl) rfl rfl rfl (incarnation_any _ _) ?_
  rintro _ w3 ⟨rfl, hK⟩; refine ⟨_, rfl, ?_⟩; clear S a; intro a S; replace M := M.grow hK
  refine st_go [1, 1] S rfl (by kernel_rfl) ?_; clear S a; intro a S
  refine nxC ?_
  refine st_if (t := 4) S rfl ?_ ?_
  · clear S; intro h4 S
    refine st_condT S rfl ?_
    refine wp_exit ?_
    refine block_hit ?_
    refine nxE ?_
    refine st_go [1, 1] S rfl (by kernel_rfl) ?_; clear S a; intro a S
    refine nxC ?_
    refine wp_ret ?_
    refine sc_ret ?_
    refine end_one S rfl (res_tmp rfl) ?_
    refine ⟨ret_bool ?_, M.below⟩; rw [Bool.eq_iff_iff]; (first | (simp [Fr.may]; done) | (simp [Fr.may]; omega))
  clear S; intro h4 S
  refine st_condF S rfl ?_
  refine wp_seq ?_
  refine nxD ?_
  refine st_run [4, 1, 1, 1] S M rfl (by kernel_rfl) ?_; clear S a; intro a S
  refine nxC ?_
  refine st_if (t := 13) S rfl ?_ ?_
  · clear S; intro h13 S
    refine st_condT S rfl ?_
    refine wp_skip ?_
    refine then_normal ?_
    refine st_condT S rfl ?_
    refine wp_exit ?_
    refine block_hit ?_
    refine nxE ?_
    refine st_go [1, 1] S rfl (by kernel_rfl) ?_; clear S a; intro a S
    replace S := S.sub [(0, _), (1, _), (3, _), (4, _), (13, _), (2, _)] rfl
    refine nxC ?_
    refine wp_ret ?_
    refine sc_ret ?_
    refine end_one S rfl (res_tmp rfl) ?_
    refine ⟨ret_bool ?_, M.below⟩; rw [Bool.eq_iff_iff]; (first | (simp [Fr.may]; done) | (simp [Fr.may]; omega))
  clear S; intro h13 S
  refine st_condF S rfl ?_
  refine wp_region_lit ?_
  refine st_run [4, 1, 1, 1] S M rfl (by kernel_rfl) ?_; clear S a; intro a S
  replace S := S.sub [(0, _), (1, _), (2, _), (3, _), (4, _), (13, _)] rfl
  refine nxC ?_
  refine st_if (t := 13) S rfl ?_ ?_
  · clear S; intro h13 S
    refine st_condT S rfl ?_
    refine wp_exit ?_
    refine block_hit ?_
    refine nxE ?_
    refine st_go [1, 1] S rfl (by kernel_rfl) ?_; clear S a; intro a S
    refine nxC ?_
    refine wp_ret ?_
    refine sc_ret ?_
    refine end_one S rfl (res_tmp rfl) ?_
    refine ⟨ret_bool ?_, M.below⟩; rw [Bool.eq_iff_iff]; (first | (simp [Fr.may]; done) | (simp [Fr.may]; omega))
  clear S; intro h13 S
  refine st_condF S rfl ?_
  refine wp_seq ?_
  refine nxD ?_
  refine st_run [3, 1, 1, 1] S M rfl (by kernel_rfl) ?_; clear S a; intro a S
  refine nxC ?_
  refine st_if (t := 20) S rfl ?_ ?_
  · clear S; intro h20 S
    refine st_condT S rfl ?_
    refine wp_skip ?_
    refine then_normal ?_
    refine st_condT S rfl ?_
    refine wp_exit ?_
    refine block_hit ?_
    refine nxE ?_
    refine st_go [1, 1] S rfl (by kernel_rfl) ?_; clear S a; intro a S
    refine nxC ?_
    refine wp_ret ?_
    refine sc_ret ?_
    refine end_one S rfl (res_tmp rfl) ?_
    refine ⟨ret_bool ?_, M.below⟩; rw [Bool.eq_iff_iff]; (first | (simp [Fr.may]; done) | (simp [Fr.may]; omega))
  clear S; intro h20 S
  refine st_condF S rfl ?_
  refine wp_region_lit ?_
  refine st_run [3, 1, 4, 1, 1, 1] S M rfl (by kernel_rfl) ?_; clear S a; intro a S
  refine nxC ?_
  refine st_if (t := 20) S rfl ?_ ?_
  · clear S; intro h20 S
    refine st_condT S rfl ?_
    refine wp_exit ?_
    refine block_hit ?_
    refine nxE ?_
    refine st_go [1, 1] S rfl (by kernel_rfl) ?_; clear S a; intro a S
    refine nxC ?_
    refine wp_ret ?_
    refine sc_ret ?_
    refine end_one S rfl (res_tmp rfl) ?_
    refine ⟨ret_bool ?_, M.below⟩; rw [Bool.eq_iff_iff]; (first | (simp [Fr.may]; done) | (simp [Fr.may]; omega))
  clear S; intro h20 S
  refine st_condF S rfl ?_
  refine wp_seq ?_
  refine nxD ?_
  refine st_run [6, 1] S M rfl (by kernel_rfl) ?_; clear S a; intro a S
  refine st_y S rfl rfl rfl (y_lenS (E := 5) S rfl (by kernel_rfl)) ?_; clear S a; intro a S
  refine st_go [1, 1] S rfl (by kernel_rfl) ?_; clear S a; intro a S
  refine nxC ?_
  refine st_if (t := 29) S rfl ?_ ?_
  · clear S; intro h29 S
    refine st_condT S rfl ?_
    refine wp_skip ?_
    refine then_normal ?_
    refine st_condT S rfl ?_
    refine wp_exit ?_
    refine block_hit ?_
    refine nxE ?_
    refine st_go [1, 1] S rfl (by kernel_rfl) ?_; clear S a; intro a S
    replace S := S.sub [(0, _), (1, _), (3, _), (4, _), (13, _), (20, _), (29, _), (2, _)] rfl
    refine nxC ?_
    refine wp_ret ?_
    refine sc_ret ?_
    refine end_one S rfl (res_tmp rfl) ?_
    refine ⟨ret_bool ?_, M.below⟩; rw [Bool.eq_iff_iff]; (first | (simp [Fr.may]; done) | (simp [Fr.may]; omega))
  clear S; intro h29 S
  refine st_condF S rfl ?_
  refine wp_region_lit ?_
  refine st_run [6, 1] S M rfl (by kernel_rfl) ?_; clear S a; intro a S
  refine st_y S rfl rfl rfl (y_lenS (E := 5) S rfl (by kernel_rfl)) ?_; clear S a; intro a S
  refine st_go [1, 1] S rfl (by kernel_rfl) ?_; clear S a; intro a S
  replace S := S.sub [(0, _), (1, _), (2, _), (3, _), (4, _), (13, _), (20, _), (29, _)] rfl
  refine nxC ?_
  refine st_if (t := 29) S rfl ?_ ?_
  · clear S; intro h29 S
    refine st_condT S rfl ?_
    refine wp_exit ?_
    refine block_hit ?_
    refine nxE ?_
    refine st_go [1, 1] S rfl (by kernel_rfl) ?_; clear S a; intro a S
    refine nxC ?_
    refine wp_ret ?_
    refine sc_ret ?_
    refine end_one S rfl (res_tmp rfl) ?_
    refine ⟨ret_bool ?_, M.below⟩; rw [Bool.eq_iff_iff]; (first | (simp [Fr.may]; done) | (simp [Fr.may]; omega))
  clear S; intro h29 S
  refine st_condF S rfl ?_
  refine nxD ?_
  refine st_run [3, 1, 4, 1] S M rfl (by kernel_rfl) ?_; clear S a; intro a S
  (first | refine st_y S rfl rfl rfl (y_subN S rfl rfl (by omega)) ?_ | refine st_y S rfl rfl rfl (y_int S rfl rfl rfl) ?_); clear S a; intro a S
  refine st_go [1, 1] S rfl (by kernel_rfl) ?_; clear S a; intro a S
  refine st_fi (t := 45) S rfl ?_ ?_
  · clear S; intro h45 S
    refine st_go [0, 0, 0, 0, 1, 1] S rfl (by kernel_rfl) ?_; clear S a; intro a S
    refine nxC ?_
    refine st_condF S rfl ?_
    refine wp_region_lit ?_
    refine st_go [1] S rfl (by kernel_rfl) ?_; clear S a; intro a S
    refine wpList_nil ?_
    refine block_normal ?_
    refine nxE ?_
    refine st_go [1, 1] S rfl (by kernel_rfl) ?_; clear S a; intro a S
    replace S := S.sub [(0, _), (1, _), (4, _), (13, _), (20, _), (29, _), (38, _), (3, _), (2, _)] rfl
    refine nxC ?_
    refine wp_ret ?_
    refine sc_ret ?_
    refine end_one S rfl (res_tmp rfl) ?_
    refine ⟨ret_bool ?_, M.below⟩; rw [Bool.eq_iff_iff]; (first | (simp [Fr.may]; done) | (simp [Fr.may]; omega))
  clear S; intro h45 S
  refine st_run [6, 1] S M rfl (by kernel_rfl) ?_; clear S a; intro a S
  refine st_y S rfl rfl rfl (y_lenS (E := 5) S rfl (by kernel_rfl)) ?_; clear S a; intro a S
  refine st_go [1, 1, 1] S rfl (by kernel_rfl) ?_; clear S a; intro a S
  refine nxC ?_
  refine st_if (t := 38) S rfl ?_ ?_
  · clear S; intro h38 S
    refine st_condT S rfl ?_
    refine wp_exit ?_
    refine block_hit ?_
    refine nxE ?_
    refine st_go [1, 1] S rfl (by kernel_rfl) ?_; clear S a; intro a S
    replace S := S.sub [(0, _), (1, _), (3, _), (4, _), (13, _), (20, _), (29, _), (38, _), (2, _)] rfl
    refine nxC ?_
    refine wp_ret ?_
    refine sc_ret ?_
    refine end_one S rfl (res_tmp rfl) ?_
    refine ⟨ret_bool ?_, M.below⟩; rw [Bool.eq_iff_iff]; (first | (simp [Fr.may]; done) | (simp [Fr.may]; omega))
  clear S; intro h38 S
  refine st_condF S rfl ?_
  refine wp_region_lit ?_
  refine st_go [1] S rfl (by kernel_rfl) ?_; clear S a; intro a S
  refine wpList_nil ?_
  refine block_normal ?_
  refine nxE ?_
  refine st_go [1, 1] S rfl (by kernel_rfl) ?_; clear S a; intro a S
  replace S := S.sub [(0, _), (1, _), (4, _), (13, _), (20, _), (29, _), (38, _), (3, _), (2, _)] rfl
  refine nxC ?_
  refine wp_ret ?_
  refine sc_ret ?_
  refine end_one S rfl (res_tmp rfl) ?_
  refine ⟨ret_bool ?_, M.below⟩; rw [Bool.eq_iff_iff]; (first | (simp [Fr.may]; done) | (simp [Fr.may]; omega))

end Go.Proofs.Ytafejnbfgkkjkaa
