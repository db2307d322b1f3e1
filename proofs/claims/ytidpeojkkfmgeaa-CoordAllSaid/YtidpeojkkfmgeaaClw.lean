/-
  slices.Clone of writes.
-/
import Derived.Test.YtidpeojkkfmgeaaWs
namespace Go.Proofs.Ytidpeojkkfmgeaa
open Go.RowKit Go.Sort

theorem cloneW_any (v : Value) (ws : List Wr) (w : World) (hv : Ws 0 w.heap.size w v ws) (hl : ws.length ≤ 1000000) : Calls Try.prog 40 #[v] w fun e w' => ∃ v', e = .returned v' ∧ Fresh w w' 80 9 v' ws.length (wcells ws) := by
  have M := Mem.start w
  refine calls_enter Try.func40 rfl 8 rfl rfl ?_; intro a S
  refine nxD ?_
  refine st_go [1] S rfl (by kernel_rfl) ?_; clear S a; intro a S
  refine nxC ?_
  refine wp_seq ?_
  refine nxD ?_
  refine st_go [1] S rfl (by kernel_rfl) ?_; clear S a; intro a S
  refine st_y S rfl rfl rfl (y_eqlNil (e := 80) S rfl (M.arg hv) (by kernel_rfl)) ?_; clear S a; intro a S
  refine nxC ?_
  refine st_split (t := 4) S rfl ?_ ?_
  · clear S; intro h4 S
    refine st_condT S rfl ?_
    refine nxD ?_
    refine st_go [1] S rfl (by kernel_rfl) ?_; clear S a; intro a S
    refine nxC ?_
    refine wp_ret ?_
    refine then_ret ?_
    refine end_one S rfl (res_tmp rfl) ?_
    obtain ⟨rfl, h0, h1⟩ := hv.nilV h4
    exact ⟨_, rfl, by rw [h1, h0]; exact M.freshNil _ _⟩
  clear S; intro h4 S
  refine st_condF S rfl ?_
  refine wp_skip ?_
  refine nxE ?_
  refine st_lit0 (e := 80) (sz := 9) (by_ := 16) (zc := [.int .i64 0, .int .u8 0, .int .u8 0, .int .u8 0, .int .u8 0, .int .u8 0, .int .u8 0, .int .u8 0, .int .u8 0]) S M rfl rfl (by kernel_rfl) ?_; clear S M a; intro a w1 b1 S M hB
  refine st_go [1] S rfl (by kernel_rfl) ?_; clear S a; intro a S
  replace M := M.toRow (sz := 9) (m := 0) (cap := 0) (xs := []) 0 rfl rfl (Nat.le_refl _) (Nat.zero_le _) rfl rfl
  refine st_append (e := 80) (sz := 9) (by_ := 16) (zc := [.int .i64 0, .int .u8 0, .int .u8 0, .int .u8 0, .int .u8 0, .int .u8 0, .int .u8 0, .int .u8 0, .int .u8 0]) S M 0 rfl rfl (by kernel_rfl) rfl (by decide) rfl rfl rfl (M.arg hv) (allOne_wcells _) (by omega) (by unfold maxLen; omega) ?_; clear S M a; intro a w2 vA loA hiA S M
  refine st_go [1] S rfl (by kernel_rfl) ?_; clear S a; intro a S
  refine nxC ?_
  refine wp_ret ?_
  refine end_one S rfl (res_tmp rfl) ?_
  exact ⟨_, rfl, by have := M.fresh 0 rfl; rwa [Nat.zero_add, List.nil_append] at this⟩

end Go.Proofs.Ytidpeojkkfmgeaa
