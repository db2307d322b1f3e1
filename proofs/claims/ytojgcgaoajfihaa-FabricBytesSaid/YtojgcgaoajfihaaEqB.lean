/-
  bytes.Equal.
-/
import Derived.Test.YtojgcgaoajfihaaLe
import Derived.Test.YtojgcgaoajfihaaWs
namespace Go.Proofs.Ytojgcgaoajfihaa
open Go.RowKit Go.Sort

theorem equalB_any (v u : Value) (x y : List UInt8) (w : World) (hx : Bs 0 w.heap.size w v x) (hy : Bs 0 w.heap.size w u y) : Calls Try.prog 68 #[v, u] w fun e w' => e = .returned (.bool (x == y)) ∧ Below w.heap.size w w' := by
  have M := Mem.start w
  refine calls_enter Try.func68 rfl 10 rfl rfl ?_; intro a S
  refine nxD ?_
  refine st_go [1] S rfl (by kernel_rfl) ?_; clear S a; intro a S
  refine nxA ?_
  refine st_go [1] S rfl (by kernel_rfl) ?_; clear S a; intro a S
  refine st_y S rfl rfl rfl (y_bytesStr (e := 5) S rfl (by kernel_rfl) (by kernel_rfl) (by kernel_rfl) (M.arg hx)) ?_; clear S a; intro a S
  refine st_go [1] S rfl (by kernel_rfl) ?_; clear S a; intro a S
  refine st_y S rfl rfl rfl (y_bytesStr (e := 5) S rfl (by kernel_rfl) (by kernel_rfl) (by kernel_rfl) (M.arg hy)) ?_; clear S a; intro a S
  refine st_y S rfl rfl rfl (y_eqlStr S rfl rfl) ?_; clear S a; intro a S
  refine st_go [1] S rfl (by kernel_rfl) ?_; clear S a; intro a S
  refine nxC ?_
  refine wp_ret ?_
  refine end_one S rfl (res_tmp rfl) ?_
  exact ⟨ret_bool (strEq x y), M.below⟩


end Go.Proofs.Ytojgcgaoajfihaa
