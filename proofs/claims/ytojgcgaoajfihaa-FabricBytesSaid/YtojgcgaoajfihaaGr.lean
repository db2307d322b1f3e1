/-
  ref15: Great.
-/
import Derived.Test.YtojgcgaoajfihaaWc
namespace Go.Proofs.Ytojgcgaoajfihaa
open Go.RowKit Go.Sort

theorem great15_any (m : Msg) (ad : Option Addr) (l c : Nat) (w : World) : Calls Try.prog 12 #[.agg (m.cells (.slice ad l c))] w fun e w' => e = .returned (.bool (decide ((40 : Int) < (l : Int)))) ∧ Below w.heap.size w w' := by
  have M := Mem.start w
  refine calls_enter Try.func12 rfl 7 rfl rfl ?_; intro a S
  refine nxD ?_
  refine st_box S M rfl rfl rfl #[_, _, _, _, _, _, _, _, _, _, _, _, _, _, _, _, _, _, _, _, _, _, _, _] rfl ?_; clear S M a; intro a w1 b1 S M hB
  refine st_go [1] S rfl (by kernel_rfl) ?_; clear S a; intro a S
  refine nxA ?_
  refine st_run [24, 1] S M rfl (by kernel_rfl) ?_; clear S a; intro a S
  refine st_y S rfl rfl rfl (y_lenS (E := 72) S rfl (by kernel_rfl)) ?_; clear S a; intro a S
  refine st_go [1, 1] S rfl (by kernel_rfl) ?_; clear S a; intro a S
  refine nxC ?_
  refine wp_ret ?_
  refine end_one S rfl (res_tmp rfl) ?_
  exact ⟨rfl, M.below⟩


end Go.Proofs.Ytojgcgaoajfihaa
