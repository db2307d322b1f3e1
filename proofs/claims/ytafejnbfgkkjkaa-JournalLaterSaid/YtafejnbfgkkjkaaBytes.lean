/-
  Package bytes: Clone, Equal.
-/
import Derived.Test.YtafejnbfgkkjkaaGV
namespace Go.Proofs.Ytafejnbfgkkjkaa
open Go.RowKit Go.Sort

theorem clone_any (v : Value) (bs : List UInt8) (w : World) (hv : Bs 0 w.heap.size w v bs) (hl : bs.length ≤ 140737488351232) : Calls Try.prog 32 #[v] w fun e w' => ∃ v', e = .returned v' ∧ Fresh w w' 5 1 v' bs.length (bcells bs) := by
  have M := Mem.start w
  refine calls_enter Try.func32 rfl 8 rfl rfl ?_; intro a S
  refine nxD ?_
  refine st_go [1] S rfl (by kernel_rfl) ?_; clear S a; intro a S
  refine nxC ?_
  refine wp_seq ?_
  refine nxD ?_
  refine st_go [1] S rfl (by kernel_rfl) ?_; clear S a; intro a S
  refine st_y S rfl rfl rfl (y_eqlNil (e := 5) S rfl (M.arg hv) (by kernel_rfl)) ?_; clear S a; intro a S
  refine nxC ?_
  refine st_split (t := 4) S rfl ?_ ?_
  · clear S; intro h4 S
    refine st_condT S rfl ?_
    refine nxD ?_
    refine st_go [1] S rfl (by kernel_rfl) ?_; clear S a; intro a S
    refine nxC ?_
    refine wp_ret ?_
    refine then_ret ?_
    refine end_one S rfl (res_tmp rfl) ?_
    obtain ⟨rfl, h0, h1⟩ := hv.nilV h4
    exact ⟨_, rfl, by rw [h1, h0]; exact M.freshNil _ _⟩
  clear S; intro h4 S
  refine st_condF S rfl ?_
  refine wp_skip ?_
  refine nxE ?_
  refine st_lit0 (e := 5) (sz := 1) (by_ := 1) (zc := [.int .u8 0]) S M rfl rfl (by kernel_rfl) ?_; clear S M a; intro a w1 b1 S M hB
  refine st_go [1] S rfl (by kernel_rfl) ?_; clear S a; intro a S
  replace M := M.toRow (sz := 1) (m := 0) (cap := 0) (xs := []) 0 rfl rfl (Nat.le_refl _) (Nat.zero_le _) rfl rfl
  refine st_append (e := 5) (sz := 1) (by_ := 1) (zc := [.int .u8 0]) S M 0 rfl rfl (by kernel_rfl) rfl (by decide) rfl rfl rfl (M.arg hv) (allOne_bcells _) (by omega) (by unfold maxLen; omega) ?_; clear S M a; intro a w2 vA loA hiA S M
  refine st_go [1] S rfl (by kernel_rfl) ?_; clear S a; intro a S
  refine nxC ?_
  refine wp_ret ?_
  refine end_one S rfl (res_tmp rfl) ?_
  exact ⟨_, rfl, by have := M.fresh 0 rfl; rwa [Nat.zero_add, List.nil_append] at this⟩

theorem equal_any (v v' : Value) (bs cs : List UInt8) (w : World) (hv : Bs 0 w.heap.size w v bs) (hv' : Bs 0 w.heap.size w v' cs) : Calls Try.prog 57 #[v, v'] w fun e w' => e = .returned (.bool (bs == cs)) ∧ Below w.heap.size w w' := by
  have M := Mem.start w
  refine calls_enter Try.func57 rfl 10 rfl rfl ?_; intro a S
  refine nxD ?_
  refine st_go [1] S rfl (by kernel_rfl) ?_; clear S a; intro a S
  refine nxA ?_
  refine st_go [1] S rfl (by kernel_rfl) ?_; clear S a; intro a S
  refine st_y S rfl rfl rfl (y_bytesStr (e := 5) S rfl (by kernel_rfl) (by kernel_rfl) (by kernel_rfl) (M.arg hv)) ?_; clear S a; intro a S
  refine st_go [1] S rfl (by kernel_rfl) ?_; clear S a; intro a S
  refine st_y S rfl rfl rfl (y_bytesStr (e := 5) S rfl (by kernel_rfl) (by kernel_rfl) (by kernel_rfl) (M.arg hv')) ?_; clear S a; intro a S
  refine st_y S rfl rfl rfl (y_eqlStr S rfl rfl) ?_; clear S a; intro a S
  refine st_go [1] S rfl (by kernel_rfl) ?_; clear S a; intro a S
  refine nxC ?_
  refine wp_ret ?_
  refine end_one S rfl (res_tmp rfl) ?_
  exact ⟨ret_bool (strEq _ _), M.below⟩

end Go.Proofs.Ytafejnbfgkkjkaa
