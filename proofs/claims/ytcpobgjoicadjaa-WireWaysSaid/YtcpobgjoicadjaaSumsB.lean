/-
  Package sums: run, Sum; the document's remainder, Join, Sum: the same numbers.
-/
import Derived.Test.YtcpobgjoicadjaaSums
import Derived.Test.YtcpobgjoicadjaaV8
namespace Go.Proofs.Ytcpobgjoicadjaa
open Go.RowKit Go.Sort

/-- a remainder with half a byte taken in, by the table -/
def halfT (r : BitVec 32) : BitVec 32 := stepN 4 (BitVec.ofNat 32 (r &&& 15#32).toNat) ^^^ (r >>> 4)
def byteT (r : BitVec 32) (b : UInt8) : BitVec 32 := halfT (halfT (r ^^^ BitVec.ofInt 32 (b.toNat : Int)))
def runT (r : BitVec 32) (bs : List UInt8) : BitVec 32 := bs.foldl byteT r
def sumT (bs : List UInt8) : BitVec 32 := ~~~ runT 4294967295#32 bs

theorem and15 (r : BitVec 32) : (r &&& 15#32).toNat < 16 := by
  rw [BitVec.toNat_and]
  exact Nat.lt_of_le_of_lt Nat.and_le_right (by decide)
theorem htab_get (i : Nat) (h : i < 16) : (htab 16).toArray[i]? = some (.int .u32 ((stepN 4 (BitVec.ofNat 32 i)).toNat : Int)) := by
  simp [htab, h]

theorem run_any (r : BitVec 32) (v : Value) (bs : List UInt8) (w : World) (hv : Bs 0 w.heap.size w v bs) : Calls Try.prog 51 #[.int .u32 (r.toNat : Int), v] w fun e w' => e = .returned (.int .u32 ((runT r bs).toNat : Int)) ∧ Below w.heap.size w w' := by
  have M := Mem.start w
  have hl := hv.2.1
  unfold maxLen at hl
  refine calls_enter Try.func51 rfl 36 rfl rfl ?_; intro a S
  refine wp_seq ?_
  -- region 0 sums.go:33
  refine wp_region_lit ?_
  refine st_y S rfl rfl rfl (y_assign S rfl) ?_; clear S a; intro a S
  refine wpList_nil ?_
  replace S := S.sub [(0, _), (1, _), (4, _)] rfl
  refine then_normal ?_
  refine wp_seq ?_
  -- region 1 sums.go:34
  refine wp_region_lit ?_
  refine st_call (xs := []) S (enters_of Try.func64 (by decide) rfl) rfl rfl rfl (halves_any _) ?_
  rintro _ w1 ⟨rfl, hK⟩; refine ⟨_, rfl, ?_⟩; clear S a; intro a S; replace M := M.grow hK
  refine st_alloc S M rfl rfl #[.int .u32 0, .int .u32 0, .int .u32 0, .int .u32 0, .int .u32 0, .int .u32 0, .int .u32 0, .int .u32 0, .int .u32 0, .int .u32 0, .int .u32 0, .int .u32 0, .int .u32 0, .int .u32 0, .int .u32 0, .int .u32 0] (by kernel_rfl) ?_; clear S M a; intro a w2 b1 S M hB
  refine st_store (sz := 16) (us := [_, _, _, _, _, _, _, _, _, _, _, _, _, _, _, _]) S M 0 rfl (by kernel_rfl) rfl rfl rfl rfl rfl rfl (by first | decide | (simp; done) | (simp; omega)) ?_; clear M; intro w3 M
  simp only [putL, List.set_cons_zero, List.set_cons_succ, Nat.reduceAdd] at M
  refine wpList_nil ?_
  replace S := S.sub [(0, _), (1, _), (4, _), (5, _)] rfl
  refine then_normal ?_
  refine wp_seq ?_
  refine wp_seq ?_
  -- region 2 sums.go:35
  refine wp_region_lit ?_
  refine st_y S rfl rfl rfl (y_assign S rfl) ?_; clear S a; intro a S
  refine wpList_nil ?_
  replace S := S.sub [(0, _), (1, _), (4, _), (5, _), (6, _)] rfl
  refine then_normal ?_
  refine wp_block ?_
  refine wp_loop_g (fun m a w' => ∃ (k : Nat), k ≤ bs.length ∧ m = bs.length - k ∧ Sees 36 a [(0, .int .u32 ((runT r (bs.take k)).toNat : Int)), (1, v), (5, .pointer (some ⟨b1, 0, none⟩)), (6, .int .i64 (k : Int))] ∧ Mem w w' [.blk b1 (htab 16).toArray 97]) (bs.length) ?_ ?_
  · skip
    exact ⟨0, by omega, rfl, S.sub _ rfl, M⟩
  · clear S M a; intro m a wl
    rintro ⟨k, hk, rfl, S, M⟩
    refine wp_seq ?_
    refine wp_seq ?_
    -- region 3 sums.go:35
    refine wp_region_lit ?_
    refine st_y S rfl rfl rfl (y_move S rfl) ?_; clear S a; intro a S
    refine st_y S rfl rfl rfl (y_move S rfl) ?_; clear S a; intro a S
    refine st_y S rfl rfl rfl (y_lenR (E := 5) S rfl (M.arg hv) (by kernel_rfl)) ?_; clear S a; intro a S
    refine st_y S rfl rfl rfl (y_int S rfl rfl rfl) ?_; clear S a; intro a S
    refine wpList_nil ?_
    replace S := S.sub [(0, _), (1, _), (5, _), (6, _), (11, _)] rfl
    refine then_normal ?_
    refine st_split (t := 11) S rfl ?_ ?_
    · clear S; intro h11 S
      first | replace h11 := nrmA h11 | replace h11 := nrmB h11 | skip
      first | replace h11 := nrm1 h11 | replace h11 := nrm2 h11 | replace h11 := nrm3 h11 | replace h11 := nrm4 h11 | replace h11 := nrm5 h11 | replace h11 := nrm6 h11 | replace h11 := of_decide_eq_true h11 | replace h11 := of_decide_eq_false h11 | skip
      refine st_condT S rfl ?_
      refine wp_skip ?_
      refine then_normal ?_
      refine wp_seq ?_
      refine wp_block ?_
      refine wp_seq ?_
      -- region 5 sums.go:36
      refine wp_region_lit ?_
      have hk' : k < bs.length := by omega
      obtain ⟨x, hx⟩ : ∃ x, bs[k]? = some x := ⟨bs[k], List.getElem?_eq_getElem hk'⟩
      refine st_y S rfl rfl rfl (y_move S rfl) ?_; clear S a; intro a S
      refine st_y S rfl rfl rfl (y_move S rfl) ?_; clear S a; intro a S
      refine st_y S rfl rfl rfl (y_move S rfl) ?_; clear S a; intro a S
      refine st_y S rfl rfl rfl (y_indexR (e := 5) (sz := 1) S (by kernel_rfl) rfl (M.arg hv) rfl (by first | omega | (simp; done) | (simp; omega))) ?_; clear S a; intro a S
      try simp only [Int.toNat_natCast, Nat.mul_one, Nat.zero_add] at S
      refine st_y S rfl rfl rfl (y_load S (by kernel_rfl) rfl ((M.arg hv).byte hx)) ?_; clear S a; intro a S
      refine st_y S rfl rfl rfl (y_to32 S rfl (by kernel_rfl) (by kernel_rfl)) ?_; clear S a; intro a S
      refine st_y S rfl rfl rfl (y_xor32 S rfl rfl) ?_; clear S a; intro a S
      refine st_y S rfl rfl rfl (y_assign S rfl) ?_; clear S a; intro a S
      refine wpList_nil ?_
      replace S := S.sub [(1, _), (5, _), (6, _), (11, _), (0, _)] rfl
      refine then_normal ?_
      refine wp_seq ?_
      -- region 6 sums.go:37
      refine wp_region_lit ?_
      refine st_y S rfl rfl rfl (y_move S rfl) ?_; clear S a; intro a S
      refine st_y S rfl rfl rfl (y_and32 (q := 15#32) S rfl rfl) ?_; clear S a; intro a S
      have h15 := and15 (runT r (List.take k bs) ^^^ BitVec.ofInt 32 ↑x.toNat)
      refine st_y S rfl rfl rfl (y_indexA (m := 16) (sz := 1) S (by kernel_rfl) rfl rfl (by first | omega | (simp; done) | (simp; omega))) ?_; clear S a; intro a S
      try simp only [Int.toNat_natCast, Nat.mul_one, Nat.zero_add] at S
      refine st_y S rfl rfl rfl (y_load S (by kernel_rfl) rfl (M.cell 0 rfl (htab_get _ h15))) ?_; clear S a; intro a S
      refine st_y S rfl rfl rfl (y_move S rfl) ?_; clear S a; intro a S
      refine st_y S rfl rfl rfl (y_shr32 (k := 4) S rfl rfl) ?_; clear S a; intro a S
      refine st_y S rfl rfl rfl (y_xor32 S rfl rfl) ?_; clear S a; intro a S
      refine st_y S rfl rfl rfl (y_assign S rfl) ?_; clear S a; intro a S
      refine wpList_nil ?_
      replace S := S.sub [(1, _), (5, _), (6, _), (11, _), (0, _)] rfl
      refine then_normal ?_
      -- region 7 sums.go:38
      refine wp_region_lit ?_
      refine st_y S rfl rfl rfl (y_move S rfl) ?_; clear S a; intro a S
      refine st_y S rfl rfl rfl (y_and32 (q := 15#32) S rfl rfl) ?_; clear S a; intro a S
      have h15' := and15 (halfT (runT r (List.take k bs) ^^^ BitVec.ofInt 32 ↑x.toNat))
      unfold halfT at h15'
      refine st_y S rfl rfl rfl (y_indexA (m := 16) (sz := 1) S (by kernel_rfl) rfl rfl (by first | omega | (simp; done) | (simp; omega))) ?_; clear S a; intro a S
      try simp only [Int.toNat_natCast, Nat.mul_one, Nat.zero_add] at S
      refine st_y S rfl rfl rfl (y_load S (by kernel_rfl) rfl (M.cell 0 rfl (htab_get _ h15'))) ?_; clear S a; intro a S
      refine st_y S rfl rfl rfl (y_move S rfl) ?_; clear S a; intro a S
      refine st_y S rfl rfl rfl (y_shr32 (k := 4) S rfl rfl) ?_; clear S a; intro a S
      refine st_y S rfl rfl rfl (y_xor32 S rfl rfl) ?_; clear S a; intro a S
      refine st_y S rfl rfl rfl (y_assign S rfl) ?_; clear S a; intro a S
      refine wpList_nil ?_
      replace S := S.sub [(1, _), (5, _), (6, _), (11, _), (0, _)] rfl
      refine block_normal ?_
      refine then_normal ?_
      -- region 4 sums.go:35
      refine wp_region_lit ?_
      refine st_y S rfl rfl rfl (y_move S rfl) ?_; clear S a; intro a S
      (first | refine st_y S rfl rfl rfl (y_addN S rfl rfl (by omega)) ?_ | refine st_y S rfl rfl rfl (y_int S rfl rfl rfl) ?_); clear S a; intro a S
      refine st_y S rfl rfl rfl (y_assign S rfl) ?_; clear S a; intro a S
      refine wpList_nil ?_
      replace S := S.sub [(1, _), (5, _), (11, _), (0, _), (6, _)] rfl
      refine then_normal ?_
      refine ⟨bs.length - (k + 1), by omega, k + 1, by omega, rfl, ?_, M⟩
      have e : runT r (bs.take (k + 1)) = byteT (runT r (bs.take k)) x := by
        rw [List.take_succ_eq_append_getElem hk', runT, List.foldl_append]
        rw [List.getElem?_eq_getElem hk'] at hx
        rw [← Option.some.inj hx]; rfl
      rw [e]
      exact S.sub _ rfl
    · clear S; intro h11 S
      first | replace h11 := nrmA h11 | replace h11 := nrmB h11 | skip
      first | replace h11 := nrm1 h11 | replace h11 := nrm2 h11 | replace h11 := nrm3 h11 | replace h11 := nrm4 h11 | replace h11 := nrm5 h11 | replace h11 := nrm6 h11 | replace h11 := of_decide_eq_true h11 | replace h11 := of_decide_eq_false h11 | skip
      refine st_condF S rfl ?_
      refine wp_exit ?_
      refine then_exit ?_
      refine then_exit ?_
      refine block_hit ?_
      refine then_normal ?_
      refine wp_seq ?_
      -- region 8 sums.go:40
      refine wp_region_lit ?_
      refine st_y S rfl rfl rfl (y_move S rfl) ?_; clear S a; intro a S
      refine st_y S rfl rfl rfl (y_assign S rfl) ?_; clear S a; intro a S
      refine wpList_nil ?_
      replace S := S.sub [(0, _), (1, _), (5, _), (6, _), (11, _), (4, _)] rfl
      refine then_normal ?_
      refine wp_ret ?_
      refine end_one S rfl (res_tmp rfl) ?_
      obtain rfl : k = bs.length := by omega
      rw [List.take_length]
      exact ⟨rfl, M.below⟩

theorem sum_any (v : Value) (bs : List UInt8) (w : World) (hv : Bs 0 w.heap.size w v bs) : Calls Try.prog 39 #[v] w fun e w' => e = .returned (.int .u32 ((sumT bs).toNat : Int)) ∧ Below w.heap.size w w' := by
  have M := Mem.start w
  refine calls_enter Try.func39 rfl 6 rfl rfl ?_; intro a S
  refine wp_seq ?_
  -- region 0 sums.go:44
  refine wp_region_lit ?_
  refine st_y S rfl rfl rfl (y_assign S rfl) ?_; clear S a; intro a S
  refine wpList_nil ?_
  replace S := S.sub [(0, _), (2, _)] rfl
  refine then_normal ?_
  refine wp_seq ?_
  -- region 1 sums.go:45
  refine wp_region_lit ?_
  refine st_y S rfl rfl rfl (y_move S rfl) ?_; clear S a; intro a S
  refine st_call (xs := [(Operand.const (Value.int IntKind.u32 4294967295)), (Operand.tmp 3)]) S (enters_of Try.func51 (by decide) rfl) rfl rfl rfl (run_any 4294967295#32 v bs _ (M.argW hv)) ?_
  rintro _ w1 ⟨rfl, hK⟩; refine ⟨_, rfl, ?_⟩; clear S a; intro a S; replace M := M.grow hK
  refine st_y S rfl rfl rfl (y_compl32 S rfl) ?_; clear S a; intro a S
  refine st_y S rfl rfl rfl (y_assign S rfl) ?_; clear S a; intro a S
  refine wpList_nil ?_
  replace S := S.sub [(0, _), (2, _)] rfl
  refine then_normal ?_
  refine wp_ret ?_
  refine end_one S rfl (res_tmp rfl) ?_
  exact ⟨rfl, M.below⟩

end Go.Proofs.Ytcpobgjoicadjaa
