/-
  Package wire: a message's bytes (plainly), and the function that puts a number's bytes behind a captured row.
-/
import Derived.Test.YtojgcgaoajfihaaWc
import Derived.Test.YtojgcgaoajfihaaRp
namespace Go.Proofs.Ytojgcgaoajfihaa
open Go.RowKit Go.Sort

theorem leB_succ (n : Int) (k : Nat) : leB n (k + 1) = leB n k ++ [byteOf (n / 256 ^ k)] := by simp [leB, List.range_succ]
theorem leB_shift (n : Int) (j : Nat) : n / 256 ^ j / 2 ^ (8 : Int).toNat = n / 256 ^ (j + 1) := by
  rw [show (2 : Int) ^ (8 : Int).toNat = 256 from rfl, Int.ediv_ediv_of_nonneg (Int.le_of_lt (Int.pow_pos (by omega))), Int.pow_succ]

set_option maxHeartbeats 1000000 in
theorem putC_any (n : Int) (k : Nat) (B lo hi : Nat) (u : Value) (bs : List UInt8) (H : List Ent) (wc w : World) (hb : bs.length ≤ 100000) (hk : k ≤ 6) (M : Mem wc w (.blk B #[u] 25 :: rowE lo hi 5 1 u bs.length (bcells bs) :: H)) :
    Calls Try.prog 31 #[.int .i64 n, .int .i64 (k : Int), .pointer (some ⟨B, 0, none⟩)] w fun e w' => ∃ u' lo' hi', e = .returned (.tuple #[]) ∧ Mem wc w' (.blk B #[u'] 25 :: rowE lo' hi' 5 1 u' (bs ++ leB n k).length (bcells (bs ++ leB n k)) :: H) := by
  refine calls_enter Try.func31 rfl 16 rfl rfl ?_; intro a S
  refine wp_seq ?_
  skip
  refine wp_region_lit ?_
  refine st_go [1, 1] S rfl (by kernel_rfl) ?_; clear S a; intro a S
  refine nxC ?_
  refine wp_block ?_
  refine wp_loop_g (fun m a w' => ∃ (j : Nat) (u : Value) (lo hi : Nat), j ≤ k ∧ m = k - j ∧ Sees 16 a [(0, .int .i64 (n / 256 ^ j)), (2, .pointer (some ⟨B, 0, none⟩)), (5, .int .i64 (k : Int)), (6, .int .i64 (j : Int))] ∧ Mem wc w' (.blk B #[u] 25 :: rowE lo hi 5 1 u (bs ++ leB n j).length (bcells (bs ++ leB n j)) :: H)) (k) ?_ ?_
  · skip
    exact ⟨0, u, lo, hi, Nat.zero_le _, rfl, by simpa using S.sub [(0, _), (2, _), (5, _), (6, _)] rfl, by simpa [leB] using M⟩
  clear S M a; intro m a wl
  clear u lo hi
  rintro ⟨j, u, lo, hi, hj, rfl, S, M⟩
  have hlen : (bs ++ leB n j).length ≤ 100010 := by simp only [List.length_append, leB_length]; omega
  refine nxD ?_
  refine st_go [1] S rfl (by kernel_rfl) ?_; clear S a; intro a S
  refine nxC ?_
  refine wp_seq ?_
  refine st_fi (t := 7) S rfl ?_ ?_
  · clear S; intro h7 S
    refine st_condF S rfl ?_
    refine wp_exit ?_
    refine then_exit ?_
    refine then_exit ?_
    refine block_hit ?_
    refine end_noneN S rfl ?_
    obtain rfl : j = k := by omega
    exact ⟨u, lo, hi, rfl, M⟩
  clear S; intro h7 S
  refine st_condT S rfl ?_
  refine wp_skip ?_
  refine then_normal ?_
  refine wp_seq ?_
  refine wp_block ?_
  refine nxD ?_
  refine st_run [1, 1] S M rfl (by kernel_rfl) ?_; clear S a; intro a S
  refine st_y S rfl rfl rfl (y_to8 S rfl (by kernel_rfl) (by kernel_rfl)) ?_; clear S a; intro a S
  refine st_lit (ps := [(0, (Operand.tmp 10))]) (e := 5) (sz := 1) (zl := [.int .u8 0]) (cs := [_]) S M rfl rfl (by kernel_rfl) rfl (rfl) ?_; clear S M a; intro a w1 bL S M hB
  refine st_append (e := 5) (sz := 1) (by_ := 1) (zc := [.int .u8 0]) S M 2 rfl rfl (by kernel_rfl) rfl (by decide) rfl rfl rfl (show Rd _ _ _ 1 _ 1 (bcells [byteOf (n / 256 ^ j)]) from Rd.of_blk (M.blk 0 rfl) rfl (Nat.le_refl _) (by unfold maxLen; omega) rfl) (rfl) (by omega) (by unfold maxLen; omega) ?_; clear S M a; intro a w2 vA loA hiA S M
  obtain ⟨aA, cA, rfl, -, -⟩ := (M.readAll 0 rfl (by unfold maxLen; omega)).form
  refine st_store (sz := 1) (us := [_]) S M 2 rfl (by kernel_rfl) rfl rfl rfl rfl rfl rfl (by first | decide | (simp; done) | (simp; omega)) ?_; clear M; intro w3 M
  simp only [putL, List.set_cons_zero, List.set_cons_succ, Nat.reduceAdd] at M
  refine nxB ?_
  refine st_go [1] S rfl (by kernel_rfl) ?_; clear S a; intro a S
  (first | refine st_y S rfl rfl rfl (y_shrN S rfl rfl (by omega)) ?_ | refine st_y S rfl rfl rfl (y_shr S rfl rfl (by omega)) ?_); clear S a; intro a S
  refine st_go [1] S rfl (by kernel_rfl) ?_; clear S a; intro a S
  refine wpList_nil ?_
  refine block_normal ?_
  refine nxF ?_
  (first | refine st_y S rfl rfl rfl (y_addN S rfl rfl (by omega)) ?_ | refine st_y S rfl rfl rfl (y_int S rfl rfl rfl) ?_); clear S a; intro a S
  refine st_go [1] S rfl (by kernel_rfl) ?_; clear S a; intro a S
  refine nxC ?_
  replace M := M.drop 1
  simp only [List.eraseIdx_cons_succ, List.eraseIdx_cons_zero] at M
  replace M := M.front 1 rfl
  simp only [List.eraseIdx_cons_succ, List.eraseIdx_cons_zero] at M
  refine ⟨k - (j + 1), by omega, j + 1, .slice aA ((bs ++ leB n j).length + 1) cA, loA, hiA, by omega, rfl, ?_, ?_⟩
  · rw [← leB_shift]; exact S.sub _ rfl
  · rw [leB_succ, ← List.append_assoc]
    rw [bcells_append, List.length_append (bs := [byteOf (n / 256 ^ j)])]; exact M
theorem put_at (n K : Int) (k : Nat) (B lo hi : Nat) (u : Value) (bs : List UInt8) (H : List Ent) (wc w : World) (M : Mem wc w (.blk B #[u] 25 :: rowE lo hi 5 1 u bs.length (bcells bs) :: H)) (hK : K = (k : Int)) (hk : k ≤ 6) (hb : bs.length ≤ 100000) :
    Calls Try.prog 31 #[.int .i64 n, .int .i64 K, .pointer (some ⟨B, 0, none⟩)] w fun e w' => ∃ u' lo' hi', e = .returned (.tuple #[]) ∧ Mem wc w' (.blk B #[u'] 25 :: rowE lo' hi' 5 1 u' (bs ++ leB n k).length (bcells (bs ++ leB n k)) :: H) := by
  subst hK; exact putC_any n k B lo hi u bs H wc w hb hk M

end Go.Proofs.Ytojgcgaoajfihaa
