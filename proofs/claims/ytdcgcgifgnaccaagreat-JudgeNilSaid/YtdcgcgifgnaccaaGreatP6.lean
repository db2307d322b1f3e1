/-
  What JudgeNil rests on, part 6.
-/
import Derived.Test.YtdcgcgifgnaccaaGreatP5
namespace Go.Proofs.YtdcgcgifgnaccaaGreat
open Go.RowKit Go.Sort
theorem least_any (x y : Int) (w : World) : Calls Tryz.prog 237 #[.int .i64 x, .int .i64 y] w fun e w' => e = .returned (.int .i64 (min x y)) ∧ Below w.heap.size w w' := by
 have M := Mem.start w
 refine qI Tryz.func237 10 ?_; intro a S
 refine nxD (qG [1] S ?_); intro a S
 refine nxC (wp_seq (nxD (qG [1, 1, 1] S ?_))); intro a S
 refine nxC (qi 7 S ?_ ?_)
 ·intro h7 S
  refine cT S (nxD (qG [1, 1] S ?_)); intro a S
  refine nxC (wp_ret (then_ret (qO S ?_)))
  refine ⟨?_, M.below⟩; congr 2; omega
 intro h7 S
 refine cF S (wp_skip (nxE (qG [1, 1] S ?_))); intro a S
 refine nxC (wp_ret (qO S ?_))
 refine ⟨?_, M.below⟩; congr 2; omega
theorem most_any (x y : Int) (w : World) : Calls Tryz.prog 296 #[.int .i64 x, .int .i64 y] w fun e w' => e = .returned (.int .i64 (max x y)) ∧ Below w.heap.size w w' := by
 have M := Mem.start w
 refine qI Tryz.func296 10 ?_; intro a S
 refine nxD (qG [1] S ?_); intro a S
 refine nxC (wp_seq (nxD (qG [1, 1, 1] S ?_))); intro a S
 refine nxC (qi 7 S ?_ ?_)
 ·intro h7 S
  refine cT S (nxD (qG [1, 1] S ?_)); intro a S
  refine nxC (wp_ret (then_ret (qO S ?_)))
  refine ⟨?_, M.below⟩; congr 2; omega
 intro h7 S
 refine cF S (wp_skip (nxE (qG [1, 1] S ?_))); intro a S
 refine nxC (wp_ret (qO S ?_))
 refine ⟨?_, M.below⟩; congr 2; omega
theorem withinK_any (n : Int) (w : World) : Calls Tryz.prog 216 #[.int .i64 n] w fun e w' => e = .returned (.bool (decide (1 ≤ n ∧ n ≤ 1048577))) ∧ Below w.heap.size w w' := by
 have M := Mem.start w
 refine qI Tryz.func216 8 ?_; intro a S
 refine nxD (qG [1] S ?_); intro a S
 refine nxA (qG [1] S ?_); intro a S
 refine qQ (xs := [.tmp 3, .const (.int .i64 1048577)]) S (qE Tryz.func237) rfl (least_any _ _ _) M ?_; intro a w1 S hK M
 refine qQ (xs := [.const (.int .i64 1), .tmp 4]) S (qE Tryz.func296) rfl (most_any _ _ _) M ?_; intro a w2 S hK M
 refine qG [1, 1, 1] S ?_; intro a S
 refine nxC (wp_ret (qO S ?_))
 refine ⟨ret_bool ?_, M.below⟩; clear S M; rw [Bool.eq_iff_iff]; simp only [decide_eq_true_eq, beq_iff_eq]; omega
def stOk (n b : Int) : Prop := 1 ≤ n ∧ n ≤ b ∧ b ≤ 1048577
theorem mayT_any (n b : Int) (h : stOk n b) (w : World) : Calls Tryz.prog 144 #[.agg #[.int .i64 n, .int .i64 b]] w fun e w' => e = .returned (.bool true) ∧ Below w.heap.size w w' := by
 have M := Mem.start w
 unfold stOk at h
 refine qI Tryz.func144 18 ?_; intro a S
 refine nxD (st_box S M rfl rfl rfl #[_, _] rfl ?_); intro a w1 b1 S M hB
 refine qG [1] S ?_; intro a S
 refine nxA (qR [1, 1] S M ?_); intro a S
 refine qQ (xs := [.tmp 4]) S (qE Tryz.func216) rfl (withinK_any _ _) M ?_; intro a w2 S hK M
 refine qG [1] S ?_; intro a S
 refine qf 6 S ?_ ?_
 ·intro h6 S
  exfalso; simp at h6; omega
 intro h6 S
 refine qR [2, 1] S M ?_; intro a S
 refine qQ (xs := [.tmp 8]) S (qE Tryz.func216) rfl (withinK_any _ _) M ?_; intro a w3 S hK M
 refine qG [1, 1] S ?_; intro a S
 refine qf 11 S ?_ ?_
 ·intro h11 S
  exfalso; simp at h11; omega
 intro h11 S
 refine qR [1, 1, 2, 1, 1, 1, 1] S M ?_; intro a S
 replace S := S.keep [0, 1, 2]
 refine nxC (wp_ret (qO S ?_))
 refine ⟨ret_bool ?_, M.below⟩; simp; omega
theorem newT_any (b : Int) (h : 1 ≤ b ∧ b ≤ 1048577) (w : World) : Calls Tryz.prog 111 #[.int .i64 b] w fun e w' => e = .returned (.tuple #[.agg #[.int .i64 b, .int .i64 b], .int .i64 0]) ∧ Below w.heap.size w w' := by
 have M := Mem.start w
 refine qI Tryz.func111 13 ?_; intro a S
 refine nxD (qN S M #[.int .i64 0, .int .i64 0] ?_); intro a w1 b1 S M hB
 refine qG [1] S ?_; intro a S
 refine nxA (qG [1, 1] S ?_); intro a S
 refine qY S (y_build (ps := [(0, .tmp 5), (1, .tmp 6)]) (pl := [(0, 1), (1, 1)]) (z := [.int .i64 0, .int .i64 0]) (cs := [_, _]) S (by kernel_rfl) rfl (rfl)) ?_; intro a S
 refine qN S M #[.int .i64 0, .int .i64 0] ?_; intro a w2 b2 S M hB
 refine qS (sz := 2) (us := [_, _]) S M 0 ?_; intro w3 M
 refine nxC (wp_seq (nxD (qY S (qL2 S M 0) ?_))); intro a S
 refine qQ (xs := [.tmp 8]) S (qE Tryz.func144) rfl (mayT_any b b ⟨h.1, Int.le_refl _, h.2⟩ _) M ?_; intro a w4 S hK M
 refine qG [1] S ?_; intro a S
 refine nxC (qi 10 S ?_ ?_)
 ·intro h10 S
  cases h10
 intro h10 S
 refine cF S (wp_skip (nxE (qY S (qL2 S M 0) ?_))); intro a S
 refine qS (sz := 2) (us := [_, _]) S M 1 ?_; intro w5 M
 refine qG [1] S ?_; intro a S
 refine nxC (wp_ret (end_two S rfl (res_agg (cs := [_, _]) (by kernel_rfl) rfl rfl (M.cellsAt (k := 2) 1 rfl rfl)) (res_tmp rfl) ?_))
 exact ⟨rfl, M.below⟩
theorem newSe_any (i : Int) (h : 1 ≤ i ∧ i ≤ 1048576) (w : World) : Calls Tryz.prog 114 #[.int .i64 i] w fun e w' => e = .returned (.tuple #[.agg #[.slice none 0 0, .int .i64 0, .int .i64 i, .slice none 0 0], .int .i64 0]) ∧ Below w.heap.size w w' := by
 have M := Mem.start w
 refine qI Tryz.func114 13 ?_; intro a S
 refine nxD (qN S M #[.slice none 0 0, .int .i64 0, .int .i64 0, .slice none 0 0] ?_); intro a w1 b1 S M hB
 refine qG [1] S ?_; intro a S
 refine nxC (wp_seq (nxD (qG [1, 1, 1] S ?_))); intro a S
 refine qi 6 S ?_ ?_
 ·intro h6 S
  exfalso; omega
 intro h6 S
 refine qG [1, 1, 1] S ?_; intro a S
 refine nxC (qi 9 S ?_ ?_)
 ·intro h9 S
  exfalso; omega
 intro h9 S
 refine cF S (wp_skip (nxE (qG [1] S ?_))); intro a S
 refine qY S (y_build (ps := [(2, .tmp 11)]) (pl := [(0, 1), (1, 1), (2, 1), (3, 1)]) (z := [.slice none 0 0, .int .i64 0, .int .i64 0, .slice none 0 0]) (cs := [_, _, _, _]) S (by kernel_rfl) rfl (rfl)) ?_; intro a S
 refine qS (sz := 4) (us := [_, _, _, _]) S M 0 ?_; intro w2 M
 refine qG [1] S ?_; intro a S
 refine nxC (wp_ret (end_two S rfl (res_agg (cs := [_, _, _, _]) (by kernel_rfl) rfl rfl (M.cellsAt (k := 4) 0 rfl rfl)) (res_tmp rfl) ?_))
 exact ⟨rfl, M.below⟩
theorem newCo_any (va : Option Addr) (vc : Nat) (w : World) : Calls Tryz.prog 116 #[.slice va 0 vc] w fun e w' => e = .returned (.tuple #[.agg #[.slice none 0 0], .int .i64 0]) ∧ Below w.heap.size w w' := by
 have M := Mem.start w
 refine qI Tryz.func116 65 ?_; intro a S
 refine nxD (qN S M #[.slice none 0 0] ?_); intro a w1 bR S M hB
 refine qG [1] S ?_; intro a S
 refine nxC (wp_seq (nxD (qG [1] S ?_))); intro a S
 refine qY S (qH 273 S) ?_; intro a S
 refine qG [1] S ?_; intro a S
 refine nxC (qi 12 S ?_ ?_)
 ·intro h12 S
  exfalso; omega
 intro h12 S
 refine cF S (wp_skip (nxE (qN S M #[.slice none 0 0] ?_))); intro a w2 bC S M hB
 refine nxC (wp_seq (nxD (qG [1] S ?_))); intro a S
 refine qY S (qH 273 S) ?_; intro a S
 refine qG [1] S ?_; intro a S
 refine nxC (wp_block (wp_loop_g (fun q a w' => q = 0 ∧ Sees 65 a [(2, pB bR), (4, pB bC), (14, .slice va 0 vc), (15, .int .i64 0), (16, .int .i64 0)] ∧ Mem w w' [.blk bC #[.slice none 0 0] 94, .blk bR #[.slice none 0 0] 94]) (0) ?_ ?_))
 ·skip
  exact ⟨rfl, S.sub _ rfl, M⟩
 intro m a wl
 rintro ⟨rfl, S, M⟩
 refine nxD (qG [1] S ?_); intro a S
 refine nxC (wp_seq (qi 17 S ?_ ?_))
 ·intro h17 S
  exfalso; omega
 intro h17 S
 refine cF S (wp_exit (then_exit (then_exit (block_hit (nxE (qY S (y_loadAgg (cs := [_]) S (by kernel_rfl) rfl rfl (M.cellsAt (k := 1) 0 rfl rfl)) ?_)))))); intro a S
 refine qS (sz := 1) (us := [_]) S M 1 ?_; intro w3 M
 refine qG [1] S ?_; intro a S
 refine nxC (wp_ret (end_two S rfl (res_agg (cs := [_]) (by kernel_rfl) rfl rfl (M.cellsAt (k := 1) 1 rfl rfl)) (res_tmp rfl) ?_))
 exact ⟨rfl, M.below⟩
theorem shardIsK_any (n : Int) (h : 1 ≤ n ∧ n ≤ 4) (w : World) : Calls Tryz.prog 57 #[.int .i64 n] w fun e w' => e = .returned (.bool true) ∧ Below w.heap.size w w' := by
 have M := Mem.start w
 refine qI Tryz.func57 9 ?_; intro a S
 refine nxD (qG [1] S ?_); intro a S
 refine nxA (qG [1, 1, 1] S ?_); intro a S
 refine qi 5 S ?_ ?_
 ·intro h5 S
  refine qG [1, 1, 1, 1] S ?_; intro a S
  refine nxC (wp_ret (qO S ?_))
  refine ⟨ret_bool ?_, M.below⟩; first | (simp; done) | (simp; omega)
 intro h5 S
 refine qG [0, 0, 1, 1] S ?_; intro a S
 refine nxC (wp_ret (qO S ?_))
 refine ⟨ret_bool ?_, M.below⟩; first | (simp; done) | (simp; omega)
def firM (n : Int) : Su := ⟨0, 0, 0, 0, 0, 1 + 0 % n, 1 + 1 % n, 1 + 2 % n, 1 + 3 % n, 1 + 4 % n, 1 + 5 % n, 1 + 6 % n, 1 + 7 % n⟩
def firP (n : Int) (k : Nat) : Su := ⟨0, 0, 0, 0, 0, if 0 < k then 1 + 0 % n else 0, if 1 < k then 1 + 1 % n else 0, if 2 < k then 1 + 2 % n else 0, if 3 < k then 1 + 3 % n else 0, if 4 < k then 1 + 4 % n else 0, if 5 < k then 1 + 5 % n else 0, if 6 < k then 1 + 6 % n else 0, if 7 < k then 1 + 7 % n else 0⟩
theorem firM_ok {n : Int} (h : 1 ≤ n ∧ n ≤ 4) : (firM n).mapOk := fun k hk => by
 have e : n = 1 ∨ n = 2 ∨ n = 3 ∨ n = 4 := by omega
 rcases e with rfl | rfl | rfl | rfl <;> rcases lt8 hk with rfl | rfl | rfl | rfl | rfl | rfl | rfl | rfl <;> decide
theorem firP_next (n : Int) {k : Nat} (h : k < 8) : putL (mapL (firP n k)) k [.int .i64 (1 + (k : Int) % n)] = mapL (firP n (k + 1)) := by
 rcases lt8 h with rfl | rfl | rfl | rfl | rfl | rfl | rfl | rfl <;> rfl
theorem first_any (n : Int) (h : 1 ≤ n ∧ n ≤ 4) (w : World) : Calls Tryz.prog 44 #[.int .i64 n] w fun e w' => e = .returned (.tuple #[.agg (mapL (firM n)).toArray, .int .i64 0]) ∧ Below w.heap.size w w' := by
 have M := Mem.start w
 refine qI Tryz.func44 21 ?_; intro a S
 refine nxD (qN S M #[.int .i64 0, .int .i64 0, .int .i64 0, .int .i64 0, .int .i64 0, .int .i64 0, .int .i64 0, .int .i64 0] ?_); intro a w1 bR S M hB
 refine qG [1] S ?_; intro a S
 refine nxA (qN S M #[.int .i64 0, .int .i64 0, .int .i64 0, .int .i64 0, .int .i64 0, .int .i64 0, .int .i64 0, .int .i64 0] ?_); intro a w2 bF S M hB
 refine nxC (wp_seq (nxD (qG [1] S ?_))); intro a S
 refine qQ (xs := [.tmp 6]) S (qE Tryz.func57) rfl (shardIsK_any n h _) M ?_; intro a w3 S hK M
 refine qG [1] S ?_; intro a S
 refine nxC (qi 8 S ?_ ?_)
 ·intro h8 S
  cases h8
 intro h8 S
 refine cF S (wp_skip (then_normal (wp_seq (nxD (qG [1] S ?_))))); intro a S
 refine nxC (wp_block (wp_loop_g (fun q a w' => ∃ (k : Nat), k ≤ 8 ∧ q = 8 - k ∧ Sees 21 a [(0, .int .i64 n), (2, pB bR), (4, pB bF), (10, .int .i64 (k : Int))] ∧ Mem w w' [.blk bF (mapL (firP n k)).toArray 66, .blk bR #[.int .i64 0, .int .i64 0, .int .i64 0, .int .i64 0, .int .i64 0, .int .i64 0, .int .i64 0, .int .i64 0] 66]) (8) ?_ ?_))
 ·skip
  exact ⟨0, Nat.zero_le _, rfl, S.sub _ rfl, M⟩
 intro m a wl
 rintro ⟨k, hk, rfl, S, M⟩
 refine nxD (qG [1] S ?_); intro a S
 refine nxC (wp_seq (qf 11 S ?_ ?_))
 ·intro h11 S
  refine cF S (wp_exit (then_exit (then_exit (block_hit (then_normal (wp_seq ?_))))))
  obtain rfl : k = 8 := by omega
  refine wp_region_lit (qY S (qL8 S M 0) ?_); intro a S
  refine qS (sz := 8) (us := [_, _, _, _, _, _, _, _]) S M 1 ?_; intro w5 M
  refine qG [1] S ?_; intro a S
  refine nxC (wp_ret (end_two S rfl (res_agg (cs := [_, _, _, _, _, _, _, _]) (by kernel_rfl) rfl rfl (M.cellsAt (k := 8) 1 rfl rfl)) (res_tmp rfl) ?_))
  exact ⟨rfl, M.below⟩
 intro h11 S
 refine cT S (wp_skip (then_normal (wp_seq (wp_block (nxD (qG [1, 1] S ?_)))))); intro a S
 refine nxC ?_
 have hr1 := Int.emod_nonneg (k : Int) (show n ≠ 0 by omega)
 have hr2 := Int.emod_lt_of_pos (k : Int) (show 0 < n by omega)
 refine wp_region_lit (qG [1, 1, 1] S ?_); intro a S
 (first | refine qY S (y_remN S rfl rfl (by omega)) ?_ | refine qY S (y_remZ S rfl rfl (by omega)) ?_); intro a S
 refine qA S ?_; intro a S
 refine qY S (y_indexA (m := 8) (sz := 1) S (by kernel_rfl) rfl rfl (by first | omega | (simp; done) | (simp; omega))) ?_; intro a S
 try simp only [Int.toNat_natCast, Nat.mul_one, Nat.zero_add] at S
 refine st_store (sz := 1) (us := [_]) S M 0 rfl (by kernel_rfl) rfl rfl rfl rfl rfl rfl (by show _ ≤ 8; simp only [List.length_cons, List.length_nil]; omega) ?_; intro w4 M
 simp only [List.set_cons_zero, List.set_cons_succ] at M
 refine wpList_nil (block_normal (nxF (qA S ?_))); intro a S
 refine qG [1] S ?_; intro a S
 refine nxC ?_
 rw [firP_next n (by omega)] at M
 exact ⟨8 - (k + 1), by omega, k + 1, by omega, rfl, S.sub _ rfl, M⟩
def ownB (m : Su) (n : Int) : Nat → Int
 | 0 => 0
 | k + 1 => if m.mAt k = n then orV (ownB m n k) (1 * (2 : Int) ^ k) else ownB m n k
theorem shlK {c : Nat} (h : c < 8) : -9223372036854775808 ≤ 1 * (2 : Int) ^ c ∧ 1 * (2 : Int) ^ c ≤ 9223372036854775807 := by
 rcases lt8 h with rfl | rfl | rfl | rfl | rfl | rfl | rfl | rfl <;> decide
theorem ownB_yes {m : Su} {n : Int} {k : Nat} (h : m.mAt k = n) : orV (ownB m n k) (1 * (2 : Int) ^ k) = ownB m n (k + 1) := by rw [ownB, if_pos h]
theorem ownB_no {m : Su} {n : Int} {k : Nat} (h : m.mAt k ≠ n) : ownB m n k = ownB m n (k + 1) := by rw [ownB, if_neg h]
theorem owned_any (m : Su) (n : Int) (hb : ∀ k, k < 8 → 0 ≤ ownB m n k ∧ ownB m n k ≤ 255) (w : World) : Calls Tryz.prog 29 #[.agg (mapL m).toArray, .int .i64 n] w fun e w' => e = .returned (.int .i64 (ownB m n 8)) ∧ Below w.heap.size w w' := by
 have M := Mem.start w
 refine qI Tryz.func29 22 ?_; intro a S
 refine nxD (st_box S M rfl rfl rfl #[_, _, _, _, _, _, _, _] rfl ?_); intro a w1 bF S M hB
 refine qG [1] S ?_; intro a S
 refine nxA (qG [1] S ?_); intro a S
 refine nxC (wp_seq (nxD (qY S (qL8 S M 0) ?_))); intro a S
 refine qG [1] S ?_; intro a S
 refine nxC (wp_block (wp_loop_g (fun q a w' => ∃ (k : Nat), k ≤ 8 ∧ q = 8 - k ∧ Sees 22 a [(1, .int .i64 n), (5, .int .i64 (ownB m n k)), (8, .agg (mapL m).toArray), (9, .int .i64 (k : Int))] ∧ Mem w w' []) (8) ?_ ?_))
 ·skip
  exact ⟨0, Nat.zero_le _, rfl, S.sub _ rfl, M.drop 0⟩
 intro m a wl
 rintro ⟨k, hk, rfl, S, M⟩
 refine nxD (qG [1] S ?_); intro a S
 refine nxC (wp_seq (qf 10 S ?_ ?_))
 ·intro h10 S
  refine cF S (wp_exit (then_exit (then_exit (block_hit (nxE (qG [1, 1] S ?_)))))); intro a S
  refine nxC (wp_ret (qO S ?_))
  obtain rfl : k = 8 := by omega
  exact ⟨rfl, M.below⟩
 intro h10 S
 refine cT S (wp_skip (then_normal (wp_seq (wp_block (nxD (qG [1] S ?_)))))); intro a S
 refine qY S (y_indexP (m := 8) (sz := 1) S (by kernel_rfl) (fun e he => by cases he.symm.trans (show _ = some (.array 8 3) by kernel_rfl); kernel_rfl) rfl rfl (by first | omega | (simp; done) | (simp; omega)) ((by rw [Int.toNat_natCast, Nat.mul_one]; exact mapL_at m (by omega)))) ?_; intro a S
 refine qG [1, 1] S ?_; intro a S
 refine nxA (qG [1, 1, 1] S ?_); intro a S
 refine nxC (qf 15 S ?_ ?_)
 ·intro h15 S
  refine cF S (wp_skip (block_normal (nxF (qA S ?_)))); intro a S
  refine qG [1] S ?_; intro a S
  refine nxC ?_
  refine ⟨8 - (k + 1), by omega, k + 1, by omega, rfl, ?_, M⟩
  first
   | (have e := ownB_yes h15; rw [← e]; exact S.sub _ rfl)
   | (have e := ownB_no h15; rw [← e]; exact S.sub _ rfl)
 intro h15 S
 refine cT S (wp_region_lit (qG [1, 1] S ?_)); intro a S
 (first | refine qY S (y_shlN S rfl rfl (by omega) (by rw [Int.toNat_natCast]; exact shlK (by omega))) ?_ | refine qY S (y_shl S rfl rfl (by omega)) ?_); intro a S
 (first | refine qY S (y_orN S rfl rfl (by omega) (by omega)) ?_ | refine qY S (y_int S rfl rfl rfl) ?_); intro a S
 refine qG [1] S ?_; intro a S
 refine wpList_nil (block_normal (nxF (qA S ?_))); intro a S
 refine qG [1] S ?_; intro a S
 refine nxC ?_
 refine ⟨8 - (k + 1), by omega, k + 1, by omega, rfl, ?_, M⟩
 first
  | (have e := ownB_yes h15; rw [← e]; exact S.sub _ rfl)
  | (have e := ownB_no h15; rw [← e]; exact S.sub _ rfl)
def FirstR (l : List Rc) (p : Rc → Bool) (j : Int) : Prop :=
 (∃ (k : Nat) (q : Rc), j = (k : Int) ∧ l[k]? = some q ∧ p q = true ∧ ∀ (i : Nat) (q : Rc), i < k → l[i]? = some q → p q = false) ∨ (j = -1 ∧ ∀ q ∈ l, p q = false)
theorem firstR_fd {l : List Rc} {nm : Nm} {j : Int} (h : FirstR l (fun q => q.name.eqb nm) j) : j = fdI l nm := by
 unfold fdI
 rcases h with ⟨k, q, rfl, hk, hp, hpre⟩ | ⟨rfl, h⟩
 ·rw [fd_of hk (Nm.eqb_iff.1 hp) fun i r hi hr e => by have h := hpre i r hi hr; simp only [Nm.eqb_iff.2 e] at h; cases h]
 ·rw [fd_no fun r hr e => by have h2 := h r hr; simp only [Nm.eqb_iff.2 e] at h2; cases h2]
set_option maxHeartbeats 400000 in
theorem indexFuncR_any {f : FuncId} {fi ca : List Value} (hE : Enters Tryz.prog f) (va : Option Addr) (vc : Nat) (l : List Rc) (p : Rc → Bool) (w : World) (hv : Rd 0 w.heap.size w 12 (.slice va l.length vc) l.length (rcsC l))
 (hstep : ∀ (x : Rc) (w' : World), Below w.heap.size w w' → Calls Tryz.prog f (fi ++ ([Value.agg x.cL.toArray] ++ ca)).toArray w' (fun e w'' => e = .returned (.bool (p x)) ∧ Below w'.heap.size w' w'')) :
 Calls Tryz.prog 374 #[.slice va l.length vc, .func (.func f) fi.toArray ca.toArray] w (fun e w' => ∃ j, e = .returned (.int .i64 j) ∧ Below w.heap.size w w' ∧ FirstR l p j) := by
 have M := Mem.start w
 have hl := hv.2.1
 unfold maxLen at hl
 refine qI Tryz.func374 19 ?_; intro a S
 refine nxD (qG [1] S ?_); intro a S
 refine nxC (wp_seq (nxD (qG [1] S ?_))); intro a S
 refine qY S (qH 273 S) ?_; intro a S
 refine qG [1] S ?_; intro a S
 refine nxC (wp_block (wp_loop_g (fun m a w' => ∃ (k : Nat), k ≤ l.length ∧ m = l.length - k ∧ Sees 19 a [(0, .slice va l.length vc), (1, .func (.func f) fi.toArray ca.toArray), (7, .int .i64 (l.length : Int)), (8, .int .i64 (k : Int))] ∧ Mem w w' [] ∧ ∀ (i : Nat) (q : Rc), i < k → l[i]? = some q → p q = false) (l.length) ?_ ?_))
 ·skip
  exact ⟨0, Nat.zero_le _, rfl, S.sub _ rfl, M, fun i q h => absurd h (by omega)⟩
 intro m a wl
 rintro ⟨k, hk, rfl, S, M, hpre⟩
 refine nxD (qG [1] S ?_); intro a S
 refine nxC (wp_seq (qf 9 S ?_ ?_))
 ·intro h9 S
  refine cF S (wp_exit (then_exit (then_exit (block_hit (nxE (qG [1] S ?_)))))); intro a S
  refine nxC (wp_ret (qO S ?_))
  obtain rfl : k = l.length := by omega
  refine ⟨-1, rfl, M.below, .inr ⟨rfl, fun q hq => ?_⟩⟩
  obtain ⟨i, hi⟩ := List.getElem?_of_mem hq
  exact hpre i q (List.getElem?_eq_some_iff.1 hi).1 hi
 intro h9 S
 refine cT S (wp_skip (then_normal (wp_seq (wp_block (nxD (qG [1, 1] S ?_)))))); intro a S
 refine nxC (wp_seq ?_)
 obtain ⟨q, hq⟩ : ∃ q, l[k]? = some q := ⟨_, List.getElem?_eq_getElem (by omega)⟩
 refine wp_region_lit (qG [1, 1, 1] S ?_); intro a S
 refine qY S (qX 273 12 S ((M.arg hv))) ?_; intro a S
 try simp only [Int.toNat_natCast, Nat.mul_one, Nat.zero_add] at S
 refine qY S (y_loadAgg S (by kernel_rfl) rfl rfl ((M.arg hv).at_.row (i := k) (rcsC_get hq) rfl)) ?_; intro a S
 refine st_callB (xs := [.tmp 15]) (fi := fi) (ca := ca) S (hE) rfl rfl (rfl) rfl (hstep q _ M.below) ?_
 rintro _ w1 ⟨rfl, hK⟩; refine ⟨_, rfl, ?_⟩; intro a S; replace M := M.grow hK
 refine nxC (st_split (t := 16) S rfl ?_ ?_)
 ·intro h16 S
  refine cT S (nxD (qG [1, 1] S ?_)); intro a S
  refine nxC (wp_ret (block_ret (then_ret (then_ret (block_ret (then_ret (qO S ?_)))))))
  exact ⟨(k : Int), rfl, M.below, .inl ⟨k, q, rfl, hq, h16, hpre⟩⟩
 intro h16 S
 refine cF S (wp_skip (block_normal (nxF (qA S ?_)))); intro a S
 refine qG [1] S ?_; intro a S
 refine nxC ?_
 refine ⟨l.length - (k + 1), by omega, k + 1, by omega, rfl, S.sub _ rfl, M, fun i q' hi hq' => ?_⟩
 rcases Nat.lt_or_ge i k with h | h
 ·exact hpre i q' h hq'
 ·obtain rfl : i = k := by omega
  rw [hq] at hq'; obtain rfl := Option.some.inj hq'; exact h16
theorem findC_any (r : Rc) (nm : Nm) (b : Nat) (w : World) (B : Blk w b nm.cells 28) : Calls Tryz.prog 375 #[.agg r.cL.toArray, .pointer (some ⟨b, 0, none⟩)] w fun e w' => e = .returned (.bool (r.name.eqb nm)) ∧ Below w.heap.size w w' := by
 have M := Mem.start w
 refine qI Tryz.func375 8 ?_; intro a S
 refine nxD (st_box S M rfl rfl rfl #[_, _, _, _, _, _, _, _, _, _, _, _] rfl ?_); intro a w1 bR S M hB
 refine qG [1] S ?_; intro a S
 refine nxA (qG [2] S ?_); intro a S
 refine qY S (qL3 S M 0) ?_; intro a S
 refine qY S (y_loadAgg S (by kernel_rfl) rfl rfl (show CellsAt _ b 0 [.int .i64 nm.stamp, .int .i64 nm.inc, .int .i64 nm.try_] from Blk.cellsAt (o := 0) (k := 3) ((M.below.block b B.lt).trans B) rfl)) ?_; intro a S
 refine qY S (y_eqlG (by kernel_rfl) S rfl rfl (fun w => equalNm 9998 r.name nm w)) ?_; intro a S
 refine qG [1] S ?_; intro a S
 refine nxC (wp_ret (qO S ?_))
 exact ⟨rfl, M.below⟩
theorem cloneR_any (v : Value) (l : List Rc) (w : World) (hv : Rd 0 w.heap.size w 12 v l.length (rcsC l)) (hl : l.length ≤ 1000000) : Calls Tryz.prog 150 #[v] w fun e w' => ∃ v', e = .returned v' ∧ Fresh w w' 273 12 v' l.length (rcsC l) := by
 have M := Mem.start w
 refine qI Tryz.func150 8 ?_; intro a S
 refine nxD (qG [1] S ?_); intro a S
 refine nxC (wp_seq (nxD (qG [1] S ?_))); intro a S
 refine qY S (y_eqlNil (e := 273) S rfl (M.arg hv) (by kernel_rfl)) ?_; intro a S
 refine nxC (st_split (t := 4) S rfl ?_ ?_)
 ·intro h4 S
  refine cT S (nxD (qG [1] S ?_)); intro a S
  refine nxC (wp_ret (then_ret (qO S ?_)))
  obtain ⟨rfl, h0, h1⟩ := hv.nilV h4
  exact ⟨_, rfl, by rw [h1, h0]; exact M.freshNil _ _⟩
 intro h4 S
 refine cF S (wp_skip (nxE (st_lit0 (e := 273) (sz := 12) (by_ := 112) (zc := [.int .i8 0, .int .i64 0, .int .i64 0, .int .i64 0, .bool false, .slice none 0 0, .int .i64 0, .int .i64 0, .int .i64 0, .int .i64 0, .int .i64 0, .int .i64 0]) S M rfl rfl (by kernel_rfl) ?_))); intro a w1 b1 S M hB
 refine qG [1] S ?_; intro a S
 replace M := M.toRow (sz := 12) (m := 0) (cap := 0) (xs := []) 0 rfl rfl (Nat.le_refl _) (Nat.zero_le _) rfl rfl
 refine st_append (e := 273) (sz := 12) (by_ := 112) (zc := [.int .i8 0, .int .i64 0, .int .i64 0, .int .i64 0, .bool false, .slice none 0 0, .int .i64 0, .int .i64 0, .int .i64 0, .int .i64 0, .int .i64 0, .int .i64 0]) S M 0 rfl rfl (by kernel_rfl) rfl (by decide) rfl rfl rfl (M.arg hv) (allOne_rcs _) (by omega) (by unfold maxLen; omega) ?_; intro a w2 vA loA hiA S M
 refine qG [1] S ?_; intro a S
 refine nxC (wp_ret (qO S ?_))
 exact ⟨_, rfl, by have := M.fresh 0 rfl; rwa [Nat.zero_add, List.nil_append] at this⟩
theorem subA_at12 {g i c sz : Nat} (h : i < c) : subA (some ⟨g, 0, none⟩) i c sz = some ⟨g, i * sz, none⟩ := by
 unfold subA; rw [if_neg (by omega)]; simp [Addr.add]; exact fun h => h.symm
theorem len12 {cs more : List Value} {m c k : Nat} (hl : cs.length = m * 12) (hc : (cs ++ more).length = c * 12) (hk : k < m) :
 ((cs ++ more).take (k * 12) ++ cs.drop ((k + 1) * 12) ++ (cs ++ more).drop (k * 12 + (cs.drop ((k + 1) * 12)).length)) = (cs.take (k * 12) ++ cs.drop ((k + 1) * 12)) ++ (cs ++ more).drop ((m - 1) * 12) := by
 rw [List.take_append_of_le_length (by omega)]
 congr 2
 rw [List.length_drop, hl]; omega
abbrev zRc : List Value := [.int .i8 0, .int .i64 0, .int .i64 0, .int .i64 0, .bool false, .slice none 0 0, .int .i64 0, .int .i64 0, .int .i64 0, .int .i64 0, .int .i64 0, .int .i64 0]
set_option maxHeartbeats 1000000 in
theorem deleteR_any {wc w : World} {H : List Ent} {g m c k : Nat} {cs more : List Value} (M : Mem wc w (.blk g (cs ++ more).toArray 273 :: H)) (hl : cs.length = m * 12) (h1 : allOne (cs.drop ((k + 1) * 12)) = true) (hcs : (cs ++ more).length = c * 12) (hmc : m ≤ c) (hc : c ≤ maxLen) (hk : k < m) :
 Calls Tryz.prog 295 #[.slice (some ⟨g, 0, none⟩) m c, .int .i64 (k : Int), .int .i64 ((k : Int) + 1)] w fun e w' => e = .returned (.slice (some ⟨g, 0, none⟩) (m - 1) c) ∧
  ∃ more', ((cs.take (k * 12) ++ cs.drop ((k + 1) * 12)) ++ more').length = c * 12 ∧ Mem wc w' (.blk g ((cs.take (k * 12) ++ cs.drop ((k + 1) * 12)) ++ more').toArray 273 :: H) := by
 refine qI Tryz.func295 33 ?_; intro a S
 refine wp_seq ?_
 skip
 refine wp_region_lit (qG [1] S ?_); intro a S
 refine nxA (qG [1, 1, 1, 1] S ?_); intro a S
 refine qY S (qH 273 S) ?_; intro a S
 refine qY S (y_slice3 (e := 273) (sz := 12) S (by kernel_rfl) rfl rfl rfl rfl (by first | omega | (simp; done) | (simp; omega))) ?_; intro a S
 refine nxC (wp_seq (nxD (qG [1, 1, 1] S ?_))); intro a S
 refine nxC (qi 16 S ?_ ?_)
 ·intro h16 S
  exfalso; omega
 intro h16 S
 refine cF S (wp_skip (nxE (qG [1] S ?_))); intro a S
 refine qY S (qH 273 S) ?_; intro a S
 refine qG [1] S ?_; intro a S
 refine nxC (wp_seq (wp_regionK [6] #[false, false, false, false, false, false, false, false] rfl M (by kernel_rfl) ?_)); intro w1 M
 refine kP 0 S ?_; intro a S
 refine kP 1 S ?_; intro a S
 refine k_pure 2 S rfl (fun w => y_slice02 (e := 273) (sz := 12) S (by kernel_rfl) rfl rfl (by first | omega | (simp; done) | (simp; omega))) ?_; intro a S
 refine kP 3 S ?_; intro a S
 refine kP 4 S ?_; intro a S
 refine k_pure 5 S rfl (fun w => y_slice1 (e := 273) (sz := 12) S (by kernel_rfl) rfl rfl (by first | omega | (simp; done) | (simp; omega))) ?_; intro a S
 refine k_one 6 rfl (by kernel_rfl) ?_
 simp only [Int.toNat_natCast, show ((k : Int) + 1).toNat = k + 1 by omega] at S
 have hR : Rd g (g + 1) w1 12 (.slice (some ⟨g, 0, none⟩) m c) m cs := Rd.of_blk (M.blk 0 rfl) hl hmc hc (by rw [List.toList_toArray, ← hl]; exact List.take_left)
 have hcell : CellsAt w1 g ((k + 1) * 12) (cs.drop ((k + 1) * 12)) := fun j hj => by
  rw [List.length_drop] at hj
  have := hR.at_ ((k + 1) * 12 + j) (by omega)
  simp only [adr, Nat.zero_add] at this
  rw [this, List.getElem?_drop]
 obtain ⟨o2, ho2, hcell2⟩ : ∃ o2, subA (some ⟨g, 0, none⟩) (k + 1) c 12 = some ⟨g, o2, none⟩ ∧ CellsAt w1 g o2 (cs.drop ((k + 1) * 12)) := by
  rcases Nat.lt_or_ge (k + 1) c with h | h
  ·exact ⟨_, subA_at12 h, hcell⟩
  ·refine ⟨0, by unfold subA; rw [if_pos (by omega)], ?_⟩
   rw [List.drop_of_length_le (by omega)]; intro j hj; simp at hj
 rw [ho2] at S
 refine st_appendIn (e := 273) (sz := 12) (zc := zRc) (by_ := 112) (news := cs.drop ((k + 1) * 12)) S M 0 rfl rfl (by kernel_rfl) rfl rfl rfl hcell2 (by rw [List.length_drop]; omega) h1 (by omega) hcs ?_; intro a wA S M
 rw [len12 hl hcs hk, show k + (m - (k + 1)) = m - 1 by omega] at *
 simp only [List.set_cons_zero] at M
 refine nxC ⟨fun h => absurd h (by decide), ?_⟩
 refine kP 7 S ?_; intro a S
 refine k_end (by kernel_rfl) ?_
 replace S := S.keep [1, 2, 6, 16, 7, 0]
 refine then_normal (wp_seq ?_)
 have hXl : ((cs.take (k * 12) ++ cs.drop ((k + 1) * 12)) ++ (cs ++ more).drop ((m - 1) * 12)).length = c * 12 := by
  rw [List.length_append] at hcs
  simp only [List.length_append, List.length_take, List.length_drop]; omega
 refine wp_region_lit (qG [1, 1] S ?_); intro a S
 refine qY S (qH 273 S) ?_; intro a S
 refine qG [1] S ?_; intro a S
 refine qY S (y_slice2 (e := 273) (sz := 12) S (by kernel_rfl) rfl rfl rfl (by first | omega | (simp; done) | (simp; omega))) ?_; intro a S
 simp only [Int.toNat_natCast] at S
 rw [subA_at12 (by omega), show m - (m - 1) = 1 by omega] at S
 refine st_clear1N (e := 273) (sz := 12) (zc := zRc) (by_ := 112) S M 0 rfl (by kernel_rfl) rfl rfl rfl (by rw [hXl]; show _ + 12 ≤ _; omega) ?_; intro wB M
 simp only [List.set_cons_zero] at M
 refine nxA (qG [1, 1] S ?_); intro a S
 refine nxC (wp_ret (qO S ?_))
 refine ⟨rfl, (putL ((cs.take (k * 12) ++ cs.drop ((k + 1) * 12)) ++ (cs ++ more).drop ((m - 1) * 12)) ((m - 1) * 12) zRc).drop ((m - 1) * 12), ?_, ?_⟩
 ·rw [List.length_append, List.length_drop, putL_length, hXl]
  simp only [List.length_append, List.length_take, List.length_drop]; omega
 ·have hXm : (cs.take (k * 12) ++ cs.drop ((k + 1) * 12)).length = (m - 1) * 12 := by simp only [List.length_append, List.length_take, List.length_drop]; omega
  have e := putL_ahead (us := zRc) (l := (cs.take (k * 12) ++ cs.drop ((k + 1) * 12)) ++ (cs ++ more).drop ((m - 1) * 12)) (o := (m - 1) * 12) (i := 0) (k := (m - 1) * 12) (by rw [hXl]; show _ + 12 ≤ _; omega) (by omega)
  rw [List.drop_zero, List.drop_zero] at e
  have e2 : (cs.take (k * 12) ++ cs.drop ((k + 1) * 12) ++ (cs ++ more).drop ((m - 1) * 12)).take ((m - 1) * 12) = cs.take (k * 12) ++ cs.drop ((k + 1) * 12) := by rw [← hXm, List.take_left]
  have e3 := e.trans e2
  generalize putL (cs.take (k * 12) ++ cs.drop ((k + 1) * 12) ++ (cs ++ more).drop ((m - 1) * 12)) ((m - 1) * 12) zRc = Z at *
  have e4 : cs.take (k * 12) ++ cs.drop ((k + 1) * 12) ++ Z.drop ((m - 1) * 12) = Z := (congrArg (· ++ Z.drop ((m - 1) * 12)) e3.symm).trans (List.take_append_drop _ _)
  rw [e4]; exact M
theorem rd_rcs {wc w : World} {H : List Ent} {lo hi : Nat} {v : Value} {l : List Rc} (M : Mem wc w H) {p : Nat} (h : H[p]? = some (rowE lo hi 273 12 v l.length (rcsC l))) (hl : l.length ≤ 1000) : Rd 0 w.heap.size w 12 v l.length (rcsC l) := M.readAll p h (by unfold maxLen; omega)
abbrev opV (va : Option Addr) (vc : Nat) (op : List Rc) : Value := .slice va op.length vc
abbrev opE (lo hi : Nat) (va : Option Addr) (vc : Nat) (op : List Rc) : Ent := rowE lo hi 273 12 (opV va vc op) op.length (rcsC op)
theorem Blk.cells0 {w : World} {b : Nat} {cs : Array Value} {t : TypeId} (B : Blk w b cs t) {w' : World} (hb : Below w.heap.size w w') : Blk w' b cs t := (hb.block b B.lt).trans B
theorem Ls.end_no {s : Ls} {nm : Nm} (h : fd s.op nm = none) : s.end_ nm = s := by unfold Ls.end_ endL; rw [h]
theorem Ls.end_yes {s : Ls} {nm : Nm} {k : Nat} (h : fd s.op nm = some k) : s.end_ nm = { s with op := s.op.eraseIdx k } := by unfold Ls.end_ endL; rw [h]
theorem lgC_map {d : Value} (s : Ls) (v : Value) {k : Nat} (x : Int) (h : k < 8) : putL (lgC d s v) (15 + k) [.int .i64 x] = lgC d { s with cu := s.cu.mSet k x } v := by
 rcases lt8 h with rfl | rfl | rfl | rfl | rfl | rfl | rfl | rfl <;> rfl
def Ls.comm (s : Ls) (r : Rc) : Ls := { s with op := commitL s.op r }
theorem Ls.comm_yes {s : Ls} {r : Rc} {k : Nat} (h : fd s.op r.name = some k) : s.comm r = { s with op := s.op.set k r } := by unfold Ls.comm commitL; rw [h]
theorem Ls.comm_no {s : Ls} {r : Rc} (h : fd s.op r.name = none) : s.comm r = { s with op := s.op ++ [r] } := by unfold Ls.comm commitL; rw [h]
theorem Ls.commit_no {s : Ls} {r : Rc} (h : ¬ 0 ≤ r.cs) : s.commit r = s.comm r := by unfold Ls.commit; rw [if_neg h]; rfl
theorem Ls.commit_yes {s : Ls} {r : Rc} (h : 0 ≤ r.cs) : s.commit r = { s.comm r with cu := s.cu.mSet r.cs.toNat r.ct } := by unfold Ls.commit; rw [if_pos h]; rfl
set_option maxHeartbeats 400000 in
theorem find1_any {b : Nat} (dv : Value) (s : Ls) (va : Option Addr) (vc : Nat) (nm : Nm) (w : World) (B : Blk w b (lgC dv s (opV va vc s.op)).toArray 206) (hv : Rd 0 w.heap.size w 12 (opV va vc s.op) s.op.length (rcsC s.op)) :
 Calls Tryz.prog 294 #[.pointer (some ⟨b, 1, none⟩), .agg nm.cells] w fun e w' => e = .returned (.int .i64 (fdI s.op nm)) ∧ Below w.heap.size w w' := by
 have M := Mem.start w
 refine qI Tryz.func294 11 ?_; intro a S
 refine nxD (st_box S M rfl rfl rfl #[_, _, _] rfl ?_); intro a w1 bX S M hB
 refine qG [1] S ?_; intro a S
 refine nxA (qG [1, 1, 25] S ?_); intro a S
 refine qY S (y_load S (by kernel_rfl) rfl (by rw [(B.cells0 M.below).cells]; rfl)) ?_; intro a S
 refine qY S (y_makeFunc (fs := []) (cs := [.tmp 3]) S rfl rfl) ?_; intro a S
 refine qC (xs := [.tmp 8, .tmp 9]) S (qE Tryz.func374) rfl (indexFuncR_any (fi := []) (ca := [.pointer (some ⟨bX, 0, none⟩)]) (enters_of Tryz.func375 (by decide) rfl) va vc s.op (fun q => q.name.eqb nm) _ (M.argW hv) (fun q w' hb => findC_any q nm bX w' ((hb.block bX (M.blk 0 rfl).lt).trans (M.blk 0 rfl)))) ?_
 rintro _ w2 ⟨j, rfl, hK, hj⟩; refine ⟨_, rfl, ?_⟩; intro a S; replace M := M.grow hK
 obtain rfl := firstR_fd hj
 refine qG [1] S ?_; intro a S
 refine nxC (wp_ret (qO S ?_))
 exact ⟨rfl, M.below⟩
set_option maxHeartbeats 400000 in
theorem stamps1_any {wc w : World} {H : List Ent} {b : Nat} (dv : Value) (s : Ls) (v : Value) (r : Rc) (wv : Value) (M : Mem wc w (.blk b (lgC dv s v).toArray 206 :: H)) :
 Calls Tryz.prog 215 #[.pointer (some ⟨b, 1, none⟩), .agg (r.cells wv)] w fun e w' => e = .returned (.tuple #[]) ∧ Mem wc w' (.blk b (lgC dv (s.stamps r.n) v).toArray 206 :: H) := by
 refine qI Tryz.func215 9 ?_; intro a S
 refine wp_seq ?_
 skip
 refine wp_region_lit (st_box S M rfl rfl rfl #[_, _, _, _, _, _, _, _, _, _, _, _] rfl ?_); intro a w1 bX S M hB
 refine nxB (qR [1, 12, 1, 1, 14] S M ?_); intro a S
 refine qS (sz := 1) (us := [_]) S M 1 ?_; intro w2 M
 refine wpList_nil (end_noneN S rfl ?_)
 exact ⟨rfl, M.drop 0⟩
set_option maxHeartbeats 1000000 in
theorem end1_any {wc w : World} {H : List Ent} {b lo hi : Nat} (dv : Value) (s : Ls) (va : Option Addr) (vc : Nat) (r : Rc) (wv : Value) (M : Mem wc w (.blk b (lgC dv s (opV va vc s.op)).toArray 206 :: opE lo hi va vc s.op :: H)) (hl : s.op.length ≤ 1000) :
 Calls Tryz.prog 214 #[.pointer (some ⟨b, 1, none⟩), .agg (r.cells wv)] w fun e w' => e = .returned (.tuple #[]) ∧ ∃ lo2 hi2 va2 vc2, Mem wc w' (.blk b (lgC dv (s.end_ r.name) (opV va2 vc2 (s.end_ r.name).op)).toArray 206 :: opE lo2 hi2 va2 vc2 (s.end_ r.name).op :: H) := by
 refine qI Tryz.func214 22 ?_; intro a S
 refine wp_seq ?_
 skip
 refine wp_region_lit (st_box S M rfl rfl rfl #[_, _, _, _, _, _, _, _, _, _, _, _] rfl ?_); intro a w1 bX S M hB
 refine nxA (qG [1, 2] S ?_); intro a S
 refine qY S (qL3 S M 0) ?_; intro a S
 refine qQ (xs := [.tmp 5, .tmp 7]) S (qE Tryz.func294) rfl (find1_any dv s va vc r.name _ (M.blk 1 rfl) (rd_rcs M (p := 2) rfl hl)) M ?_; intro a w2 S hK M
 refine qG [1] S ?_; intro a S
 refine nxA (qG [1, 1] S ?_); intro a S
 refine nxC (qf 10 S ?_ ?_)
 ·intro h10 S
  refine cF S (wp_skip (end_noneN S rfl ?_))
  first
   | (rw [Ls.end_no (fdI_neg (by omega))]
      exact ⟨rfl, _, _, _, _, M.drop 0⟩)
   | (rw [Ls.end_yes hk]
      exact ⟨rfl, _, _, _, _, (M.drop 1).perm (List.Perm.swap _ _ _)⟩)
 intro h10 S
 refine cT S ?_
 obtain ⟨k, hk, hke⟩ := fdI_nn h10
 have hkl := fd_lt hk
 rw [hke] at S
 have hel : (s.op.eraseIdx k).length = s.op.length - 1 := by rw [List.length_eraseIdx, if_pos hkl]
 replace M := M.frn 2
 obtain ⟨g, cap, more, hv9, hmc, hcm, hlen, M1⟩ := M.ofRow (by omega)
 cases hv9
 have hle9 : (s.op.eraseIdx k).length ≤ vc := by omega
 clear M; have M := M1; clear M1
 refine wp_region_lit (qR [1, 1, 1, 25, 3, 1, 1] S M ?_); intro a S
 refine qA S ?_; intro a S
 refine qC (xs := [.tmp 15, .tmp 16, .tmp 18]) S (qE Tryz.func295) rfl (deleteR_any M (rcsC_len _) (by rw [rcsC_drop _ (by omega)]; exact allOne_rcs _) hlen hmc hcm hkl) ?_
 rintro _ w3 ⟨rfl, more2, hl2, M2⟩; refine ⟨_, rfl, ?_⟩; intro a S
 rw [rcsC_erase _ hkl, ← hel] at *
 have M := M2.toRow (sz := 12) (m := (s.op.eraseIdx k).length) (cap := vc) (xs := rcsC (s.op.eraseIdx k)) 0 rfl (rcsC_len _) hle9 hcm (by simpa using hl2) (by rw [List.toList_toArray, ← rcsC_len]; exact List.take_left)
 clear M2
 simp only [List.eraseIdx_cons_zero] at M
 refine qG [1, 25] S ?_; intro a S
 refine qS (sz := 1) (us := [_]) S M 2 ?_; intro w4 M
 replace S := S.keep [0, 1, 3, 4, 10]
 refine wpList_nil (end_noneN S rfl ?_)
 first
  | (rw [Ls.end_no (fdI_neg (by omega))]
     exact ⟨rfl, _, _, _, _, M.drop 0⟩)
  | (rw [Ls.end_yes hk]
     exact ⟨rfl, _, _, _, _, (M.drop 1).perm (List.Perm.swap _ _ _)⟩)
set_option maxHeartbeats 1000000 in
theorem commit1_any {wc w : World} {H : List Ent} {b lo hi : Nat} (dv : Value) (s : Ls) (va : Option Addr) (vc : Nat) (r : Rc) (wv : Value) (M : Mem wc w (.blk b (lgC dv s (opV va vc s.op)).toArray 206 :: opE lo hi va vc s.op :: H)) (hl : s.op.length ≤ 1000) (hc : r.cs < 8) :
 Calls Tryz.prog 213 #[.pointer (some ⟨b, 1, none⟩), .agg (r.cells wv)] w fun e w' => e = .returned (.tuple #[]) ∧ ∃ lo2 hi2 va2 vc2, Mem wc w' (.blk b (lgC dv (s.commit r) (opV va2 vc2 (s.commit r).op)).toArray 206 :: opE lo2 hi2 va2 vc2 (s.commit r).op :: H) := by
 refine qI Tryz.func213 43 ?_; intro a S
 refine wp_seq ?_
 skip
 refine wp_region_lit (st_box S M rfl rfl rfl #[_, _, _, _, _, _, _, _, _, _, _, _] rfl ?_); intro a w1 bX S M hB
 refine nxA (qG [6] S ?_); intro a S
 refine qS (sz := 1) (us := [_]) S M 0 ?_; intro w2 M
 refine nxC (wp_seq (nxD (qG [1, 2] S ?_))); intro a S
 refine qY S (qL3 S M 0) ?_; intro a S
 refine qQ (xs := [.tmp 6, .tmp 8]) S (qE Tryz.func294) rfl (find1_any dv s va vc r.name _ (M.blk 1 rfl) (rd_rcs M (p := 2) rfl hl)) M ?_; intro a w3 S hK M
 refine qG [1] S ?_; intro a S
 refine nxA (qG [1, 1] S ?_); intro a S
 refine nxC (qi 11 S ?_ ?_)
 ·intro h11 S
  refine cT S ?_
  obtain ⟨k, hk, hke⟩ := fdI_nn h11
  have hkl := fd_lt hk
  rw [hke] at S
  refine wp_regionK [7] #[false, false, false, false, false, false, false, false] rfl M (by kernel_rfl) ?_; intro w4 M
  refine kP 0 S ?_; intro a S
  refine kP 1 S ?_; intro a S
  refine kF 2 24 S ?_; intro a S
  refine kR 3 S rfl M (fun w M => y_load S (by kernel_rfl) rfl (M.cell 1 rfl ((show _ = some (opV va vc s.op) from rfl)))) ?_; intro a S
  refine kP 4 S ?_; intro a S
  refine kR 5 S rfl M (fun w M => qL12 S M 0) ?_; intro a S
  refine kR 6 S rfl M (fun w M => qX 273 12 S (rd_rcs M (p := 2) rfl hl)) ?_; intro a S
  try simp only [Int.toNat_natCast, Nat.mul_one, Nat.zero_add] at S
  refine k_one 7 rfl (by kernel_rfl) ?_
  refine st_storeRow (v := opV va vc s.op) (sz := 12) (m := s.op.length) (j := k * 12) (us := r.cL) S M 2 rfl (by kernel_rfl) rfl rfl (by first | rfl | omega | (simp only [Int.toNat_natCast]; omega)) rfl rfl rfl rfl rfl (by omega) (rcsC_len _) (by rw [rcsC_len]; show k * 12 + 12 ≤ _; omega) ?_; intro wz lo9 hi9 M
  simp only [List.eraseIdx_cons_succ, List.eraseIdx_cons_zero] at M
  rw [rcsC_set _ hkl] at M
  refine nxC ⟨fun h => absurd h (by decide), ?_⟩
  refine k_end (by kernel_rfl) ?_
  refine nxE (qR [10, 1, 2, 1] S M ?_); intro a S
  replace S := S.keep [0, 1, 3, 4, 11, 32]
  refine nxC (qf 32 S ?_ ?_)
  ·intro h32 S
   refine cF S (wp_skip (end_noneN S rfl ?_))
   first
    | (rw [Ls.commit_no (by omega), Ls.comm_yes hk]
       have M3 := (M.drop 1).perm (List.Perm.swap _ _ _)
       exact ⟨rfl, _, _, _, _, by simpa only [opE, opV, List.length_set] using M3⟩)
    | (rw [Ls.commit_no (by omega), Ls.comm_no (fdI_neg (by omega))]
       exact ⟨rfl, _, _, _, _, ((M.drop 1).drop 1).perm (List.Perm.swap _ _ _)⟩)
    | (rw [Ls.commit_yes (by omega), Ls.comm_yes hk]
       have M3 := (M.drop 1).perm (List.Perm.swap _ _ _)
       rw [lgC_map _ _ _ (by omega)] at M3
       exact ⟨rfl, _, _, _, _, by simpa only [opE, opV, List.length_set] using M3⟩)
    | (rw [Ls.commit_yes (by omega), Ls.comm_no (fdI_neg (by omega))]
       have M3 := ((M.drop 1).drop 1).perm (List.Perm.swap _ _ _)
       rw [lgC_map _ _ _ (by omega)] at M3
       exact ⟨rfl, _, _, _, _, M3⟩)
  intro h32 S
  refine cT S (wp_regionK [10] #[false, false, false, false, false, false, false, false, false, false, false] rfl M (by kernel_rfl) ?_); intro w5 M
  refine kP 0 S ?_; intro a S
  refine kF 1 9 S ?_; intro a S
  refine kF 2 0 S ?_; intro a S
  refine kR 3 S rfl M (fun w M => qV S M 1) ?_; intro a S
  refine kF 4 9 S ?_; intro a S
  refine kF 5 1 S ?_; intro a S
  refine kR 6 S rfl M (fun w M => y_load S (by kernel_rfl) rfl (M.cell 1 rfl ((show _ = some (Value.int .i64 r.ct) from rfl)))) ?_; intro a S
  refine kP 7 S ?_; intro a S
  refine kF 8 14 S ?_; intro a S
  refine k_pure 9 S rfl (fun w => y_indexA (m := 8) (sz := 1) S (by kernel_rfl) rfl rfl (by first | omega | (simp; done) | (simp; omega))) ?_; intro a S
  try simp only [Int.toNat_natCast, Nat.mul_one, Nat.zero_add] at S
  refine k_one 10 rfl (by kernel_rfl) ?_
  refine st_store (sz := 1) (us := [_]) S M 2 rfl (by kernel_rfl) rfl rfl rfl rfl rfl rfl (by first | (show 14 + r.cs.toNat + 1 ≤ 25; omega) | (show 15 + r.cs.toNat + 1 ≤ 26; omega)) ?_; intro w6 M
  simp only [List.set_cons_zero, List.set_cons_succ] at M
  refine nxC ⟨fun h => absurd h (by decide), ?_⟩
  refine k_end (by kernel_rfl) ?_
  refine end_noneN S rfl ?_
  first
   | (rw [Ls.commit_no (by omega), Ls.comm_yes hk]
      have M3 := (M.drop 1).perm (List.Perm.swap _ _ _)
      exact ⟨rfl, _, _, _, _, by simpa only [opE, opV, List.length_set] using M3⟩)
   | (rw [Ls.commit_no (by omega), Ls.comm_no (fdI_neg (by omega))]
      exact ⟨rfl, _, _, _, _, ((M.drop 1).drop 1).perm (List.Perm.swap _ _ _)⟩)
   | (rw [Ls.commit_yes (by omega), Ls.comm_yes hk]
      have M3 := (M.drop 1).perm (List.Perm.swap _ _ _)
      rw [lgC_map _ _ _ (by omega)] at M3
      exact ⟨rfl, _, _, _, _, by simpa only [opE, opV, List.length_set] using M3⟩)
   | (rw [Ls.commit_yes (by omega), Ls.comm_no (fdI_neg (by omega))]
      have M3 := ((M.drop 1).drop 1).perm (List.Perm.swap _ _ _)
      rw [lgC_map _ _ _ (by omega)] at M3
      exact ⟨rfl, _, _, _, _, M3⟩)
 intro h11 S
 refine cF S (wp_regionK [7, 10] #[false, false, false, false, false, false, false, false, false, false, false] rfl M (by kernel_rfl) ?_); intro w7 M
 refine kP 0 S ?_; intro a S
 refine kP 1 S ?_; intro a S
 refine kP 2 S ?_; intro a S
 refine kF 3 24 S ?_; intro a S
 refine kR 4 S rfl M (fun w M => y_load S (by kernel_rfl) rfl (M.cell 1 rfl ((show _ = some (opV va vc s.op) from rfl)))) ?_; intro a S
 refine kR 5 S rfl M (fun w M => qL12 S M 0) ?_; intro a S
 refine k_one 6 rfl (by kernel_rfl) ?_
 refine st_lit (ps := [(0, .tmp 24)]) (e := 273) (sz := 12) (zl := [.int .i8 0, .int .i64 0, .int .i64 0, .int .i64 0, .bool false, .slice none 0 0, .int .i64 0, .int .i64 0, .int .i64 0, .int .i64 0, .int .i64 0, .int .i64 0]) (cs := [_, _, _, _, _, _, _, _, _, _, _, _]) S M rfl rfl (by kernel_rfl) rfl (rfl) ?_; intro a w8 bN S M hB
 refine nxC ⟨fun _ => hB, ?_⟩
 refine k_one 7 rfl (by kernel_rfl) ?_
 refine st_append (e := 273) (sz := 12) (by_ := 112) (zc := [.int .i8 0, .int .i64 0, .int .i64 0, .int .i64 0, .bool false, .slice none 0 0, .int .i64 0, .int .i64 0, .int .i64 0, .int .i64 0, .int .i64 0, .int .i64 0]) S M 3 rfl rfl (by kernel_rfl) rfl (by decide) rfl rfl rfl (show Rd _ _ _ 12 _ 1 r.cL from M.sliceAt 0 rfl (M.cellsAt (k := 12) 0 rfl rfl) rfl (Nat.le_refl _) (by unfold maxLen; omega)) (rfl) (by omega) (by unfold maxLen; omega) ?_; intro a w9 vA loA hiA S M
 refine nxC ⟨fun h => absurd h (by decide), ?_⟩
 refine kP 8 S ?_; intro a S
 refine kF 9 24 S ?_; intro a S
 refine k_one 10 rfl (by kernel_rfl) ?_
 obtain ⟨aA, cA, rfl, -, -⟩ := (M.readAll 0 rfl (by unfold maxLen; omega)).form
 rw [← rcsC_snoc] at M
 have hsn : s.op.length + 1 = (s.op ++ [r]).length := by rw [List.length_append]; rfl
 rw [hsn] at S M
 refine qS (sz := 1) (us := [_]) S M 3 ?_; intro w10 M
 refine nxC ⟨fun h => absurd h (by decide), ?_⟩
 refine k_end (by kernel_rfl) ?_
 replace S := S.keep [0, 1, 3, 4, 11]
 refine nxE (qR [10, 1, 3, 1] S M ?_); intro a S
 refine nxC (qf 32 S ?_ ?_)
 ·intro h32 S
  refine cF S (wp_skip (end_noneN S rfl ?_))
  first
   | (rw [Ls.commit_no (by omega), Ls.comm_yes hk]
      have M3 := (M.drop 1).perm (List.Perm.swap _ _ _)
      exact ⟨rfl, _, _, _, _, by simpa only [opE, opV, List.length_set] using M3⟩)
   | (rw [Ls.commit_no (by omega), Ls.comm_no (fdI_neg (by omega))]
      exact ⟨rfl, _, _, _, _, ((M.drop 1).drop 1).perm (List.Perm.swap _ _ _)⟩)
   | (rw [Ls.commit_yes (by omega), Ls.comm_yes hk]
      have M3 := (M.drop 1).perm (List.Perm.swap _ _ _)
      rw [lgC_map _ _ _ (by omega)] at M3
      exact ⟨rfl, _, _, _, _, by simpa only [opE, opV, List.length_set] using M3⟩)
   | (rw [Ls.commit_yes (by omega), Ls.comm_no (fdI_neg (by omega))]
      have M3 := ((M.drop 1).drop 1).perm (List.Perm.swap _ _ _)
      rw [lgC_map _ _ _ (by omega)] at M3
      exact ⟨rfl, _, _, _, _, M3⟩)
 intro h32 S
 refine cT S (wp_regionK [10] #[false, false, false, false, false, false, false, false, false, false, false] rfl M (by kernel_rfl) ?_); intro w11 M
 refine kP 0 S ?_; intro a S
 refine kF 1 9 S ?_; intro a S
 refine kF 2 0 S ?_; intro a S
 refine kR 3 S rfl M (fun w M => qV S M 2) ?_; intro a S
 refine kF 4 9 S ?_; intro a S
 refine kF 5 1 S ?_; intro a S
 refine kR 6 S rfl M (fun w M => y_load S (by kernel_rfl) rfl (M.cell 2 rfl ((show _ = some (Value.int .i64 r.ct) from rfl)))) ?_; intro a S
 refine kP 7 S ?_; intro a S
 refine kF 8 14 S ?_; intro a S
 refine k_pure 9 S rfl (fun w => y_indexA (m := 8) (sz := 1) S (by kernel_rfl) rfl rfl (by first | omega | (simp; done) | (simp; omega))) ?_; intro a S
 try simp only [Int.toNat_natCast, Nat.mul_one, Nat.zero_add] at S
 refine k_one 10 rfl (by kernel_rfl) ?_
 refine st_store (sz := 1) (us := [_]) S M 3 rfl (by kernel_rfl) rfl rfl rfl rfl rfl rfl (by first | (show 14 + r.cs.toNat + 1 ≤ 25; omega) | (show 15 + r.cs.toNat + 1 ≤ 26; omega)) ?_; intro w12 M
 simp only [List.set_cons_zero, List.set_cons_succ] at M
 refine nxC ⟨fun h => absurd h (by decide), ?_⟩
 refine k_end (by kernel_rfl) ?_
 refine end_noneN S rfl ?_
 first
  | (rw [Ls.commit_no (by omega), Ls.comm_yes hk]
     have M3 := (M.drop 1).perm (List.Perm.swap _ _ _)
     exact ⟨rfl, _, _, _, _, by simpa only [opE, opV, List.length_set] using M3⟩)
  | (rw [Ls.commit_no (by omega), Ls.comm_no (fdI_neg (by omega))]
     exact ⟨rfl, _, _, _, _, ((M.drop 1).drop 1).perm (List.Perm.swap _ _ _)⟩)
  | (rw [Ls.commit_yes (by omega), Ls.comm_yes hk]
     have M3 := (M.drop 1).perm (List.Perm.swap _ _ _)
     rw [lgC_map _ _ _ (by omega)] at M3
     exact ⟨rfl, _, _, _, _, by simpa only [opE, opV, List.length_set] using M3⟩)
  | (rw [Ls.commit_yes (by omega), Ls.comm_no (fdI_neg (by omega))]
     have M3 := ((M.drop 1).drop 1).perm (List.Perm.swap _ _ _)
     rw [lgC_map _ _ _ (by omega)] at M3
     exact ⟨rfl, _, _, _, _, M3⟩)
abbrev e8 : Int → Value := fun z => .int .i8 z
theorem key8 : KeyT Tryz.prog 38 e8 := key_i8 Tryz.underlying38
set_option maxRecDepth 100000 in
theorem zero_fn (w : World) : (zeroValue 370).run Tryz.prog w = .ok .nilFunc w := by
 obtain ⟨i, hi, hz⟩ : ∃ i, Tryz.prog.info? 370 = some i ∧ i.zero = some .nilFunc := by
  refine ⟨_, rfl, ?_⟩
  kernel_rfl
 simp [zeroValue, typeInfo, hi, hz, go_sem]
def methK (k : Int) : Nat := if k = 4 then 213 else if k = 5 then 214 else 215
theorem methK_enters {k : Int} (h : k = 4 ∨ k = 5 ∨ k = 6) : Enters Tryz.prog (methK k) := by
 rcases h with rfl | rfl | rfl
 ·exact enters_of Tryz.func213 (by decide) rfl
 ·exact enters_of Tryz.func214 (by decide) rfl
 ·exact enters_of Tryz.func215 (by decide) rfl
def tabM (p : Value) : Mes Int × Nat := let a := putM e8 [] 0 4 (.func (.func 213) #[p] #[]); let c := putM e8 a.1 a.2 5 (.func (.func 214) #[p] #[]); putM e8 c.1 c.2 6 (.func (.func 215) #[p] #[])
theorem tabM_get (p : Value) {k : Int} (h : k = 4 ∨ k = 5 ∨ k = 6) : (getM (tabM p).1 k).getD .nilFunc = .func (.func (methK k)) #[p] #[] ∧ decide (k ∈ (tabM p).1.map (·.1)) = true := by
 rcases h with rfl | rfl | rfl <;> exact ⟨rfl, rfl⟩
theorem tabM_good (p : Value) : Good e8 (tabM p).1 (tabM p).2 := ((((good_nil 0).put 4 _).put 5 _).put 6 _)
theorem meth1_any {wc w : World} {H : List Ent} {b lo hi : Nat} (dv : Value) (s : Ls) (va : Option Addr) (vc : Nat) (r : Rc) (wv : Value) (M : Mem wc w (.blk b (lgC dv s (opV va vc s.op)).toArray 206 :: opE lo hi va vc s.op :: H)) (hl : s.op.length ≤ 1000) (hc : r.cs < 8) (hk : r.kind = 4 ∨ r.kind = 5 ∨ r.kind = 6) :
 Calls Tryz.prog (methK r.kind) #[.pointer (some ⟨b, 1, none⟩), .agg (r.cells wv)] w fun e w' => e = .returned (.tuple #[]) ∧ ∃ lo2 hi2 va2 vc2, Mem wc w' (.blk b (lgC dv (s.take r) (opV va2 vc2 (s.take r).op)).toArray 206 :: opE lo2 hi2 va2 vc2 (s.take r).op :: H) := by
 unfold Ls.take
 rcases hk with h | h | h
 ·rw [show methK r.kind = 213 by rw [h]; rfl, if_pos h]; exact commit1_any dv s va vc r wv M hl hc
 ·rw [show methK r.kind = 214 by rw [h]; rfl, if_neg (by omega), if_pos h]; exact end1_any dv s va vc r wv M hl
 ·rw [show methK r.kind = 215 by rw [h]; rfl, if_neg (by omega), if_neg (by omega)]
  refine (stamps1_any dv s _ r wv M).mono ?_
  rintro e w' ⟨rfl, M2⟩
  exact ⟨rfl, lo, hi, va, vc, M2⟩
set_option maxHeartbeats 1000000 in
theorem take1_any {wc w : World} {H : List Ent} {b lo hi : Nat} (dv : Value) (s : Ls) (va : Option Addr) (vc : Nat) (r : Rc) (wv : Value) (M : Mem wc w (.blk b (lgC dv s (opV va vc s.op)).toArray 206 :: opE lo hi va vc s.op :: H)) (hl : s.op.length ≤ 1000) (hc : r.cs < 8) (hk : r.kind = 4 ∨ r.kind = 5 ∨ r.kind = 6) :
 Calls Tryz.prog 143 #[.pointer (some ⟨b, 1, none⟩), .agg (r.cells wv)] w fun e w' => e = .returned (.bool true) ∧ ∃ lo2 hi2 va2 vc2, Mem wc w' (.blk b (lgC dv (s.take r) (opV va2 vc2 (s.take r).op)).toArray 206 :: opE lo2 hi2 va2 vc2 (s.take r).op :: H) := by
 refine qI Tryz.func143 28 ?_; intro a S
 refine wp_seq ?_
 skip
 refine wp_region_lit (st_box S M rfl rfl rfl #[_, _, _, _, _, _, _, _, _, _, _, _] rfl ?_); intro a w1 bX S M hB
 refine qG [1] S ?_; intro a S
 refine nxA (st_makeMap (κ := Int) S M rfl rfl ?_); intro a w2 bMP S M hB
 refine qG [1] S ?_; intro a S
 refine qY S (y_makeFunc (fs := [.tmp 9]) (cs := []) S rfl rfl) ?_; intro a S
 refine st_insertM (pos := 0) S M (key8) (good_nil _) Tryz.underlying371 rfl rfl rfl rfl rfl ?_; intro w3 M
 simp only [List.set_cons_zero, List.set_cons_succ] at M
 refine qG [1] S ?_; intro a S
 refine qY S (y_makeFunc (fs := [.tmp 11]) (cs := []) S rfl rfl) ?_; intro a S
 refine st_insertM (pos := 0) S M (key8) ((good_nil _).put 4 _) Tryz.underlying371 rfl rfl rfl rfl rfl ?_; intro w4 M
 simp only [List.set_cons_zero, List.set_cons_succ] at M
 refine qG [1] S ?_; intro a S
 refine qY S (y_makeFunc (fs := [.tmp 13]) (cs := []) S rfl rfl) ?_; intro a S
 refine st_insertM (pos := 0) S M (key8) (((good_nil _).put 4 _).put 5 _) Tryz.underlying371 rfl rfl rfl rfl rfl ?_; intro w5 M
 simp only [List.set_cons_zero, List.set_cons_succ] at M
 refine qG [1, 1] S ?_; intro a S
 refine nxC (wp_seq ?_)
 obtain ⟨tm, htm⟩ : ∃ tm, tabM (.pointer (some ⟨b, 1, none⟩)) = tm := ⟨_, rfl⟩
 have hg := tabM_get (.pointer (some ⟨b, 1, none⟩)) hk
 have hG := tabM_good (.pointer (some ⟨b, 1, none⟩))
 replace M : Mem wc w5 (mapX bMP (tabM (.pointer (some ⟨b, 1, none⟩))).1 (tabM (.pointer (some ⟨b, 1, none⟩))).2 :: .blk bX (r.cells wv) 273 :: .blk b (lgC dv s (opV va vc s.op)).toArray 206 :: opE lo hi va vc s.op :: H) := M
 rw [htm] at hg hG M
 refine wp_region_lit (qR [1, 1, 2] S M ?_); intro a S
 refine qY S (y_lookupM (pos := 0) S M (key8) (hG) Tryz.underlying371 (zero_fn) rfl rfl rfl) ?_; intro a S
 simp only [hg.1, hg.2, if_true] at S
 refine qY S (y_move S rfl) ?_; intro a S
 refine qG [1, 1, 1, 1] S ?_; intro a S
 replace S := S.keep [0, 1, 3, 4, 5, 6, 7]
 refine nxC (wp_seq (nxD (qG [1] S ?_))); intro a S
 refine nxC (qf 23 S ?_ ?_)
 ·intro h23 S
  first | cases h23 | (simp at h23)
 intro h23 S
 refine cT S ?_
 skip
 replace M := M.ord [3, 3] (by simp only [ordO, oG, oS, oE, oZ, oB] <;> rfl)
 refine wp_region_lit (qG [1] S ?_); intro a S
 refine qY S (qL12 S M 3) ?_; intro a S
 refine st_callB (xs := [.tmp 25]) (fi := [_]) (ca := []) S (methK_enters hk) rfl rfl (rfl) rfl (meth1_any dv s va vc r wv M hl hc hk) ?_
 rintro _ w6 ⟨rfl, lo2, hi2, va2, vc2, M2⟩; refine ⟨_, rfl, ?_⟩; intro a S; have M := M2; clear M2
 refine nxA (qG [1, 1] S ?_); intro a S
 refine nxC (wp_ret (qO S ?_))
 exact ⟨rfl, lo2, hi2, va2, vc2, (M.drop 2).drop 2⟩
theorem write_le {S0 : DS} (hw : ∀ k, (S0.cache k).length ≤ 1000) (k : Int) (bs : List UInt8) (j : Int) : ((S0.write k bs).cache j).length ≤ 1000000 := by have := write_cache_le (k := k) (bs := bs) hw j; omega
theorem super_any {wc w : World} {A E : List Ent} {b : Nat} {S0 : DS} (s : Su) (hE : DkE b S0 E) (M : Mem wc w (A ++ E)) (hup : S0.down = false) (hm : s.may) (hw : ∀ k, (S0.cache k).length ≤ 1000) :
 Calls Tryz.prog 105 #[.pointer (some ⟨b, 0, none⟩), .agg s.cellsL.toArray] w fun e w' => e = .returned (.int .i64 0) ∧ ∃ E', DkE b (S0.write (s.gen % 2) (supS s)).flush E' ∧ Mem wc w' (A ++ E') := by
 refine qI Tryz.func105 14 ?_; intro a S
 refine nxD (st_box S M rfl rfl rfl #[_, _, _, _, _, _, _, _, _, _, _, _, _] rfl ?_); intro a w1 bB S M hB
 refine qG [1] S ?_; intro a S
 refine nxC (wp_seq (nxD (qG [1] S ?_))); intro a S
 refine qY S (qL13 S M 0) ?_; intro a S
 refine qC (xs := [.tmp 6, .tmp 7]) S (qE Tryz.func139) rfl (putSuper_any (A := _ :: A) s hE M hup hm (fun k => by have := hw k; omega)) ?_
 rintro _ w2 ⟨rfl, E1, hE1, M1⟩; refine ⟨_, rfl, ?_⟩; intro a S; have M := M1; clear M1
 simp only [List.cons_append] at M
 refine qG [1] S ?_; intro a S
 refine nxA (qG [1, 1] S ?_); intro a S
 refine nxC (qi 10 S ?_ ?_)
 ·intro h10 S
  exact absurd rfl h10
 intro h10 S
 refine cF S (wp_skip (nxE (qG [1] S ?_))); intro a S
 refine qC (xs := [.tmp 12]) S (qE Tryz.func140) rfl (flush_any (A := _ :: A) hE1 M hup (write_le hw _ _)) ?_
 rintro _ w3 ⟨rfl, E2, hE2, M1⟩; refine ⟨_, rfl, ?_⟩; intro a S; have M := M1; clear M1
 simp only [List.cons_append] at M
 refine qG [1] S ?_; intro a S
 refine nxC (wp_ret (qO S ?_))
 exact ⟨rfl, E2, hE2, M.drop 0⟩
set_option maxHeartbeats 1000000 in
theorem begin_any {wc w : World} {A E : List Ent} {b bd : Nat} {S0 : DS} (s : Ls) (v : Value) (hE : DkE bd S0 E) (M : Mem wc w (.blk b (lgC (.pointer (some ⟨bd, 0, none⟩)) s v).toArray 206 :: (A ++ E))) (hup : S0.down = false) (hm : (begunSu s.su).may) (hw : ∀ k, (S0.cache k).length ≤ 1000) :
 Calls Tryz.prog 109 #[.pointer (some ⟨b, 0, none⟩)] w fun e w' => e = .returned (.tuple #[.int .i64 (s.su.inc + 1), .int .i64 0]) ∧ ∃ E', DkE bd (S0.write ((begunSu s.su).gen % 2) (supS (begunSu s.su))).flush E' ∧ Mem wc w' (.blk b (lgC (.pointer (some ⟨bd, 0, none⟩)) { s with su := begunSu s.su } v).toArray 206 :: (A ++ E')) := by
 have hb : s.su.inc + 1 ≤ 1048576 ∧ 0 ≤ s.su.inc + 1 ∧ 0 ≤ s.su.gen + 1 ∧ s.su.gen + 1 ≤ 1099511627776 := by
  obtain ⟨h0, h1, h2, h3, h4, h5, h6, h7, h8, h9⟩ := hm
  simp only [begunSu] at h1 h2 h7 h8
  omega
 refine qI Tryz.func109 44 ?_; intro a S
 refine wp_seq ?_
 skip
 refine wp_region_lit (qG [1, 1] S ?_); intro a S
 refine nxC (wp_seq (nxD (qG [1] S ?_))); intro a S
 refine qY S (y_eqlPS (by kernel_rfl) S rfl) ?_; intro a S
 refine nxC (cF S (wp_skip (then_normal (wp_seq (nxD (qR [1, 1, 2, 1, 4, 1, 1] S M ?_)))))); intro a S
 refine nxC (qi 14 S ?_ ?_)
 ·intro h14 S
  omega
 intro h14 S
 refine cF S (wp_skip (nxE (qG [1, 1, 2, 1] S ?_))); intro a S
 refine qY S (qL13 S M 0) ?_; intro a S
 refine qN S M #[.int .i64 0, .int .i64 0, .int .i64 0, .int .i64 0, .int .i64 0, .int .i64 0, .int .i64 0, .int .i64 0, .int .i64 0, .int .i64 0, .int .i64 0, .int .i64 0, .int .i64 0] ?_; intro a w1 bU S M hB
 refine qS (sz := 13) (us := [_, _, _, _, _, _, _, _, _, _, _, _, _]) S M 0 ?_; intro w2 M
 refine nxA (qR [4, 1] S M ?_); intro a S
 refine qA S ?_; intro a S
 refine qG [4] S ?_; intro a S
 refine qS (sz := 1) (us := [_]) S M 0 ?_; intro w3 M
 replace S := S.keep [0, 2, 3, 7, 14, 4]
 refine nxA (qR [1, 1] S M ?_); intro a S
 refine qA S ?_; intro a S
 refine qG [1] S ?_; intro a S
 refine qS (sz := 1) (us := [_]) S M 0 ?_; intro w4 M
 refine nxC (wp_seq (wp_seq (wp_regionK [5] #[false, false, false, false, false, false, false] rfl M (by kernel_rfl) ?_))); intro w5 M
 refine kP 0 S ?_; intro a S
 refine kP 1 S ?_; intro a S
 refine kF 2 0 S ?_; intro a S
 refine kR 3 S rfl M (fun w M => qV S M 1) ?_; intro a S
 refine kR 4 S rfl M (fun w M => qL13 S M 0) ?_; intro a S
 refine k_one 5 rfl (by kernel_rfl) ?_
 refine qC (xs := [.tmp 31, .tmp 32]) S (qE Tryz.func105) rfl (super_any (A := _ :: _ :: A) (begunSu s.su) hE M hup hm hw) ?_
 rintro _ w6 ⟨rfl, E1, hE1, M1⟩; refine ⟨_, rfl, ?_⟩; intro a S; have M := M1; clear M1
 simp only [List.cons_append] at M
 refine nxC ⟨fun h => absurd h (by decide), ?_⟩
 refine kP 6 S ?_; intro a S
 refine k_end (by kernel_rfl) ?_
 refine nxE (qG [1, 1] S ?_); intro a S
 refine nxC (qi 35 S ?_ ?_)
 ·intro h35 S
  exact absurd rfl h35
 intro h35 S
 refine cF S (wp_skip (nxE (qG [1] S ?_))); intro a S
 refine qY S (qL13 S M 0) ?_; intro a S
 refine qG [1, 2, 1] S ?_; intro a S
 refine qS (sz := 13) (us := [_, _, _, _, _, _, _, _, _, _, _, _, _]) S M 1 ?_; intro w7 M
 replace S := S.keep [0, 2, 3, 7, 14, 4, 5, 35]
 refine nxA (qR [4, 1, 1, 1] S M ?_); intro a S
 refine nxC (wp_ret (qOO S ?_))
 exact ⟨rfl, E1, hE1, M.drop 0⟩
set_option maxHeartbeats 1000000 in
theorem formatM_any {wc w : World} {A E : List Ent} {b : Nat} {S0 : DS} (m : Su) (hm : m.mapOk) (hE : DkE b S0 E) (M : Mem wc w (A ++ E)) (hup : S0.down = false) (hw : ∀ k, (S0.cache k).length ≤ 1000) :
 Calls Tryz.prog 72 #[pB b, .agg (mapL m).toArray] w fun e w' => e = .returned (.int .i64 0) ∧ ∃ E', DkE b (S0.write ((suM m).gen % 2) (supS (suM m))).flush E' ∧ Mem wc w' (A ++ E') := by
 unfold mapL
 refine qI Tryz.func72 28 ?_; intro a S
 refine nxD (st_box S M rfl rfl rfl #[_, _, _, _, _, _, _, _] rfl ?_); intro a w1 bF S M hB
 refine qG [1] S ?_; intro a S
 refine nxC (wp_seq (nxD (qG [1] S ?_))); intro a S
 refine qY S (y_eqlPS (by kernel_rfl) S rfl) ?_; intro a S
 refine nxC (cF S (wp_skip (nxE (qQ (xs := []) S (qE Tryz.func104) rfl (firstH_any _) M ?_)))); intro a w2 S hK M
 refine qN S M #[.int .i64 0, .int .i64 0, .int .i64 0, .int .i64 0, .int .i64 0, .int .i64 0, .int .i64 0, .int .i64 0, .int .i64 0, .int .i64 0, .int .i64 0, .int .i64 0, .int .i64 0] ?_; intro a w3 bU S M hB
 refine qS (sz := 13) (us := [_, _, _, _, _, _, _, _, _, _, _, _, _]) S M 0 ?_; intro w4 M
 refine nxC (wp_seq (wp_regionKC (C := fun W => Blk W bF #[.int .i64 m.m0, .int .i64 m.m1, .int .i64 m.m2, .int .i64 m.m3, .int .i64 m.m4, .int .i64 m.m5, .int .i64 m.m6, .int .i64 m.m7] 66) [2, 4] #[false, false, false, false, false] rfl M (by kernel_rfl) ?_)); intro w5 M; have hC := M.blk 1 rfl
 refine kc_readC 0 S rfl hC (fun w hC => y_loadAgg (cs := [_, _, _, _, _, _, _, _]) S (by kernel_rfl) rfl rfl (Blk.cellsAt (o := 0) (k := 8) hC rfl)) ?_; intro a S
 refine kcF 1 0 S hC ?_; intro a S
 refine kc_one 2 rfl (by kernel_rfl) ?_
 refine qS (sz := 1) (us := [_]) S M 0 ?_; intro w6 M
 replace hC := M.blk 1 rfl
 refine nxC ⟨fun h => absurd h (by decide), hC, ?_⟩
 refine kcF 3 5 S hC ?_; intro a S
 refine kc_one 4 rfl (by kernel_rfl) ?_
 refine qS (sz := 8) (us := [_, _, _, _, _, _, _, _]) S M 0 ?_; intro w7 M
 replace hC := M.blk 1 rfl
 refine nxC ⟨fun h => absurd h (by decide), hC, ?_⟩
 refine kc_end (by kernel_rfl) ?_
 refine then_normal (wp_seq (nxD (qY S (qL8 S M 1) ?_))); intro a S
 refine qG [1] S ?_; intro a S
 refine nxC (wp_block (wp_loop_g (fun q a w' => ∃ (k : Nat), k ≤ 8 ∧ q = 8 - k ∧ Sees 28 a [(0, pB b), (5, pB bU), (14, .agg #[.int .i64 m.m0, .int .i64 m.m1, .int .i64 m.m2, .int .i64 m.m3, .int .i64 m.m4, .int .i64 m.m5, .int .i64 m.m6, .int .i64 m.m7]), (15, .int .i64 (k : Int))] ∧ Mem wc w' (.blk bU (suM m).cellsL.toArray 73 :: .blk bF #[.int .i64 m.m0, .int .i64 m.m1, .int .i64 m.m2, .int .i64 m.m3, .int .i64 m.m4, .int .i64 m.m5, .int .i64 m.m6, .int .i64 m.m7] 66 :: (A ++ E))) (8) ?_ ?_))
 ·skip
  exact ⟨0, Nat.zero_le _, rfl, S.sub _ rfl, M⟩
 intro m a wl
 rintro ⟨k, hk, rfl, S, M⟩
 refine nxD (qG [1] S ?_); intro a S
 refine nxC (wp_seq (qf 16 S ?_ ?_))
 ·intro h16 S
  refine cF S (wp_exit (then_exit (then_exit (block_hit (nxE (qG [1] S ?_)))))); intro a S
  refine qY S (qL13 S M 0) ?_; intro a S
  refine qC (xs := [.tmp 25, .tmp 26]) S (qE Tryz.func105) rfl (super_any (A := _ :: _ :: A) (suM m) hE M hup (suM_may hm) hw) ?_
  rintro _ w8 ⟨rfl, E1, hE1, M1⟩; refine ⟨_, rfl, ?_⟩; intro a S; have M := M1; clear M1
  simp only [List.cons_append] at M
  refine qG [1] S ?_; intro a S
  refine nxC (wp_ret (qO S ?_))
  exact ⟨rfl, E1, hE1, (M.drop 0).drop 0⟩
 intro h16 S
 refine cT S (wp_skip (then_normal (wp_seq (wp_block (wp_seq ?_)))))
 have hmk := hm k (by omega)
 refine wp_region_lit (qY S (y_indexP (m := 8) (sz := 1) S (by kernel_rfl) (fun e he => by cases he.symm.trans (show _ = some (.array 8 3) by kernel_rfl); kernel_rfl) rfl rfl (by first | omega | (simp; done) | (simp; omega)) (show _ = some (Value.int .i64 (m.mAt k)) from (by rw [Int.toNat_natCast, Nat.mul_one]; rcases lt8 (show k < 8 by omega) with rfl | rfl | rfl | rfl | rfl | rfl | rfl | rfl <;> rfl))) ?_); intro a S
 refine qG [1] S ?_; intro a S
 refine nxA (qG [1, 1, 1] S ?_); intro a S
 refine qi 20 S ?_ ?_
 ·intro h20 S
  exfalso; omega
 intro h20 S
 refine qG [1, 1, 1] S ?_; intro a S
 refine nxC (qi 23 S ?_ ?_)
 ·intro h23 S
  exfalso; first | omega | (simp at h23; omega)
 intro h23 S
 refine cF S (wp_skip (block_normal (nxF (qA S ?_)))); intro a S
 refine qG [1] S ?_; intro a S
 refine nxC ?_
 exact ⟨8 - (k + 1), by omega, k + 1, by omega, rfl, S.sub _ rfl, M⟩
def opI (op : List Rc) (i : Nat) : List Rc := (op.take i).map clrR ++ op.drop i
abbrev lgE (b bd : Nat) (s : Ls) (va : Option Addr) (vc : Nat) : Ent := .blk b (lgC (.pointer (some ⟨bd, 0, none⟩)) s (opV va vc s.op)).toArray 206

abbrev r5 (nm : Nm) : Rc := { Rc.zero with kind := 5, name := nm }
abbrev r6 (n : Int) : Rc := { Rc.zero with kind := 6, n := n }
def DidP (wc : World) (A : List Ent) (b bd : Nat) (s s2 : Ls) (T : List Nm) (K : Int) (w' : World) (q : DS → Prop := fun _ => True) : Prop := ∃ S1 E' va2 vc2 lo2 hi2, LInv S1 s2 T K ∧ q S1 ∧ DkE bd S1 E' ∧ Mem wc w' (lgE b bd s2 va2 vc2 :: opE lo2 hi2 va2 vc2 s2.op :: (A ++ E'))
theorem unfinished_any {b : Nat} (dv : Value) (s : Ls) (va : Option Addr) (vc : Nat) (w : World) (B : Blk w b (lgC dv s (opV va vc s.op)).toArray 206) (hv : Rd 0 w.heap.size w 12 (opV va vc s.op) s.op.length (rcsC s.op)) (hl : s.op.length ≤ 1000) :
 Calls Tryz.prog 117 #[.pointer (some ⟨b, 0, none⟩)] w fun e w' => ∃ ra rc, e = .returned (opV ra rc s.op) ∧ Fresh w w' 273 12 (opV ra rc s.op) s.op.length (rcsC s.op) := by
 have M := Mem.start w
 refine qI Tryz.func117 11 ?_; intro a S
 refine nxD (qG [1] S ?_); intro a S
 refine nxC (wp_seq (nxD (qG [1] S ?_))); intro a S
 refine qY S (y_eqlPS (by kernel_rfl) S rfl) ?_; intro a S
 refine nxC (cF S (wp_skip (nxE (qG [1, 1, 2, 25] S ?_)))); intro a S
 refine qY S (y_load S (by kernel_rfl) rfl (by rw [(B.cells0 M.below).cells]; rfl)) ?_; intro a S
 refine qC (xs := [.tmp 9]) S (qE Tryz.func150) rfl (cloneR_any _ s.op _ (M.argW hv) (by omega)) ?_
 rintro _ w1 ⟨v2, rfl, hF⟩; refine ⟨_, rfl, ?_⟩; intro a S
 obtain ⟨ra, rc, rfl, -, -⟩ := (hF.rd (by unfold maxLen; omega)).form
 refine qG [1] S ?_; intro a S
 refine nxC (wp_ret (qO S ?_))
 exact ⟨ra, rc, rfl, hF.from M.below⟩
theorem bound_any {b : Nat} (dv : Value) (s : Ls) (v : Value) (w : World) (B : Blk w b (lgC dv s v).toArray 206) :
 Calls Tryz.prog 112 #[.pointer (some ⟨b, 0, none⟩)] w fun e w' => e = .returned (.int .i64 s.cu.bound) ∧ Below w.heap.size w w' := by
 have M := Mem.start w
 refine qI Tryz.func112 10 ?_; intro a S
 refine nxD (qG [1] S ?_); intro a S
 refine nxC (wp_seq (nxD (qG [1] S ?_))); intro a S
 refine qY S (y_eqlPS (by kernel_rfl) S rfl) ?_; intro a S
 refine nxC (cF S (wp_skip (nxE (qG [1, 1, 2, 14] S ?_)))); intro a S
 refine qY S (y_load S (by kernel_rfl) rfl (by rw [(B.cells0 M.below).cells]; rfl)) ?_; intro a S
 refine qG [1] S ?_; intro a S
 refine nxC (wp_ret (qO S ?_))
 exact ⟨rfl, M.below⟩
theorem map_any {b : Nat} (dv : Value) (s : Ls) (v : Value) (w : World) (B : Blk w b (lgC dv s v).toArray 206) :
 Calls Tryz.prog 56 #[.pointer (some ⟨b, 0, none⟩)] w fun e w' => e = .returned (.agg #[.int .i64 s.cu.m0, .int .i64 s.cu.m1, .int .i64 s.cu.m2, .int .i64 s.cu.m3, .int .i64 s.cu.m4, .int .i64 s.cu.m5, .int .i64 s.cu.m6, .int .i64 s.cu.m7]) ∧ Below w.heap.size w w' := by
 have M := Mem.start w
 refine qI Tryz.func56 11 ?_; intro a S
 refine nxD (qN S M #[.int .i64 0, .int .i64 0, .int .i64 0, .int .i64 0, .int .i64 0, .int .i64 0, .int .i64 0, .int .i64 0] ?_); intro a w1 bZ S M hB
 refine nxC (wp_seq (nxD (qG [1] S ?_))); intro a S
 refine qY S (y_eqlPS (by kernel_rfl) S rfl) ?_; intro a S
 refine nxC (cF S (wp_skip (nxE (qG [1, 1, 2, 15] S ?_)))); intro a S
 refine qY S (y_loadAgg S (by kernel_rfl) rfl rfl (show CellsAt _ b 15 [.int .i64 s.cu.m0, .int .i64 s.cu.m1, .int .i64 s.cu.m2, .int .i64 s.cu.m3, .int .i64 s.cu.m4, .int .i64 s.cu.m5, .int .i64 s.cu.m6, .int .i64 s.cu.m7] from Blk.cellsAt (o := 15) (k := 8) (B.cells0 M.below) rfl)) ?_; intro a S
 refine qS (sz := 8) (us := [_, _, _, _, _, _, _, _]) S M 0 ?_; intro w2 M
 refine nxC (wp_ret (end_one S rfl (res_agg (cs := [_, _, _, _, _, _, _, _]) (by kernel_rfl) rfl rfl (M.cellsAt (k := 8) 0 rfl rfl)) ?_))
 exact ⟨rfl, M.below⟩
def stI (su : Su) (n : Int) (L : List RI) (k : Nat) : Ls := ⟨su, (runK (curOf su, []) ((L.take k).map (·.1))).1, n, (runK (curOf su, []) ((L.take k).map (·.1))).2⟩
theorem stI_step (su : Su) (n : Int) {L : List RI} {k : Nat} {p : RI} (h : L[k]? = some p) : (stI su n L k).take p.1 = stI su n L (k + 1) := by
 rw [take_eq]
 unfold stI
 rw [List.take_add_one, h, List.map_append, runK_append]
 rfl
theorem stI_len (su : Su) (n : Int) (L : List RI) : ∀ k, (stI su n L k).op.length ≤ k
 | 0 => by simp [stI, runK]
 | k + 1 => by
   have ih := stI_len su n L k
   rcases Nat.lt_or_ge k L.length with h | h
   ·have h1 := stI_step su n (List.getElem?_eq_getElem h)
    have h2 := Ls.take_len (stI su n L k) L[k].1
    rw [h1] at h2; omega
   ·have e : stI su n L (k + 1) = stI su n L k := by unfold stI; rw [List.take_of_length_le (by omega), List.take_of_length_le (by omega)]
    rw [e]; omega
theorem stI_all {s : Ls} {L : List RI} {c : Nat} (G : LG s L c) : stI s.su s.n L L.length = s := by
 unfold stI
 rw [List.take_length, G.run]
theorem enc_one {r q : Rc} {x : List Wr} (h : q.may x = true) (hr : r.may [] = true) (he : q.enc x = r.enc []) : q = r ∧ x = [] := by
 have e0 : ∀ (r : Rc) (x : List Wr), (r.enc x)[0]? = some (byteOf r.kind) := fun r x => by rw [enc_head r x]; rfl
 have h1 := read_if (bs := r.enc []) (by rw [← he]; exact e0 q x) h he
 have h2 := read_if (bs := r.enc []) (e0 r []) hr rfl
 have e : byteOf q.kind = byteOf r.kind := by
  have h3 := e0 q x
  rw [he, e0 r []] at h3
  exact (Option.some.inj h3).symm
 rw [e, h2] at h1
 simp only [Prod.mk.injEq] at h1
 exact ⟨h1.1.symm, h1.2.1.symm⟩
set_option maxHeartbeats 8000000 in
theorem openL_any {wc w : World} {A E : List Ent} {bd : Nat} {S0 : DS} {K : Int} (s : Ls) (hE : DkE bd S0 E) (M : Mem wc w (A ++ E)) (hI : LInv S0 s [] K) :
 Calls Tryz.prog 107 #[.pointer (some ⟨bd, 0, none⟩)] w fun e w' => ∃ b va vc lo hi, e = .returned (.tuple #[.pointer (some ⟨b, 0, none⟩), .int .i64 0]) ∧ Mem wc w' (lgE b bd s va vc :: opE lo hi va vc s.op :: (A ++ E)) := by
 have hfew := hI.few
 have hup := hI.up
 have hw := hI.cache
 have hmay := hI.may
 obtain ⟨L, D, G, hn⟩ := hI.all
 have hgs := D.sup.gs
 obtain ⟨hsc1, hsc2⟩ := D.ph.scan
 have hLl := D.ph.lt
 rw [← hn] at hsc2
 refine qI Tryz.func107 67 ?_; intro a S
 refine nxD (qG [1, 1] S ?_); intro a S
 refine nxC (wp_seq (nxD (qG [1] S ?_))); intro a S
 refine qY S (y_eqlPS (by kernel_rfl) S rfl) ?_; intro a S
 refine nxC (cF S (wp_skip (nxE (qG [1] S ?_)))); intro a S
 refine qC (xs := [.tmp 16]) S (qE Tryz.func121) rfl (getH_any hE M hup hw) ?_
 rintro _ w1 ⟨rfl, M1⟩; refine ⟨_, rfl, ?_⟩; intro a S; have M := M1; clear M1
 rw [hgs] at S
 refine qG [1, 1, 1] S ?_; intro a S
 refine qN S M #[.int .i64 0, .int .i64 0, .int .i64 0, .int .i64 0, .int .i64 0, .int .i64 0, .int .i64 0, .int .i64 0, .int .i64 0, .int .i64 0, .int .i64 0, .int .i64 0, .int .i64 0] ?_; intro a w2 bU S M hB
 refine qS (sz := 13) (us := [_, _, _, _, _, _, _, _, _, _, _, _, _]) S M 0 ?_; intro w3 M
 refine qG [1] S ?_; intro a S
 refine nxC (wp_seq (nxD (qG [1, 1] S ?_))); intro a S
 refine nxC (qi 21 S ?_ ?_)
 ·intro h21 S
  exact absurd rfl h21
 intro h21 S
 refine cF S (wp_skip (nxE (qR [1, 2, 1] S M ?_))); intro a S
 refine qC (xs := [.tmp 24, .tmp 26]) S (qE Tryz.func141) rfl (Scan_anyG (A := _ :: A) s.su.tail hE M hup hw (by obtain ⟨-, -, -, h4, h5, -⟩ := hmay; omega)) ?_
 rintro _ w4 ⟨rs, ra, rc, rlo, rhi, rfl, hrs, h90, h24, M1⟩; refine ⟨_, rfl, ?_⟩; intro a S
 obtain ⟨F0, hF0⟩ : ∃ F0, F0 = rowE rlo rhi 39 1 (.slice ra rs.length rc) rs.length (rs.map RB.val) :: (rs.map RB.ent ++ (A ++ E)) := ⟨_, rfl⟩
 have hRow : rowE rlo rhi 39 1 (.slice ra rs.length rc) rs.length (rs.map RB.val) ∈ F0 := by rw [hF0]; exact List.mem_cons_self ..
 have hEnt : ∀ r ∈ rs, r.ent ∈ F0 := fun r hr => by rw [hF0]; exact List.mem_cons_of_mem _ (List.mem_append_left _ (List.mem_map_of_mem hr))
 have hSub : (A ++ E).Sublist F0 := by rw [hF0]; exact .cons _ (List.sublist_append_right _ _)
 have M := M1.perm ((List.Perm.cons _ (List.perm_middle (l₁ := rs.map RB.ent))).trans (List.Perm.swap _ _ _))
 simp only [List.append_eq] at M
 rw [← hF0] at M
 clear M1 hF0
 rw [hsc1] at hrs
 rw [hsc2] at S
 have hrl : rs.length = L.length := by
  have := congrArg List.length hrs
  rwa [List.length_map, List.length_map] at this
 refine qG [1, 1, 1, 1] S ?_; intro a S
 refine qN S M #[.int .i64 0, .int .i64 0] ?_; intro a w5 bLg S M hB
 refine qG [1] S ?_; intro a S
 refine qS (sz := 2) (us := [_, _]) S M 0 ?_; intro w6 M
 refine qG [1] S ?_; intro a S
 replace S := S.keep [0, 2, 3, 14, 4, 21, 7, 6, 5]
 refine nxC (wp_seq (nxD (qG [1, 1] S ?_))); intro a S
 refine nxC (qi 32 S ?_ ?_)
 ·intro h32 S
  exact absurd rfl h32
 intro h32 S
 refine cF S (wp_skip (nxE (qG [1] S ?_))); intro a S
 refine qY S (qL13 S M 1) ?_; intro a S
 refine qR [5, 2, 6] S M ?_; intro a S
 refine qY S (qL8 S M 1) ?_; intro a S
 refine qY S (qL2 S M 0) ?_; intro a S
 refine qY S (y_build (ps := [(0, .tmp 35), (1, .tmp 37), (2, .tmp 39), (3, .tmp 40)]) (pl := [(0, 13), (13, 1), (14, 8), (22, 2), (24, 1)]) (z := [.int .i64 0, .int .i64 0, .int .i64 0, .int .i64 0, .int .i64 0, .int .i64 0, .int .i64 0, .int .i64 0, .int .i64 0, .int .i64 0, .int .i64 0, .int .i64 0, .int .i64 0, .int .i64 0, .int .i64 0, .int .i64 0, .int .i64 0, .int .i64 0, .int .i64 0, .int .i64 0, .int .i64 0, .int .i64 0, .int .i64 0, .int .i64 0, .slice none 0 0]) (cs := stC ⟨s.su, curOf s.su, s.n, []⟩ (.slice none 0 0)) S (by kernel_rfl) rfl (by kernel_rfl)) ?_; intro a S
 refine qY S (y_build (ps := [(0, .tmp 34), (1, .tmp 41)]) (pl := [(0, 1), (1, 25)]) (z := [.pointer none, .int .i64 0, .int .i64 0, .int .i64 0, .int .i64 0, .int .i64 0, .int .i64 0, .int .i64 0, .int .i64 0, .int .i64 0, .int .i64 0, .int .i64 0, .int .i64 0, .int .i64 0, .int .i64 0, .int .i64 0, .int .i64 0, .int .i64 0, .int .i64 0, .int .i64 0, .int .i64 0, .int .i64 0, .int .i64 0, .int .i64 0, .int .i64 0, .slice none 0 0]) (cs := lgC (.pointer (some ⟨bd, 0, none⟩)) ⟨s.su, curOf s.su, s.n, []⟩ (.slice none 0 0)) S (by kernel_rfl) rfl (by kernel_rfl)) ?_; intro a S
 refine st_box S M rfl rfl rfl #[_, _, _, _, _, _, _, _, _, _, _, _, _, _, _, _, _, _, _, _, _, _, _, _, _, _] rfl ?_; intro a w7 bX S M hB
 refine qG [1] S ?_; intro a S
 refine nxC (wp_seq (nxD (qG [1] S ?_))); intro a S
 refine qY S (qH 39 S) ?_; intro a S
 refine qG [1] S ?_; intro a S
 refine nxC (wp_block (wp_loop_g (fun m a w' => ∃ (k : Nat) (va : Option Addr) (vc dlo dhi : Nat), k ≤ rs.length ∧ m = rs.length - k ∧ Sees 67 a [(8, .pointer (some ⟨bX, 0, none⟩)), (44, .slice ra rs.length rc), (45, .int .i64 (rs.length : Int)), (46, .int .i64 (k : Int))] ∧ Mem wc w' (lgE bX bd (stI s.su s.n L k) va vc :: opE dlo dhi va vc (stI s.su s.n L k).op :: F0)) (rs.length) ?_ ?_))
 ·skip
  replace M := M.drp 1
  replace M := M.drp 1
  obtain ⟨dlo, dhi, M1⟩ := M.nilRow 273 12
  exact ⟨0, none, 0, dlo, dhi, Nat.zero_le _, rfl, S.sub _ rfl, M1.perm (List.Perm.swap _ _ _)⟩
 intro m a wl
 rintro ⟨k, va, vc, dlo, dhi, hk, rfl, S, M⟩
 have hsl := stI_len s.su s.n L k
 refine nxD (qG [1] S ?_); intro a S
 refine nxC (wp_seq (qf 47 S ?_ ?_))
 ·intro h47 S
  refine cF S (wp_exit (then_exit (then_exit (block_hit (nxE (qG [1, 1, 1] S ?_)))))); intro a S
  refine nxC (wp_ret (qOO S ?_))
  obtain rfl : k = rs.length := by omega
  rw [hrl, stI_all G] at M
  exact ⟨_, va, vc, dlo, dhi, rfl, M.sub (.cons_cons _ (.cons_cons _ hSub))⟩
 intro h47 S
 refine cT S (wp_skip (then_normal (wp_seq (wp_block (wp_seq ?_)))))
 have hkl : k < rs.length := by omega
 obtain ⟨r, hr⟩ : ∃ r, rs[k]? = some r := ⟨_, List.getElem?_eq_getElem hkl⟩
 have hrm := List.mem_of_getElem? hr
 have hr90 := h90 r hrm
 obtain ⟨p, hp⟩ : ∃ p, L[k]? = some p := ⟨_, List.getElem?_eq_getElem (by omega)⟩
 have hpok := (D.ph.ok p (List.mem_of_getElem? hp)).1
 have hbs : r.bs = p.1.enc [] := by
  have h1 : (rs.map RB.bs)[k]? = some r.bs := by rw [List.getElem?_map, hr]; rfl
  rw [hrs, List.getElem?_map, hp] at h1
  exact (Option.some.inj h1).symm
 refine wp_region_lit (qY S (qX 39 1 S ((M.readIn (.tail _ (.tail _ hRow)) (by unfold maxLen; omega)))) ?_); intro a S
 try simp only [Int.toNat_natCast, Nat.mul_one, Nat.zero_add] at S
 refine qY S (y_load S (by kernel_rfl) rfl ((M.readIn (.tail _ (.tail _ hRow)) (by unfold maxLen; omega)).at_.one k (by rw [List.getElem?_map, hr]; rfl))) ?_; intro a S
 refine qG [1] S ?_; intro a S
 refine nxA (qG [1] S ?_); intro a S
 refine qC (xs := [.tmp 51]) S (qE Tryz.func142) rfl (readR_any r.val r.bs _ (M.readIn (.tail _ (.tail _ (hEnt r hrm))) (by unfold maxLen; omega))) ?_
 rintro _ w8 hP; obtain ⟨q, wx, wa, wcp, c, rfl, hF, h8, hs31, hcc⟩ := ReadRP.form hP; refine ⟨_, rfl, ?_⟩; intro a S
 obtain ⟨rfl, rfl, rfl⟩ : c = 0 ∧ q = p.1 ∧ wx = [] := by
  rcases hcc with ⟨h0, h1, h2⟩ | ⟨-, -, -, h1⟩
  ·exact ⟨h0, enc_one h1 hpok.1 (h2.trans hbs)⟩
  ·exact absurd hbs.symm (h1 p.1 [] hpok.1)
 replace M := M.grow hF.below
 refine qG [1, 1, 1] S ?_; intro a S
 refine qN S M #[.int .i8 0, .int .i64 0, .int .i64 0, .int .i64 0, .bool false, .slice none 0 0, .int .i64 0, .int .i64 0, .int .i64 0, .int .i64 0, .int .i64 0, .int .i64 0] ?_; intro a w9 bY S M hB
 refine qS (sz := 12) (us := [_, _, _, _, _, _, _, _, _, _, _, _]) S M 0 ?_; intro w10 M
 refine qG [1] S ?_; intro a S
 refine nxC (wp_seq (wp_regionK [7] #[false, false, false, false, false, false, false, false, false, false] rfl M (by kernel_rfl) ?_)); intro w11 M
 refine kP 0 S ?_; intro a S
 refine k_pure 1 S rfl (fun w => y_int S rfl rfl rfl) ?_; intro a S
 refine kP 2 S ?_; intro a S
 refine qi 57 S ?_ ?_
 ·intro h57 S
  exact absurd rfl h57
 intro h57 S
 refine kP 3 S ?_; intro a S
 refine kP 4 S ?_; intro a S
 refine kF 5 1 S ?_; intro a S
 refine kR 6 S rfl M (fun w M => qL12 S M 0) ?_; intro a S
 refine k_one 7 rfl (by kernel_rfl) ?_
 skip
 replace M := M.ord [2, 2] (by simp only [ordO, oG, oS, oE, oZ, oB] <;> rfl)
 refine qC (xs := [.tmp 60, .tmp 61]) S (qE Tryz.func143) rfl (take1_any (.pointer (some ⟨bd, 0, none⟩)) (stI s.su s.n L k) va vc p.1 (.slice wa 0 wcp) M (by omega) (rec_cs hpok) hpok.2) ?_
 rintro _ w12 ⟨rfl, lo2, hi2, va2, vc2, M1⟩; refine ⟨_, rfl, ?_⟩; intro a S; have M := M1; clear M1
 rw [stI_step s.su s.n hp] at M
 refine nxC ⟨fun h => absurd h (by decide), ?_⟩
 refine k_pure 8 S rfl (fun w => y_not S rfl) ?_; intro a S
 refine k_pure 9 S rfl (fun w => y_pickF S rfl rfl) ?_; intro a S
 refine k_end (by kernel_rfl) ?_
 replace S := S.keep [8, 44, 45, 46, 47, 10, 11, 12, 64]
 refine then_normal (qi 64 S ?_ ?_)
 ·intro h64 S
  first | cases h64 | (simp at h64)
 intro h64 S
 refine cF S (wp_skip (block_normal (nxF (qA S ?_)))); intro a S
 refine qG [1] S ?_; intro a S
 refine nxC ?_
 skip
 replace M := M.drp 2
 exact ⟨rs.length - (k + 1), by omega, k + 1, va2, vc2, lo2, hi2, by omega, rfl, S.sub _ rfl, M⟩
abbrev hdC (pd pl : Value) (si nx bd ki : Int) : List Value := [.bool true, pd, pl, .slice none 0 0, .slice none 0 0, .int .i64 0, .int .i64 si, .slice none 0 0, .int .i64 nx, .int .i64 bd, .int .i64 0, .int .i64 ki, .int .i64 0, .int .i64 0, .int .i64 0, .int .i64 0, .int .i64 0, .int .i8 0, .int .i64 0, .int .i64 0, .int .i64 0, .int .i64 0, .int .i64 0, .int .i64 0, .int .i64 0, .slice none 0 0, .int .i64 0, .int .i64 0, .int .i64 0, .int .i64 0, .int .i64 0]
def sK (m : Su) (k : Nat) : Ls := if k ≤ 1 then s1M m else { s1M m with su := begunSu (suM m) }
def iK (k : Nat) (j : Nat) : Int := if j ≤ k then 1 else 0
abbrev HStE (k : Nat) (m : Su) (bX bI bP bC bd bl : Nat) (cc : List Value) : List Ent := [.blk bX (hdC (pB bd) (pB bl) (iK k 4) (iK k 3) (iK k 3) (iK k 6)).toArray 123, .blk bI #[.int .i64 (iK k 2)] 3, .blk bP #[pB bC] 184, .blk bC cc.toArray 130]
def HSt (wc : World) (A : List Ent) (m : Su) (bX bI bP bC bd : Nat) (cc : List Value) : Nat → World → Prop
 | 0, w => ∃ E, DkE bd (DS.new.write ((suM m).gen % 2) (supS (suM m))).flush E ∧ Mem wc w (.blk bX (hdC (pB bd) (.pointer none) 0 0 0 0).toArray 123 :: .blk bI #[.int .i64 0] 3 :: .blk bP #[pB bC] 184 :: .blk bC cc.toArray 130 :: (A ++ E))
 | k + 1, w => ∃ S bl va vc lo hi E, LInv S (sK m (k + 1)) [] 0 ∧ DkE bd S E ∧ Mem wc w (HStE (k + 1) m bX bI bP bC bd bl cc ++ (lgE bl bd (sK m (k + 1)) va vc :: opE lo hi va vc (sK m (k + 1)).op :: (A ++ E)))
theorem sK_inv {m : Su} (hm : m.mapOk) : LInv (DS.new.write ((suM m).gen % 2) (supS (suM m))).flush (sK m 1) [] 0 := LInv.first hm
theorem begM_may {m : Su} (hm : m.mapOk) : (begunSu (suM m)).may := begunSu_may (suM_may hm) (by decide : (1 : Int) ≤ 1000000) (by decide : (0 : Int) ≤ 1000000)
theorem ho1_any {wc w : World} {A : List Ent} {m : Su} {bX bI bP bC bd : Nat} {cc : List Value} (hm : m.mapOk) (hc : cc.toArray[1]? = some (pB bd)) (h : HSt wc A m bX bI bP bC bd cc 0 w) :
 Calls Tryz.prog 106 #[pB bP, pB bX] w fun e w' => e = .returned (.int .i64 0) ∧ HSt wc A m bX bI bP bC bd cc 1 w' := by
 obtain ⟨E, hE, M⟩ := h
 refine qI Tryz.func106 13 ?_; intro a S
 refine wp_seq ?_
 skip
 refine wp_region_lit (qG [1] S ?_); intro a S
 refine nxA (qR [3] S M ?_); intro a S
 skip
 refine qY S (y_nilCheck S rfl) ?_; intro a S
 refine qG [2] S ?_; intro a S
 refine qY S (y_load S (by kernel_rfl) rfl (M.cell 3 rfl (hc))) ?_; intro a S
 refine qC (xs := [.tmp 7]) S (qE Tryz.func107) rfl (openL_any (A := _ :: _ :: _ :: _ :: A) (s1M m) hE M (LInv.first hm)) ?_
 rintro _ w1 ⟨bl, va, vc, lo, hi, rfl, M1⟩; refine ⟨_, rfl, ?_⟩; intro a S; have M := M1; clear M1
 simp only [List.cons_append] at M
 refine qG [1, 1, 1, 3] S ?_; intro a S
 refine qS (sz := 1) (us := [_]) S M 2 ?_; intro w2 M
 refine qG [1] S ?_; intro a S
 refine nxA (qG [1, 1] S ?_); intro a S
 refine nxC (wp_ret (qO S ?_))
 skip
 replace M := M.ord [1, 1, 5, 5, 5, 5] (by simp only [ordO, oG, oS, oE, oZ, oB] <;> rfl)
 exact ⟨rfl, _, bl, va, vc, lo, hi, E, sK_inv hm, hE, M⟩
theorem ho2_any {wc w : World} {A : List Ent} {m : Su} {bX bI bP bC bd : Nat} {cc : List Value} (hm : m.mapOk) (h : HSt wc A m bX bI bP bC bd cc 1 w) :
 Calls Tryz.prog 108 #[pB bX, pB bI] w fun e w' => e = .returned (.int .i64 0) ∧ HSt wc A m bX bI bP bC bd cc 2 w' := by
 obtain ⟨S0, bl, va, vc, lo, hi, E, hI, hE, M⟩ := h
 simp only [List.cons_append, List.nil_append] at M
 refine qI Tryz.func108 10 ?_; intro a S
 refine wp_seq ?_
 skip
 refine wp_region_lit (qG [1] S ?_); intro a S
 refine nxA (qR [3, 1] S M ?_); intro a S
 skip
 replace M := M.ord [5, 4, 4, 4, 4, 5] (by simp only [ordO, oG, oS, oE, oZ, oB] <;> rfl)
 refine qC (xs := [.tmp 5]) S (qE Tryz.func109) rfl (begin_any (A := _ :: _ :: _ :: _ :: _ :: A) (s1M m) _ hE M hI.up (begM_may hm) (fun k => by have := hI.one k; omega)) ?_
 rintro _ w1 ⟨rfl, E1, hE1, M1⟩; refine ⟨_, rfl, ?_⟩; intro a S; have M := M1; clear M1
 simp only [List.cons_append] at M
 refine qG [1, 1, 1] S ?_; intro a S
 refine qS (sz := 1) (us := [_]) S M 2 ?_; intro w2 M
 refine qG [1] S ?_; intro a S
 refine nxA (qG [1, 1] S ?_); intro a S
 refine nxC (wp_ret (qO S ?_))
 skip
 replace M := M.ord [5, 1, 5, 5, 5, 5] (by simp only [ordO, oG, oS, oE, oZ, oB] <;> rfl)
 exact ⟨rfl, _, bl, va, vc, lo, hi, E1, hI.begin (begM_may hm), hE1, M⟩
theorem ho3_any {wc w : World} {A : List Ent} {m : Su} {bX bI bP bC bd : Nat} {cc : List Value} (hm : m.mapOk) (h : HSt wc A m bX bI bP bC bd cc 2 w) :
 Calls Tryz.prog 110 #[pB bX] w fun e w' => e = .returned (.int .i64 0) ∧ HSt wc A m bX bI bP bC bd cc 3 w' := by
 obtain ⟨S0, bl, va, vc, lo, hi, E, hI, hE, M⟩ := h
 simp only [List.cons_append, List.nil_append] at M
 refine qI Tryz.func110 11 ?_; intro a S
 refine wp_seq ?_
 skip
 refine wp_region_lit (qG [1] S ?_); intro a S
 refine nxA (qR [3, 1] S M ?_); intro a S
 refine qQ (xs := [.tmp 4]) S (qE Tryz.func112) rfl (bound_any (pB bd) (sK m 2) _ _ (M.blk 4 rfl)) M ?_; intro a w1 S hK M
 refine qQ (xs := [.tmp 5]) S (qE Tryz.func111) rfl (newT_any 1 (by omega) _) M ?_; intro a w2 S hK M
 refine qG [1, 1, 1, 9] S ?_; intro a S
 refine qS (sz := 2) (us := [_, _]) S M 0 ?_; intro w3 M
 refine qG [1] S ?_; intro a S
 refine nxA (qG [1, 1] S ?_); intro a S
 refine nxC (wp_ret (qO S ?_))
 exact ⟨rfl, S0, bl, va, vc, lo, hi, E, hI, hE, M⟩
theorem ho4_any {wc w : World} {A : List Ent} {m : Su} {bX bI bP bC bd : Nat} {cc : List Value} (h : HSt wc A m bX bI bP bC bd cc 3 w) :
 Calls Tryz.prog 113 #[pB bI, pB bX] w fun e w' => e = .returned (.int .i64 0) ∧ HSt wc A m bX bI bP bC bd cc 4 w' := by
 obtain ⟨S0, bl, va, vc, lo, hi, E, hI, hE, M⟩ := h
 simp only [List.cons_append, List.nil_append] at M
 refine qI Tryz.func113 10 ?_; intro a S
 refine wp_seq ?_
 skip
 refine wp_region_lit (qG [1] S ?_); intro a S
 refine nxA (qR [2] S M ?_); intro a S
 refine qQ (xs := [.tmp 4]) S (qE Tryz.func114) rfl (newSe_any 1 (by omega) _) M ?_; intro a w1 S hK M
 refine qG [1, 1, 1, 5] S ?_; intro a S
 refine qS (sz := 4) (us := [_, _, _, _]) S M 0 ?_; intro w2 M
 refine qG [1] S ?_; intro a S
 refine nxA (qG [1, 1] S ?_); intro a S
 refine nxC (wp_ret (qO S ?_))
 exact ⟨rfl, S0, bl, va, vc, lo, hi, E, hI, hE, M⟩
theorem ho5_any {wc w : World} {A : List Ent} {m : Su} {bX bI bP bC bd : Nat} {cc : List Value} (h : HSt wc A m bX bI bP bC bd cc 4 w) :
 Calls Tryz.prog 115 #[pB bX] w fun e w' => e = .returned (.int .i64 0) ∧ HSt wc A m bX bI bP bC bd cc 5 w' := by
 obtain ⟨S0, bl, va, vc, lo, hi, E, hI, hE, M⟩ := h
 simp only [List.cons_append, List.nil_append] at M
 refine qI Tryz.func115 11 ?_; intro a S
 refine wp_seq ?_
 skip
 refine wp_region_lit (qG [1] S ?_); intro a S
 refine nxA (qR [3, 1] S M ?_); intro a S
 refine qC (xs := [.tmp 4]) S (qE Tryz.func117) rfl (unfinished_any (pB bd) (sK m 4) va vc _ (M.blk 4 rfl) (rd_rcs M (p := 5) rfl (Nat.zero_le 1000)) (Nat.zero_le 1000)) ?_
 rintro _ w1 ⟨ra, rc, rfl, hF⟩; refine ⟨_, rfl, ?_⟩; intro a S; replace M := M.grow hF.below
 refine qQ (xs := [.tmp 5]) S (qE Tryz.func116) rfl (newCo_any ra rc _) M ?_; intro a w2 S hK M
 refine qG [1, 1, 1, 4] S ?_; intro a S
 refine qS (sz := 1) (us := [_]) S M 0 ?_; intro w3 M
 refine qG [1] S ?_; intro a S
 refine nxA (qG [1, 1] S ?_); intro a S
 refine nxC (wp_ret (qO S ?_))
 exact ⟨rfl, S0, bl, va, vc, lo, hi, E, hI, hE, M⟩
theorem ho6_any {wc w : World} {A : List Ent} {m : Su} {bX bI bP bC bd : Nat} {cc : List Value} (h : HSt wc A m bX bI bP bC bd cc 5 w) :
 Calls Tryz.prog 118 #[pB bI, pB bX] w fun e w' => e = .returned (.int .i64 0) ∧ HSt wc A m bX bI bP bC bd cc 6 w' := by
 obtain ⟨S0, bl, va, vc, lo, hi, E, hI, hE, M⟩ := h
 simp only [List.cons_append, List.nil_append] at M
 refine qI Tryz.func118 10 ?_; intro a S
 refine wp_seq ?_
 skip
 refine wp_region_lit (qG [1] S ?_); intro a S
 refine nxA (qR [2] S M ?_); intro a S
 refine qQ (xs := [.const (.int .i64 0), .tmp 4]) S (qE Tryz.func119) rfl (newKz_any 0 1 (by omega) (by omega) _) M ?_; intro a w1 S hK M
 refine qG [1, 1, 1, 11] S ?_; intro a S
 refine qS (sz := 7) (us := [_, _, _, _, _, _, _]) S M 0 ?_; intro w2 M
 refine qG [1] S ?_; intro a S
 refine nxA (qG [1, 1] S ?_); intro a S
 refine nxC (wp_ret (qO S ?_))
 exact ⟨rfl, S0, bl, va, vc, lo, hi, E, hI, hE, M⟩
theorem hstep_any {wc w : World} {A : List Ent} {m : Su} {bX bI bP bC bd : Nat} {cc : List Value} (hm : m.mapOk) (hc : cc.toArray[1]? = some (pB bd)) {k : Nat} (hk : k < 6) (h : HSt wc A m bX bI bP bC bd cc k w) :
 ∃ (f : FuncId) (ca : List Value), [Value.func (.func 106) #[] #[pB bP, pB bX], .func (.func 108) #[] #[pB bX, pB bI], .func (.func 110) #[] #[pB bX], .func (.func 113) #[] #[pB bI, pB bX], .func (.func 115) #[] #[pB bX], .func (.func 118) #[] #[pB bI, pB bX]][k]? = some (.func (.func f) #[] ca.toArray) ∧ Enters Tryz.prog f ∧
  Calls Tryz.prog f ca.toArray w fun e w' => e = .returned (.int .i64 0) ∧ HSt wc A m bX bI bP bC bd cc (k + 1) w' := by
 have h6 : k = 0 ∨ k = 1 ∨ k = 2 ∨ k = 3 ∨ k = 4 ∨ k = 5 := by omega
 rcases h6 with rfl | rfl | rfl | rfl | rfl | rfl
 ·exact ⟨_, [_, _], rfl, enters_of Tryz.func106 (by decide) rfl, ho1_any hm hc h⟩
 ·exact ⟨_, [_, _], rfl, enters_of Tryz.func108 (by decide) rfl, ho2_any hm h⟩
 ·exact ⟨_, [_], rfl, enters_of Tryz.func110 (by decide) rfl, ho3_any hm h⟩
 ·exact ⟨_, [_, _], rfl, enters_of Tryz.func113 (by decide) rfl, ho4_any h⟩
 ·exact ⟨_, [_], rfl, enters_of Tryz.func115 (by decide) rfl, ho5_any h⟩
 ·exact ⟨_, [_, _], rfl, enters_of Tryz.func118 (by decide) rfl, ho6_any h⟩
abbrev cl0 (pd : Value) : List Value := [.bool false, pd, .pointer none, .slice none 0 0, .slice none 0 0, .int .i64 0, .int .i64 0, .slice none 0 0, .int .i64 0, .int .i64 0, .int .i64 0, .int .i64 0, .int .i64 0, .int .i64 0, .int .i64 0, .int .i64 0, .int .i64 0, .int .i8 0, .int .i64 0, .int .i64 0, .int .i64 0, .int .i64 0, .int .i64 0, .int .i64 0, .int .i64 0, .slice none 0 0, .int .i64 0, .int .i64 0, .int .i64 0, .int .i64 0, .int .i64 0, .slice none 0 0, .slice none 0 0, .slice none 0 0, .slice none 0 0]
abbrev clC (pd pl sl : Value) (la nx bd : Int) (si an hi : Value) : List Value := [.bool true, pd, pl, .slice none 0 0, sl, .int .i64 la, .int .i64 1, .slice none 0 0, .int .i64 nx, .int .i64 bd, .int .i64 0, .int .i64 1, .int .i64 0, .int .i64 0, .int .i64 0, .int .i64 0, .int .i64 0, .int .i8 0, .int .i64 0, .int .i64 0, .int .i64 0, .int .i64 0, .int .i64 0, .int .i64 0, .int .i64 0, .slice none 0 0, .int .i64 0, .int .i64 0, .int .i64 0, .int .i64 0, .int .i64 0, si, .slice none 0 0, an, hi]
abbrev clZ (bd bl : Nat) (si : Value) : List Value := clC (pB bd) (pB bl) (.slice none 0 0) 0 1 1 si (.slice none 0 0) (.slice none 0 0)
def HOpenP (wc : World) (A : List Ent) (m : Su) (bC bd : Nat) (w : World) : Prop := ∃ S bl va vc lo hi E, LInv S (sK m 6) [] 0 ∧ DkE bd S E ∧ Mem wc w (.blk bC (clZ bd bl (.slice none 0 0)).toArray 130 :: lgE bl bd (sK m 6) va vc :: opE lo hi va vc (sK m 6).op :: (A ++ E))
set_option maxHeartbeats 1000000 in
theorem headOpen_any {wc w : World} {A E : List Ent} {m : Su} {bC bd : Nat} (hm : m.mapOk) (hE : DkE bd (DS.new.write ((suM m).gen % 2) (supS (suM m))).flush E) (M : Mem wc w (.blk bC (cl0 (pB bd)).toArray 130 :: (A ++ E))) :
 Calls Tryz.prog 73 #[pB bC] w fun e w' => e = .returned (.int .i64 0) ∧ HOpenP wc A m bC bd w' := by
 refine qI Tryz.func73 34 ?_; intro a S
 refine wp_seq ?_
 skip
 refine wp_region_lit (st_box S M rfl rfl rfl #[_] rfl ?_); intro a w1 bP S M hB
 refine qG [1] S ?_; intro a S
 refine nxA (qR [1] S M ?_); intro a S
 skip
 refine qY S (y_nilCheck S rfl) ?_; intro a S
 refine qR [2, 2] S M ?_; intro a S
 refine qY S (y_build (ps := [(0, .const (.bool true)), (1, .tmp 12)]) (pl := [(0, 1), (1, 1), (2, 1), (3, 1), (4, 4), (8, 2), (10, 7), (17, 9), (26, 3), (29, 2)]) (z := [.bool false, .pointer none, .pointer none, .slice none 0 0, .slice none 0 0, .int .i64 0, .int .i64 0, .slice none 0 0, .int .i64 0, .int .i64 0, .int .i64 0, .int .i64 0, .int .i64 0, .int .i64 0, .int .i64 0, .int .i64 0, .int .i64 0, .int .i8 0, .int .i64 0, .int .i64 0, .int .i64 0, .int .i64 0, .int .i64 0, .int .i64 0, .int .i64 0, .slice none 0 0, .int .i64 0, .int .i64 0, .int .i64 0, .int .i64 0, .int .i64 0]) (cs := [_, _, _, _, _, _, _, _, _, _, _, _, _, _, _, _, _, _, _, _, _, _, _, _, _, _, _, _, _, _, _]) S (by kernel_rfl) rfl (rfl)) ?_; intro a S
 refine qN S M #[.bool false, .pointer none, .pointer none, .slice none 0 0, .slice none 0 0, .int .i64 0, .int .i64 0, .slice none 0 0, .int .i64 0, .int .i64 0, .int .i64 0, .int .i64 0, .int .i64 0, .int .i64 0, .int .i64 0, .int .i64 0, .int .i64 0, .int .i8 0, .int .i64 0, .int .i64 0, .int .i64 0, .int .i64 0, .int .i64 0, .int .i64 0, .int .i64 0, .slice none 0 0, .int .i64 0, .int .i64 0, .int .i64 0, .int .i64 0, .int .i64 0] ?_; intro a w2 bX S M hB
 refine qS (sz := 31) (us := [_, _, _, _, _, _, _, _, _, _, _, _, _, _, _, _, _, _, _, _, _, _, _, _, _, _, _, _, _, _, _]) S M 0 ?_; intro w3 M
 refine nxA (qN S M #[.int .i64 0] ?_); intro a w4 bI S M hB
 refine nxA (qG [1] S ?_); intro a S
 refine nxA (qY S (y_makeFunc (fs := []) (cs := [.tmp 1, .tmp 3]) S rfl rfl) ?_); intro a S
 refine qY S (y_makeFunc (fs := []) (cs := [.tmp 3, .tmp 4]) S rfl rfl) ?_; intro a S
 refine qY S (y_makeFunc (fs := []) (cs := [.tmp 3]) S rfl rfl) ?_; intro a S
 refine qY S (y_makeFunc (fs := []) (cs := [.tmp 4, .tmp 3]) S rfl rfl) ?_; intro a S
 refine qY S (y_makeFunc (fs := []) (cs := [.tmp 3]) S rfl rfl) ?_; intro a S
 refine qY S (y_makeFunc (fs := []) (cs := [.tmp 4, .tmp 3]) S rfl rfl) ?_; intro a S
 refine qY S (y_buildA (ps := [(0, .tmp 14), (1, .tmp 15), (2, .tmp 16), (3, .tmp 17), (4, .tmp 18), (5, .tmp 19)]) (sz := 1) (z := [.nilFunc, .nilFunc, .nilFunc, .nilFunc, .nilFunc, .nilFunc]) (cs := [_, _, _, _, _, _]) S (by kernel_rfl) rfl rfl) ?_; intro a S
 refine qN S M #[.nilFunc, .nilFunc, .nilFunc, .nilFunc, .nilFunc, .nilFunc] ?_; intro a w5 bT S M hB
 refine qS (sz := 6) (us := [_, _, _, _, _, _]) S M 0 ?_; intro w6 M
 refine nxC (wp_seq (nxD (qY S (qL6 S M 0) ?_))); intro a S
 refine qG [1] S ?_; intro a S
 refine nxC (wp_block (wp_loop_g (fun q a w' => ∃ (k : Nat), k ≤ 6 ∧ q = 6 - k ∧ Sees 34 a [(1, pB bP), (3, pB bX), (21, .agg #[.func (.func 106) #[] #[pB bP, pB bX], .func (.func 108) #[] #[pB bX, pB bI], .func (.func 110) #[] #[pB bX], .func (.func 113) #[] #[pB bI, pB bX], .func (.func 115) #[] #[pB bX], .func (.func 118) #[] #[pB bI, pB bX]]), (22, .int .i64 (k : Int))] ∧ HSt wc A m bX bI bP bC bd (cl0 (pB bd)) k w') (6) ?_ ?_))
 ·skip
  replace M := M.drp 0
  replace M := M.ord [3, 3, 2, 3] (by simp only [ordO, oG, oS, oE, oZ, oB] <;> rfl)
  exact ⟨0, Nat.zero_le _, rfl, S.sub _ rfl, E, hE, M⟩
 intro m a wl
 rintro ⟨k, hk, rfl, S, hS⟩
 refine nxD (qG [1] S ?_); intro a S
 refine nxC (wp_seq (qf 23 S ?_ ?_))
 ·intro h23 S
  refine cF S (wp_exit (then_exit (then_exit (block_hit (then_normal (wp_seq ?_))))))
  obtain rfl : k = 6 := by omega
  obtain ⟨S1, bl, va, vc, lo, hi, E1, hI, hE1, M⟩ := hS
  simp only [List.cons_append, List.nil_append] at M
  refine wp_region_lit (qR [3] S M ?_); intro a S
  refine qY S (y_loadAgg (cs := [_, _, _, _, _, _, _, _, _, _, _, _, _, _, _, _, _, _, _, _, _, _, _, _, _, _, _, _, _, _, _]) S (by kernel_rfl) rfl rfl (M.cellsAt (k := 31) 0 rfl rfl)) ?_; intro a S
  skip
  refine qY S (y_nilCheck S rfl) ?_; intro a S
  skip
  refine qS (sz := 31) (us := [_, _, _, _, _, _, _, _, _, _, _, _, _, _, _, _, _, _, _, _, _, _, _, _, _, _, _, _, _, _, _]) S M 3 ?_; intro w8 M
  refine nxA (qG [1] S ?_); intro a S
  refine nxC (wp_ret (qO S ?_))
  skip
  replace M := M.drp 2
  replace M := M.drp 1
  replace M := M.drp 0
  exact ⟨rfl, S1, bl, va, vc, lo, hi, E1, hI, hE1, M⟩
 intro h23 S
 refine cT S (wp_skip (then_normal (wp_seq (wp_block (wp_seq ?_)))))
 obtain ⟨f, ca, hv, hEn, hCall⟩ := hstep_any hm rfl (show k < 6 by omega) hS
 refine wp_region_lit (qY S (y_indexP (m := 6) (sz := 1) S (by kernel_rfl) (fun e he => by cases he.symm.trans (show _ = some (.array 6 187) by kernel_rfl); kernel_rfl) rfl rfl (by first | omega | (simp; done) | (simp; omega)) ((by rw [Int.toNat_natCast, Nat.mul_one]; exact hv))) ?_); intro a S
 refine qG [1] S ?_; intro a S
 refine nxA (qG [1] S ?_); intro a S
 refine st_callB (xs := []) (fi := []) (ca := ca) S (hEn) rfl rfl (rfl) rfl (hCall) ?_
 rintro _ w7 ⟨rfl, hS2⟩; refine ⟨_, rfl, ?_⟩; intro a S
 refine qG [1] S ?_; intro a S
 refine nxA (qG [1, 1] S ?_); intro a S
 refine nxC (qi 28 S ?_ ?_)
 ·intro h28 S
  exact absurd rfl h28
 intro h28 S
 refine cF S (wp_skip (block_normal (nxF (qA S ?_)))); intro a S
 refine qG [1] S ?_; intro a S
 refine nxC ?_
 exact ⟨6 - (k + 1), by omega, k + 1, by omega, rfl, S.sub _ rfl, hS2⟩
set_option maxHeartbeats 1000000 in
theorem headFormat_any {wc w : World} {A : List Ent} {m : Su} {bC : Nat} (hm : m.mapOk) (M : Mem wc w (.blk bC (cl0 (.pointer none)).toArray 130 :: A)) :
 Calls Tryz.prog 45 #[pB bC, .agg (mapL m).toArray] w fun e w' => e = .returned (.int .i64 0) ∧ ∃ bd, HOpenP wc A m bC bd w' := by
 refine qI Tryz.func45 21 ?_; intro a S
 refine wp_seq ?_
 skip
 refine wp_region_lit (st_box S M rfl rfl rfl #[_, _, _, _, _, _, _, _] rfl ?_); intro a w1 bF S M hB
 refine qG [1] S ?_; intro a S
 refine nxA (qG [1] S ?_); intro a S
 refine qC (xs := []) S (qE Tryz.func71) rfl (new_any _) ?_
 rintro _ w2 ⟨bd, E, rfl, hE, M1⟩; refine ⟨_, rfl, ?_⟩; intro a S
 replace M := M.joinR M1
 simp only [List.cons_append] at M
 refine qG [1, 2] S ?_; intro a S
 refine qS (sz := 1) (us := [_]) S M 1 ?_; intro w3 M
 refine nxC (wp_seq (wp_seq (wp_regionKC (C := fun W => Blk W bF (mapL m).toArray 66) [5] #[false, false, false, false, false, false, false] rfl M (by kernel_rfl) ?_))); intro w4 M; have hC := M.blk 0 rfl
 refine kcP 0 S hC ?_; intro a S
 refine kcP 1 S hC ?_; intro a S
 refine kcF 2 1 S hC ?_; intro a S
 refine kc_read 3 S rfl hC (fun w hW => have M := M.grow hW; qV S M 1) ?_; intro a S
 refine kc_readC 4 S rfl hC (fun w hC => y_loadAgg (cs := [_, _, _, _, _, _, _, _]) S (by kernel_rfl) rfl rfl (Blk.cellsAt (o := 0) (k := 8) hC rfl)) ?_; intro a S
 refine kc_one 5 rfl (by kernel_rfl) ?_
 refine qC (xs := [.tmp 13, .tmp 14]) S (qE Tryz.func72) rfl (formatM_any (A := _ :: _ :: A) m hm hE M rfl (fun k => Nat.zero_le _)) ?_
 rintro _ w5 ⟨rfl, E1, hE1, M1⟩; refine ⟨_, rfl, ?_⟩; intro a S; have M := M1; clear M1
 simp only [List.cons_append] at M
 replace hC := M.blk 0 rfl
 refine nxC ⟨fun h => absurd h (by decide), hC, ?_⟩
 refine kcP 6 S hC ?_; intro a S
 refine kc_end (by kernel_rfl) ?_
 refine nxE (qG [1, 1] S ?_); intro a S
 refine nxC (qi 17 S ?_ ?_)
 ·intro h17 S
  exact absurd rfl h17
 intro h17 S
 refine cF S (wp_skip (nxE (qG [1] S ?_))); intro a S
 skip
 replace M := M.drp 0
 refine qC (xs := [.tmp 19]) S (qE Tryz.func73) rfl (headOpen_any hm hE1 M) ?_
 rintro _ w6 ⟨rfl, hP⟩; refine ⟨_, rfl, ?_⟩; intro a S
 refine qG [1] S ?_; intro a S
 replace S := S.keep [0, 1, 3, 5, 17, 4]
 refine nxC (wp_ret (qO S ?_))
 exact ⟨rfl, bd, hP⟩
theorem perm_site {α : Type} {X T D C L O R B : α} {es E F G : List α} : (X :: T :: D :: (es ++ ((C :: L :: O :: R :: B :: (F ++ G)) ++ E))).Perm (C :: L :: O :: R :: B :: ((X :: T :: D :: (es ++ (E ++ F))) ++ G)) := by
 have e1 : X :: T :: D :: (es ++ ((C :: L :: O :: R :: B :: (F ++ G)) ++ E)) = ([X, T, D] ++ es) ++ (([C, L, O, R, B] ++ (F ++ G)) ++ E) := by simp
 have e2 : C :: L :: O :: R :: B :: ((X :: T :: D :: (es ++ (E ++ F))) ++ G) = [C, L, O, R, B] ++ (([X, T, D] ++ es) ++ (E ++ (F ++ G))) := by simp
 rw [e1, e2]
 refine (List.Perm.append_left _ (?_ : ((([C, L, O, R, B] ++ (F ++ G)) ++ E).Perm ([C, L, O, R, B] ++ (E ++ (F ++ G)))))).trans ?_
 ·rw [List.append_assoc]; exact List.Perm.append_left _ List.perm_append_comm
 ·rw [← List.append_assoc, ← List.append_assoc [C, L, O, R, B]]; exact List.Perm.append_right _ List.perm_append_comm
def SiteE (o : Int) (self : Int) (v : Value) (F : List Ent) : Prop := ∃ (b bd bs : Nat) (da : Option Addr) (dc lo hi : Nat) (cs : List Value) (es : List Ent), v = pB b ∧ Ent.blk b (siteC self true bd (pB bs) self 1).toArray 146 ∈ F ∧ shE bs bd (shN o) (.slice da 0 dc) ∈ F ∧ rowE lo hi 264 6 (.slice da 0 dc) 0 cs ∈ F ∧ PrBk cs [] es ∧ ∀ e ∈ es, e ∈ F
def SitesE (m : Su) (ps : List Value) (F : List Ent) : Prop := ∀ (j : Nat) v, ps[j]? = some v → SiteE (ownB m ((j : Int) + 1) 8) ((j : Int) + 1) v F
theorem SiteE.mono {o self : Int} {v : Value} {F F2 : List Ent} (h : SiteE o self v F) (hs : ∀ e ∈ F, e ∈ F2) : SiteE o self v F2 := by
 obtain ⟨b, bd, bs, da, dc, lo, hi, cs, es, h1, h2, h3, h4, h5, h6⟩ := h
 exact ⟨b, bd, bs, da, dc, lo, hi, cs, es, h1, hs _ h2, hs _ h3, hs _ h4, h5, fun e he => hs _ (h6 e he)⟩
theorem SitesE.snoc {m : Su} {ps : List Value} {F F2 : List Ent} {v : Value} (h : SitesE m ps F) (hs : ∀ e ∈ F, e ∈ F2) (hv : SiteE (ownB m ((ps.length : Int) + 1) 8) ((ps.length : Int) + 1) v F2) : SitesE m (ps ++ [v]) F2 := fun j u hu => by
 rcases Nat.lt_or_ge j ps.length with hj | hj
 ·rw [List.getElem?_append_left hj] at hu
  exact (h j u hu).mono hs
 ·have e : j = ps.length := by
   have := (List.getElem?_eq_some_iff.1 hu).1
   simp at this; omega
  subst e
  rw [List.getElem?_append_right (Nat.le_refl _), Nat.sub_self] at hu
  cases hu; exact hv
theorem own_bd {n self : Int} (hn : 1 ≤ n ∧ n ≤ 4) (hs : 1 ≤ self ∧ self ≤ 4) {k : Nat} (hk : k ≤ 8) : 0 ≤ ownB (firM n) self k ∧ ownB (firM n) self k ≤ 255 := by
 have e1 : n = 1 ∨ n = 2 ∨ n = 3 ∨ n = 4 := by omega
 have e2 : self = 1 ∨ self = 2 ∨ self = 3 ∨ self = 4 := by omega
 have e3 : k = 0 ∨ k = 1 ∨ k = 2 ∨ k = 3 ∨ k = 4 ∨ k = 5 ∨ k = 6 ∨ k = 7 ∨ k = 8 := by omega
 rcases e1 with rfl | rfl | rfl | rfl <;> rcases e2 with rfl | rfl | rfl | rfl <;> rcases e3 with rfl | rfl | rfl | rfl | rfl | rfl | rfl | rfl | rfl <;> decide +kernel
def NewP (wc : World) (A : List Ent) (n : Nat) (bC : Nat) (w : World) : Prop := ∃ (bd bl : Nat) (sa : Option Addr) (sc lo hi : Nat) (ps : List Value) (S : DS) (va : Option Addr) (vc lo2 hi2 : Nat) (F E : List Ent), ps.length = n ∧ SitesE (firM n) ps F ∧ LInv S (sK (firM n) 6) [] 0 ∧ DkE bd S E ∧
 Mem wc w (.blk bC (clZ bd bl (.slice sa n sc)).toArray 130 :: lgE bl bd (sK (firM n) 6) va vc :: opE lo2 hi2 va vc (sK (firM n) 6).op :: rowE lo hi 132 1 (.slice sa n sc) n ps :: (F ++ (A ++ E)))
set_option maxHeartbeats 2000000 in
theorem newC_any (n : Nat) (hn : 1 ≤ n ∧ n ≤ 4) (w : World) : Calls Tryz.prog 16 #[.int .i64 (n : Int)] w fun e w' => ∃ bC, e = .returned (.tuple #[pB bC, .int .i64 0]) ∧ NewP w [] n bC w' := by
 have M := Mem.start w
 have hm : (firM (n : Int)).mapOk := firM_ok (by omega)
 refine qI Tryz.func16 55 ?_; intro a S
 refine nxD (qG [1, 1] S ?_); intro a S
 refine nxA (qG [1] S ?_); intro a S
 refine qQ (xs := [.tmp 12]) S (qE Tryz.func44) rfl (first_any (n : Int) (by omega) _) M ?_; intro a w1 S hK M
 refine qG [1, 1, 1] S ?_; intro a S
 refine qN S M #[.int .i64 0, .int .i64 0, .int .i64 0, .int .i64 0, .int .i64 0, .int .i64 0, .int .i64 0, .int .i64 0] ?_; intro a w2 bB S M hB
 refine qS (sz := 8) (us := [_, _, _, _, _, _, _, _]) S M 0 ?_; intro w3 M
 refine qG [1] S ?_; intro a S
 refine nxC (wp_seq (nxD (qG [1, 1] S ?_))); intro a S
 refine nxC (qi 17 S ?_ ?_)
 ·intro h17 S
  exact absurd rfl h17
 intro h17 S
 refine cF S (wp_skip (nxE (qY S (y_build (ps := []) (pl := [(0, 31), (31, 1), (32, 1), (33, 1), (34, 1)]) (z := [.bool false, .pointer none, .pointer none, .slice none 0 0, .slice none 0 0, .int .i64 0, .int .i64 0, .slice none 0 0, .int .i64 0, .int .i64 0, .int .i64 0, .int .i64 0, .int .i64 0, .int .i64 0, .int .i64 0, .int .i64 0, .int .i64 0, .int .i8 0, .int .i64 0, .int .i64 0, .int .i64 0, .int .i64 0, .int .i64 0, .int .i64 0, .int .i64 0, .slice none 0 0, .int .i64 0, .int .i64 0, .int .i64 0, .int .i64 0, .int .i64 0, .slice none 0 0, .slice none 0 0, .slice none 0 0, .slice none 0 0]) (cs := [_, _, _, _, _, _, _, _, _, _, _, _, _, _, _, _, _, _, _, _, _, _, _, _, _, _, _, _, _, _, _, _, _, _, _]) S (by kernel_rfl) rfl (rfl)) ?_))); intro a S
 refine st_box S M rfl rfl rfl #[_, _, _, _, _, _, _, _, _, _, _, _, _, _, _, _, _, _, _, _, _, _, _, _, _, _, _, _, _, _, _, _, _, _, _] rfl ?_; intro a w4 bC S M hB
 refine qG [1] S ?_; intro a S
 refine nxC (wp_seq (wp_seq (wp_regionKC (C := fun W => Blk W bB (mapL (firM (n : Int))).toArray 66) [4] #[false, false, false, false, false, false] rfl M (by kernel_rfl) ?_))); intro w5 M; have hC := M.blk 1 rfl
 refine kcP 0 S hC ?_; intro a S
 refine kcP 1 S hC ?_; intro a S
 refine kcF 2 0 S hC ?_; intro a S
 refine kc_readC 3 S rfl hC (fun w hC => y_loadAgg (cs := [_, _, _, _, _, _, _, _]) S (by kernel_rfl) rfl rfl (Blk.cellsAt (o := 0) (k := 8) hC rfl)) ?_; intro a S
 refine kc_one 4 rfl (by kernel_rfl) ?_
 refine qC (xs := [.tmp 22, .tmp 23]) S (qE Tryz.func45) rfl (headFormat_any hm M) ?_
 rintro _ w6 ⟨rfl, bd, S1, bl, va, vc, lo2, hi2, E, hI, hE, M1⟩; refine ⟨_, rfl, ?_⟩; intro a S; have M := M1; clear M1
 simp only [List.cons_append, List.nil_append] at M
 replace hC := M.blk 3 rfl
 refine nxC ⟨fun h => absurd h (by decide), hC, ?_⟩
 refine kcP 5 S hC ?_; intro a S
 refine kc_end (by kernel_rfl) ?_
 refine nxE (qG [1, 1] S ?_); intro a S
 replace S := S.keep [0, 2, 3, 4, 5, 17, 6, 7, 26]
 refine nxC (qi 26 S ?_ ?_)
 ·intro h26 S
  exact absurd rfl h26
 intro h26 S
 refine cF S (wp_skip (then_normal (wp_seq (nxD (qG [1] S ?_))))); intro a S
 refine nxC (wp_block (wp_loop_g (fun q a w' => ∃ (k : Nat) (sa : Option Addr) (sc lo hi : Nat) (ps : List Value) (F : List Ent), k ≤ n ∧ q = n - k ∧ ps.length = k ∧ SitesE (firM (n : Int)) ps F ∧ Sees 55 a [(0, .int .i64 (n : Int)), (4, pB bB), (6, pB bC), (8, .int .i64 ((k : Int) + 1))] ∧ Mem w w' (.blk bC (clZ bd bl (.slice sa k sc)).toArray 130 :: lgE bl bd (sK (firM n) 6) va vc :: opE lo2 hi2 va vc (sK (firM n) 6).op :: rowE lo hi 132 1 (.slice sa k sc) k ps :: .blk bB (mapL (firM (n : Int))).toArray 66 :: (F ++ E))) (n) ?_ ?_))
 ·skip
  obtain ⟨lo9, hi9, M1⟩ := M.nilRow 132 1
  clear M; have M := M1; clear M1
  replace M := M.ord [4, 1, 4, 4, 4] (by simp only [ordO, oG, oS, oE, oZ, oB] <;> rfl)
  exact ⟨0, none, 0, lo9, hi9, [], [], Nat.zero_le _, rfl, rfl, fun j v h => (by simp at h), S.sub _ rfl, M⟩
 intro m a wl
 rintro ⟨k, sa, sc, lo, hi, ps, F, hk, rfl, hpl, hSi, S, M⟩
 refine wp_seq (nxD (qG [1, 1, 1] S ?_)); intro a S
 refine nxC (qf 30 S ?_ ?_)
 ·intro h30 S
  refine cF S (wp_exit (then_exit (then_exit (block_hit (nxE (qG [1, 1, 1] S ?_)))))); intro a S
  refine nxC (wp_ret (qOO S ?_))
  obtain rfl : k = n := by omega
  exact ⟨bC, rfl, bd, bl, sa, sc, lo, hi, ps, S1, va, vc, lo2, hi2, F, E, hpl, hSi, hI, hE, M.drop 4⟩
 intro h30 S
 refine cT S (wp_skip (then_normal (wp_seq (wp_block (nxD (qG [1] S ?_)))))); intro a S
 refine qY S (qL8 S M 4) ?_; intro a S
 refine qG [1] S ?_; intro a S
 refine qQ (xs := [.tmp 35, .tmp 36]) S (qE Tryz.func29) rfl (owned_any (firM (n : Int)) ((k : Int) + 1) (fun j hj => own_bd (by omega) (by omega) (by omega)) _) M ?_; intro a w7 S hK M
 refine qC (xs := [.tmp 34, .tmp 37]) S (qE Tryz.func46) rfl (newSite_any ((k : Int) + 1) _ (by omega) (own_bd (by omega) (by omega) (Nat.le_refl 8)) M) ?_
 rintro _ w8 ⟨b, bd9, bs9, S9, rfl, hM⟩; refine ⟨_, rfl, ?_⟩; intro a S
 obtain ⟨da9, dc9, lo9, hi9, cs9, es9, E9, hE9, hBk9, M1⟩ := ShM.open (P := [_]) hM
 clear hM
 have M := M1.perm perm_site
 clear M1
 obtain ⟨F2, hF2⟩ : ∃ F2, F2 = .blk b (siteC ((k : Int) + 1) true bd9 (pB bs9) ((k : Int) + 1) 1).toArray 146 :: shE bs9 bd9 (shN (ownB (firM (n : Int)) ((k : Int) + 1) 8)) (.slice da9 (shN (ownB (firM (n : Int)) ((k : Int) + 1) 8)).ps.length dc9) :: rowE lo9 hi9 264 6 (.slice da9 (shN (ownB (firM (n : Int)) ((k : Int) + 1) 8)).ps.length dc9) (shN (ownB (firM (n : Int)) ((k : Int) + 1) 8)).ps.length cs9 :: (es9 ++ (E9 ++ F)) := ⟨_, rfl⟩
 rw [← hF2] at M
 have hSi2 : SitesE (firM (n : Int)) (ps ++ [pB b]) F2 := by
  refine hSi.snoc (fun e he => ?_) ?_
  ·rw [hF2]; exact .tail _ (.tail _ (.tail _ (List.mem_append_right _ (List.mem_append_right _ he))))
  ·rw [hpl, hF2]
   exact ⟨b, bd9, bs9, da9, dc9, lo9, hi9, cs9, es9, rfl, .head _, .tail _ (.head _), .tail _ (.tail _ (.head _)), hBk9, fun e he => .tail _ (.tail _ (.tail _ (List.mem_append_left _ he)))⟩
 refine qG [1, 1, 1, 1, 1] S ?_; intro a S
 refine nxC (wp_seq (nxD (qG [1, 1] S ?_))); intro a S
 refine nxC (qi 42 S ?_ ?_)
 ·intro h42 S
  exact absurd rfl h42
 intro h42 S
 refine cF S (wp_skip (nxF (qR [1, 1, 1, 32, 1, 1] S M ?_))); intro a S
 refine st_lit (ps := [(0, .tmp 49)]) (e := 132) (sz := 1) (zl := [.pointer none]) (cs := [_]) S M rfl rfl (by kernel_rfl) rfl (rfl) ?_; intro a w9 bZ S M hB
 refine st_append (e := 132) (sz := 1) (by_ := 8) (zc := [.pointer none]) S M 4 rfl rfl (by kernel_rfl) rfl (by decide) rfl rfl rfl (show Rd _ _ _ 1 _ 1 [pB b] from M.sliceAt 0 rfl (M.cellsAt (k := 1) 0 rfl rfl) rfl (Nat.le_refl _) (by unfold maxLen; omega)) (rfl) (by omega) (by unfold maxLen; omega) ?_; intro a w10 vA loA hiA S M
 obtain ⟨aA, cA, rfl, -, -⟩ := (M.readAll 0 rfl (by unfold maxLen; omega)).form
 refine qY S (y_nilCheck S rfl) ?_; intro a S
 refine qG [32] S ?_; intro a S
 refine qS (sz := 1) (us := [_]) S M 2 ?_; intro w11 M
 replace S := S.keep [0, 4, 6, 8, 30, 9, 10, 42]
 refine wpList_nil (block_normal (nxF (qG [1] S ?_))); intro a S
 refine qA S ?_; intro a S
 refine qG [1] S ?_; intro a S
 refine nxC ?_
 skip
 replace M := M.drp 1
 replace M := M.ord [4, 1, 4, 4, 4] (by simp only [ordO, oG, oS, oE, oZ, oB] <;> rfl)
 exact ⟨n - (k + 1), by omega, k + 1, aA, cA, loA, hiA, ps ++ [pB b], F2, by omega, rfl, by simp [hpl], hSi2, S.sub _ rfl, M⟩
end Go.Proofs.YtdcgcgifgnaccaaGreat
namespace Go.Proofs.YtdcgcgifgnaccaaGreat
open Go.RowKit Go.Sort
variable {ds : List Deferred}
variable {P : Program} {ops : Array Oper} {Q : Exit → Act → World → Prop} {rest : List Oper} {n d : Nat} {a : Act} {L : List (Nat × Value)} {w w0 : World} {v : Value}
theorem y_makeIface {x : Operand} {t0 e : TypeId} (S : SeesD ds n a L) (hx : val L x = some v) (hT : P.underlying t0 = some (.pointer e)) {d : Option Tmp} {t : TypeId} {p : String} {ed : Array Edge} {g : Option (Nat × Bool)} : Yields P a ⟨d, .makeInterface t0 x, t, p, ed, g⟩ w (.iface t0 v) := by
 unfold Yields execOp
 simp only [S.eval hx, Instr.makeInterface, Sem.run_bind, run_underlying hT, Result.andThen_ok, Sem.run_pure]
theorem equalIfc (fuel : Nat) {xt t0 : TypeId} {ms : Array (String × TypeId)} (hU : P.underlying xt = some (.interface ms)) (u : Value) (w : World) : (Op.equalIn (fuel + 1) xt (.iface t0 u) .nilIface).run P w = .ok false w := by
 simp only [Op.equalIn, Sem.run_bind, run_underlying hU, Result.andThen_ok, Sem.run_pure]
theorem y_eqlI {x : Operand} {u : Value} {xt t0 : TypeId} {ms : Array (String × TypeId)} (hU : P.underlying xt = some (.interface ms)) (S : SeesD ds n a L) (hx : val L x = some (.iface t0 u)) {d : Option Tmp} {yt t : TypeId} {p : String} {e : Array Edge} {g : Option (Nat × Bool)} :
 Yields P a ⟨d, .binOp .eql xt x (.const .nilIface) yt, t, p, e, g⟩ w (.bool false) := by
 have h : (Op.equalIn (9999 + 1) xt (.iface t0 u) .nilIface).run P w = .ok false w := equalIfc 9999 hU u w
 unfold Yields execOp
 have hc : a.eval (.const .nilIface) = .nilIface := rfl
 have hb : (binOp .eql xt (.iface t0 u) .nilIface).run P w = .ok (.bool false) w := by
  have e : binOp .eql xt (.iface t0 u) .nilIface = (do pure (.bool (← Op.equalIn (9999 + 1) xt (.iface t0 u) .nilIface))) := rfl
  rw [e, Sem.run_bind, h]; rfl
 simp only [S.eval hx, hc, eqGuard, Sem.run_bind]
 simp [hb, go_sem]
theorem st_callI {f : FuncId} {r : Operand} {name : String} {t0 : TypeId} {u u1 : Value} {xs : List Operand} {vs : List Value} {R : Ending → World → Prop} (S : SeesD ds n a L) {d : Nat} {ts : Array TypeId} {t : TypeId} {p : String} {e : Array Edge} {g : Option (Nat × Bool)}
 (hm : (method (P.types.size + Made.depth) t0 u name).run P w = .ok (f, u1) w) (hE : Enters P f) (hg : gd ops L ⟨some d, .call { callee := .invoke r name, args := xs.toArray, argTypes := ts }, t, p, e, g⟩ = some true) (hn : Nat.blt d n = true) (hr : val L r = some (.iface t0 u)) (hx : vals L xs = some vs) (hC : Calls P f (u1 :: vs).toArray w R)
 (k : ∀ e w', R e w' → ∃ v, e = .returned v ∧ ∀ a, SeesD ds n a ((d, v) :: L) → wpList P ops Q rest a w') : wpList P ops Q (⟨some d, .call { callee := .invoke r name, args := xs.toArray, argTypes := ts }, t, p, e, g⟩ :: rest) a w := by
 unfold wpList
 rw [if_pos (gd_spec S hg)]
 refine .inl ?_
 unfold Oper.wp
 have h : xs.toArray.map a.eval = vs.toArray := by rw [← S.evals hx]; simp
 have hr' : (execOp a.eval ⟨some d, .call { callee := .invoke r name, args := xs.toArray, argTypes := ts }, t, p, e, g⟩).run P w = .ok (.enter f (u1 :: vs).toArray) w := by
  unfold execOp
  simp only [resolve, h, S.eval hr, Sem.run_bind, Sem.run_pure, Result.andThen_ok, invoke]
  have e1 : (#[Value.iface t0 u] ++ vs.toArray)[0]? = some (.iface t0 u) := by simp
  have e2 : (#[Value.iface t0 u] ++ vs.toArray).extract 1 (#[Value.iface t0 u] ++ vs.toArray).size = vs.toArray := by simp
  simp only [e1, e2, callMethod, Sem.run_bind, run_program, Result.andThen_ok, hm]
  have e3 : #[u1] ++ vs.toArray = (u1 :: vs).toArray := by simp
  rw [e3]
  exact hE _ _
 rw [hr', Oper.upon_enter]
 refine hC.mono fun e w' hR => ?_
 obtain ⟨v, rfl, hk⟩ := k e w' hR
 exact hk _ (S.put hn v)
end Go.Proofs.YtdcgcgifgnaccaaGreat

namespace Go.Proofs.YtdcgcgifgnaccaaGreat
open Go.RowKit Go.Sort
theorem Mem.blkIn {w0 w : World} {H : List Ent} (M : Mem w0 w H) {b : Nat} {c : Array Value} {t : TypeId} (h : Ent.blk b c t ∈ H) : Blk w b c t := by
 obtain ⟨p, hp⟩ := List.mem_iff_getElem?.1 h
 exact M.blk p hp
theorem isDownS_any {b T bd : Nat} {self k i : Int} {st : Value} (w : World) (B : Blk w b (siteC self true bd st k i).toArray T) : Calls Tryz.prog 86 #[pB b] w fun e w' => e = .returned (.bool false) ∧ Below w.heap.size w w' := by
 have M := Mem.start w
 refine qI Tryz.func86 8 ?_; intro a S
 refine nxD (qG [1] S ?_); intro a S
 refine nxA (qG [1, 1, 2] S ?_); intro a S
 refine qY S (y_load S (by kernel_rfl) rfl (by rw [(B.cells0 M.below).cells]; rfl)) ?_; intro a S
 refine qG [1, 1] S ?_; intro a S
 refine nxC (wp_ret (qO S ?_))
 exact ⟨rfl, M.below⟩
theorem isDownH_any {b T : Nat} {cs : Array Value} (w : World) (B : Blk w b cs T) (h : cs[0]? = some (.bool true)) : Calls Tryz.prog 66 #[pB b] w fun e w' => e = .returned (.bool false) ∧ Below w.heap.size w w' := by
 have M := Mem.start w
 refine qI Tryz.func66 8 ?_; intro a S
 refine nxD (qG [1] S ?_); intro a S
 refine nxA (qG [1, 1, 1] S ?_); intro a S
 refine qY S (y_load S (by kernel_rfl) rfl (by rw [(B.cells0 M.below).cells]; exact h)) ?_; intro a S
 refine qG [1, 1] S ?_; intro a S
 refine nxC (wp_ret (qO S ?_))
 exact ⟨rfl, M.below⟩
structure CluR (w : World) (bC : Nat) (sa : Option Addr) (n sc : Nat) (ps : List Value) (cs : Array Value) : Prop where
 blk : Blk w bC cs 130
 up : cs[0]? = some (.bool true)
 row : cs[31]? = some (.slice sa n sc)
 rd : Rd 0 w.heap.size w 1 (.slice sa n sc) n ps
 few : n ≤ 4
theorem siteC_any {w : World} {bC : Nat} {sa : Option Addr} {n sc : Nat} {ps : List Value} {cs : Array Value} (h : CluR w bC sa n sc ps cs) {k b bd T : Nat} {self i2 i3 : Int} {st : Value} (hk : 1 ≤ k ∧ k ≤ n) (hv : ps[k - 1]? = some (pB b)) (B : Blk w b (siteC self true bd st i2 i3).toArray T) :
 Calls Tryz.prog 48 #[pB bC, .int .i64 (k : Int)] w fun e w' => e = .returned (.tuple #[pB b, .int .i64 0]) ∧ Below w.heap.size w w' := by
 have M := Mem.start w
 have hk1 : ((k : Int) - 1) = ((k - 1 : Nat) : Int) := by omega
 have hk2 := h.few
 refine qI Tryz.func48 39 ?_; intro a S
 refine nxD (qG [1, 1] S ?_); intro a S
 refine nxC (wp_seq (wp_block (nxD (qG [1] S ?_)))); intro a S
 refine qY S (y_eqlPS (by kernel_rfl) S rfl) ?_; intro a S
 refine qG [1] S ?_; intro a S
 refine nxC (cF S (nxD (qG [1, 1, 1] S ?_))); intro a S
 refine qi 12 S ?_ ?_
 ·intro h12 S
  exfalso; omega
 intro h12 S
 refine qG [1, 1, 1, 32] S ?_; intro a S
 refine qY S (y_load S (by kernel_rfl) rfl (by rw [(h.blk.cells0 M.below).cells]; exact h.row)) ?_; intro a S
 refine qY S (qH 132 S) ?_; intro a S
 refine qG [1, 1, 1] S ?_; intro a S
 refine nxC (qi 9 S ?_ ?_)
 ·intro h9 S
  exfalso; first | omega | (simp at h9; omega)
 intro h9 S
 refine cF S (nxD (qG [1, 1, 32] S ?_)); intro a S
 refine qY S (y_load S (by kernel_rfl) rfl (by rw [(h.blk.cells0 M.below).cells]; exact h.row)) ?_; intro a S
 refine qG [1] S ?_; intro a S
 refine qA S ?_; intro a S
 rw [hk1] at S
 refine qY S (qX 132 1 S (M.arg h.rd)) ?_; intro a S
 try simp only [Int.toNat_natCast, Nat.mul_one, Nat.zero_add] at S
 refine qY S (y_load S (by kernel_rfl) rfl ((M.arg h.rd).at_.one (k - 1) hv)) ?_; intro a S
 refine qQ (xs := [.tmp 29]) S (qE Tryz.func86) rfl (isDownS_any _ (B.cells0 M.below)) M ?_; intro a w1 S hK M
 refine qG [1] S ?_; intro a S
 replace S := S.keep [0, 1, 4, 5, 6, 9, 21]
 refine nxC (qi 21 S ?_ ?_)
 ·intro h21 S
  cases h21
 intro h21 S
 refine cF S (wp_skip (block_normal (nxE (qG [1, 1, 32] S ?_)))); intro a S
 refine qY S (y_load S (by kernel_rfl) rfl (by rw [(h.blk.cells0 M.below).cells]; exact h.row)) ?_; intro a S
 refine qG [1] S ?_; intro a S
 refine qA S ?_; intro a S
 rw [hk1] at S
 refine qY S (qX 132 1 S (M.arg h.rd)) ?_; intro a S
 try simp only [Int.toNat_natCast, Nat.mul_one, Nat.zero_add] at S
 refine qY S (y_load S (by kernel_rfl) rfl ((M.arg h.rd).at_.one (k - 1) hv)) ?_; intro a S
 refine qG [1, 1] S ?_; intro a S
 refine nxC (wp_ret (qOO S ?_))
 exact ⟨rfl, M.below⟩
theorem nodeM_any (bC : Nat) (w : World) : Calls Tryz.prog 93 #[pB bC, .int .i64 0] w fun e w' => e = .returned (.iface 184 (pB bC)) ∧ Below w.heap.size w w' := by
 have M := Mem.start w
 refine qI Tryz.func93 33 ?_; intro a S
 refine nxD (qG [1] S ?_); intro a S
 refine nxC (wp_seq (wp_block (nxD (qG [1, 1, 1] S ?_)))); intro a S
 refine nxC (qf 5 S ?_ ?_)
 ·intro h5 S
  exact absurd rfl h5
 intro h5 S
 refine cT S (nxD (qG [1, 1, 1] S ?_)); intro a S
 refine qY S (y_makeIface S rfl Tryz.underlying184) ?_; intro a S
 refine qG [1] S ?_; intro a S
 refine nxC (wp_ret (block_ret (then_ret (qO S ?_))))
 exact ⟨rfl, M.below⟩
theorem nodeS_any {w : World} {bC : Nat} {sa : Option Addr} {n sc : Nat} {ps : List Value} {cs : Array Value} (h : CluR w bC sa n sc ps cs) {k b : Nat} (hk : 1 ≤ k ∧ k ≤ n) (hv : ps[k - 1]? = some (pB b)) :
 Calls Tryz.prog 93 #[pB bC, .int .i64 (k : Int)] w fun e w' => e = .returned (.iface 132 (pB b)) ∧ Below w.heap.size w w' := by
 have M := Mem.start w
 have hk1 : ((k : Int) - 1) = ((k - 1 : Nat) : Int) := by omega
 have hk2 := h.few
 refine qI Tryz.func93 33 ?_; intro a S
 refine nxD (qG [1] S ?_); intro a S
 refine nxC (wp_seq (wp_block (nxD (qG [1, 1, 1] S ?_)))); intro a S
 refine nxC (qi 5 S ?_ ?_)
 ·intro h5 S
  exfalso; omega
 intro h5 S
 refine cF S (nxD (qG [1, 1, 1] S ?_)); intro a S
 refine qf 15 S ?_ ?_
 ·intro h15 S
  exfalso; omega
 intro h15 S
 refine qG [1, 1, 1, 32] S ?_; intro a S
 refine qY S (y_load S (by kernel_rfl) rfl (by rw [(h.blk.cells0 M.below).cells]; exact h.row)) ?_; intro a S
 refine qY S (qH 132 S) ?_; intro a S
 refine qG [1, 1, 1] S ?_; intro a S
 refine nxC (qf 12 S ?_ ?_)
 ·intro h12 S
  exfalso; first | omega | (simp at h12; omega)
 intro h12 S
 refine cT S (nxD (qG [1, 1, 32] S ?_)); intro a S
 refine qY S (y_load S (by kernel_rfl) rfl (by rw [(h.blk.cells0 M.below).cells]; exact h.row)) ?_; intro a S
 refine qG [1] S ?_; intro a S
 refine qA S ?_; intro a S
 rw [hk1] at S
 refine qY S (qX 132 1 S (M.arg h.rd)) ?_; intro a S
 try simp only [Int.toNat_natCast, Nat.mul_one, Nat.zero_add] at S
 refine qY S (y_load S (by kernel_rfl) rfl ((M.arg h.rd).at_.one (k - 1) hv)) ?_; intro a S
 refine qY S (y_makeIface S rfl Tryz.underlying132) ?_; intro a S
 refine qG [1] S ?_; intro a S
 replace S := S.keep [0, 1, 5, 12, 4]
 refine nxC (wp_ret (block_ret (then_ret (qO S ?_))))
 exact ⟨rfl, M.below⟩
theorem methH (b : Nat) (w : World) : (method (Tryz.prog.types.size + Made.depth) 184 (pB b) "cashbox/cluster.isDown").run Tryz.prog w = .ok (66, pB b) w := by kernel_rfl
theorem methS (b : Nat) (w : World) : (method (Tryz.prog.types.size + Made.depth) 132 (pB b) "cashbox/cluster.isDown").run Tryz.prog w = .ok (86, pB b) w := by kernel_rfl
theorem downM_any {w : World} {bC : Nat} {sa : Option Addr} {n sc : Nat} {ps : List Value} {cs : Array Value} (h : CluR w bC sa n sc ps cs) :
 Calls Tryz.prog 55 #[pB bC, .int .i64 0] w fun e w' => e = .returned (.bool false) ∧ Below w.heap.size w w' := by
 have M := Mem.start w
 refine qI Tryz.func55 17 ?_; intro a S
 refine nxD (qG [1] S ?_); intro a S
 refine nxC (wp_seq (nxD (qG [1] S ?_))); intro a S
 refine qY S (y_eqlPS (by kernel_rfl) S rfl) ?_; intro a S
 refine nxC (cF S (wp_skip (nxE (qG [1, 1] S ?_)))); intro a S
 refine qQ (xs := [.tmp 8, .tmp 9]) S (qE Tryz.func93) rfl (nodeM_any _ _) M ?_; intro a w1 S hK M
 refine qG [1] S ?_; intro a S
 refine nxA (qG [1] S ?_); intro a S
 refine qY S (y_eqlI Tryz.underlying200 S rfl) ?_; intro a S
 refine qG [1, 1] S ?_; intro a S
 refine st_callI (xs := []) S (methH _ _) (enters_of Tryz.func66 (by decide) rfl) rfl rfl rfl rfl (isDownH_any _ (h.blk.cells0 M.below) h.up) ?_
 rintro _ w2 ⟨rfl, hK⟩; refine ⟨_, rfl, ?_⟩; intro a S; replace M := M.grow hK
 refine qG [1, 1] S ?_; intro a S
 refine nxC (wp_ret (qO S ?_))
 exact ⟨rfl, M.below⟩
theorem downS_any {w : World} {bC : Nat} {sa : Option Addr} {n sc : Nat} {ps : List Value} {cs : Array Value} (h : CluR w bC sa n sc ps cs) {k b bd T : Nat} {self i2 i3 : Int} {st : Value} (hk : 1 ≤ k ∧ k ≤ n) (hv : ps[k - 1]? = some (pB b)) (B : Blk w b (siteC self true bd st i2 i3).toArray T) :
 Calls Tryz.prog 55 #[pB bC, .int .i64 (k : Int)] w fun e w' => e = .returned (.bool false) ∧ Below w.heap.size w w' := by
 have M := Mem.start w
 refine qI Tryz.func55 17 ?_; intro a S
 refine nxD (qG [1] S ?_); intro a S
 refine nxC (wp_seq (nxD (qG [1] S ?_))); intro a S
 refine qY S (y_eqlPS (by kernel_rfl) S rfl) ?_; intro a S
 refine nxC (cF S (wp_skip (nxE (qG [1, 1] S ?_)))); intro a S
 refine qQ (xs := [.tmp 8, .tmp 9]) S (qE Tryz.func93) rfl (nodeS_any h hk hv) M ?_; intro a w1 S hK M
 refine qG [1] S ?_; intro a S
 refine nxA (qG [1] S ?_); intro a S
 refine qY S (y_eqlI Tryz.underlying200 S rfl) ?_; intro a S
 refine qG [1, 1] S ?_; intro a S
 refine st_callI (xs := []) S (methS _ _) (enters_of Tryz.func86 (by decide) rfl) rfl rfl rfl rfl (isDownS_any _ (B.cells0 M.below)) ?_
 rintro _ w2 ⟨rfl, hK⟩; refine ⟨_, rfl, ?_⟩; intro a S; replace M := M.grow hK
 refine qG [1, 1] S ?_; intro a S
 refine nxC (wp_ret (qO S ?_))
 exact ⟨rfl, M.below⟩
theorem mapC_any {w : World} {bC bl TT : Nat} {cs : Array Value} (B : Blk w bC cs TT) (h2 : cs[2]? = some (pB bl)) (dv : Value) (s : Ls) (v : Value) (BL : Blk w bl (lgC dv s v).toArray 206) :
 Calls Tryz.prog 25 #[pB bC] w fun e w' => e = .returned (.agg (mapL s.cu).toArray) ∧ Below w.heap.size w w' := by
 have M := Mem.start w
 refine qI Tryz.func25 12 ?_; intro a S
 refine nxD (qN S M #[.int .i64 0, .int .i64 0, .int .i64 0, .int .i64 0, .int .i64 0, .int .i64 0, .int .i64 0, .int .i64 0] ?_); intro a w1 bR S M hB
 refine nxC (wp_seq (nxD (qG [1] S ?_))); intro a S
 refine qY S (y_eqlPS (by kernel_rfl) S rfl) ?_; intro a S
 refine nxC (cF S (wp_skip (nxE (qG [1, 1, 1, 3] S ?_)))); intro a S
 refine qY S (y_load S (by kernel_rfl) rfl (by rw [(B.cells0 M.below).cells]; exact h2)) ?_; intro a S
 refine qQ (xs := [.tmp 10]) S (qE Tryz.func56) rfl (map_any dv s v _ (BL.cells0 M.below)) M ?_; intro a w2 S hK M
 refine qS (sz := 8) (us := [_, _, _, _, _, _, _, _]) S M 0 ?_; intro w3 M
 refine nxC (wp_ret (end_one S rfl (res_agg (cs := [_, _, _, _, _, _, _, _]) (by kernel_rfl) rfl rfl (M.cellsAt (k := 8) 0 rfl rfl)) ?_))
 exact ⟨rfl, M.below⟩
theorem coordC_any {w : World} {bC TT : Nat} {cs : Array Value} (B : Blk w bC cs TT) (h0 : cs[0]? = some (.bool true)) (h3 : cs[3]? = some (.slice none 0 0)) :
 Calls Tryz.prog 38 #[pB bC] w fun e w' => ∃ a c, e = .returned (.tuple #[.agg #[.slice a 0 c], .int .i64 0]) ∧ Below w.heap.size w w' := by
 have M := Mem.start w
 refine qI Tryz.func38 39 ?_; intro a S
 refine nxD (qN S M #[.slice none 0 0] ?_); intro a w1 bR S M hB
 refine qG [1] S ?_; intro a S
 refine nxC (wp_seq (nxD (qG [1] S ?_))); intro a S
 refine qY S (y_eqlPS (by kernel_rfl) S rfl) ?_; intro a S
 refine nxC (cF S (wp_skip (then_normal (wp_seq (nxD (qG [1, 1, 1] S ?_)))))); intro a S
 refine qQ (xs := [.tmp 11]) S (qE Tryz.func66) rfl (isDownH_any _ (B.cells0 M.below) h0) M ?_; intro a w2 S hK M
 refine nxC (qi 12 S ?_ ?_)
 ·intro h12 S
  cases h12
 intro h12 S
 refine cF S (wp_skip (then_normal (wp_seq ?_)))
 replace M := M.rowNil 180 10
 refine wp_region_lit (qG [1, 1, 1, 4, 1] S ?_); intro a S
 refine qY S (y_load S (by kernel_rfl) rfl (by rw [(B.cells0 M.below).cells]; exact h3)) ?_; intro a S
 refine st_append (e := 180) (sz := 10) (by_ := 96) (zc := [.int .i64 0, .int .i64 0, .int .i64 0, .int .i8 0, .int .i64 0, .int .i64 0, .int .i64 0, .int .i64 0, .int .i64 0, .slice none 0 0]) S M 0 rfl rfl (by kernel_rfl) rfl (by decide) rfl rfl rfl ((Rd.nil 0 0 _ 10)) (rfl) (by omega) (by unfold maxLen; omega) ?_; intro a w3 vA loA hiA S M
 simp only [List.nil_append, Nat.zero_add] at M S
 obtain ⟨aX, cX, rfl, -, -⟩ := (M.readAll 0 rfl (by unfold maxLen; omega)).form
 refine qY S (y_assign S rfl) ?_; intro a S
 refine nxC (wp_seq (nxD (qG [1] S ?_))); intro a S
 refine qY S (qH 180 S) ?_; intro a S
 refine qG [1] S ?_; intro a S
 refine nxC (wp_block (wp_loop_g (fun q a w' => q = 0 ∧ ∃ lo hi, Sees 39 a [(2, pB bR), (4, .slice aX 0 cX), (21, .slice aX 0 cX), (22, .int .i64 0), (23, .int .i64 0)] ∧ Mem w w' [rowE lo hi 180 10 (.slice aX 0 cX) 0 [], .blk bR #[.slice none 0 0] 94]) (0) ?_ ?_))
 ·skip
  exact ⟨rfl, _, _, S.sub _ rfl, M⟩
 intro m a wl
 rintro ⟨rfl, lo, hi, S, M⟩
 refine nxD (qG [1] S ?_); intro a S
 refine nxC (wp_seq (qi 24 S ?_ ?_))
 ·intro h24 S
  exfalso; omega
 intro h24 S
 refine cF S (wp_exit (then_exit (then_exit (block_hit (nxE (qG [1] S ?_)))))); intro a S
 refine qY S (y_build (ps := [(0, .tmp 37)]) (pl := [(0, 1)]) (z := [.slice none 0 0]) (cs := [_]) S (by kernel_rfl) rfl (rfl)) ?_; intro a S
 refine qS (sz := 1) (us := [_]) S M 1 ?_; intro w4 M
 refine qG [1] S ?_; intro a S
 refine nxC (wp_ret (end_two S rfl (res_agg (cs := [_]) (by kernel_rfl) rfl rfl (M.cellsAt (k := 1) 1 rfl rfl)) (res_tmp rfl) ?_))
 exact ⟨aX, cX, rfl, M.below⟩
def encV1 (x : Value) : List Value := [x]
theorem steps1_gen (b1 bC TT : Nat) (cs : Array Value) (h34 : cs[34]? = some (.slice none 0 0)) : Gen Tryz.prog 92 [pB b1] encV1 [] (fun W => Blk W b1 #[pB bC] 35 ∧ Blk W bC cs TT) := by
 intro ll I w hC hg hY h0
 have M := Mem.start w
 refine calls_enterG Tryz.func92 rfl 19 rfl rfl ?_; intro a S
 refine wpIn_seq ?_
 refine wpI_region (by kernel_rfl) (by rintro _ _ ⟨⟨_, h⟩, -⟩; cases h) ?_
 refine qY S (y_load S (by kernel_rfl) rfl (by rw [(hC _ _ h0).1.cells]; rfl)) ?_; intro a S
 refine qG [1, 35] S ?_; intro a S
 refine qY S (y_load S (by kernel_rfl) rfl (by rw [(hC _ _ h0).2.cells]; exact h34)) ?_; intro a S
 refine qY S (qH 157 S) ?_; intro a S
 refine qG [1] S ?_; intro a S
 refine nxC (wpIn_block ?_)
 refine wpI_loop_g (fun m a w' => m = 0 ∧ Sees 19 a [(0, .func (.yield ll) #[] #[]), (8, .slice none 0 0), (9, .int .i64 0), (10, .int .i64 0)] ∧ I [] w') (0) ?_ ?_
 ·skip
  exact ⟨rfl, S.sub _ rfl, h0⟩
 intro m a wl
 rintro ⟨rfl, S, hI⟩
 have M := Mem.start wl
 refine wpIn_seq ?_
 refine wpI_region (by kernel_rfl) (by rintro _ _ ⟨⟨_, h⟩, -⟩; cases h) ?_
 refine qG [1] S ?_; intro a S
 refine nxC (wpIn_seq ?_)
 refine qi 11 S ?_ ?_
 ·intro h11 S
  exfalso; omega
 intro h11 S
 refine stI_condF S rfl ?_
 refine wpIn_exit ?_
 refine then_exit (then_exit (block_hit (end_noneN S rfl ?_)))
 exact ⟨⟨_, rfl⟩, hI⟩
set_option maxHeartbeats 1000000 in
theorem appendSeq0_any {gf : FuncId} {lb : List Value} {C : World → Prop} (hE : Enters Tryz.prog gf) (G : Gen Tryz.prog gf lb encV1 [] C) (w : World) (hC : ∀ W, Below w.heap.size w W → C W) :
 Calls Tryz.prog 91 #[.slice none 0 0, .func (.func gf) #[] lb.toArray] w fun e w' => e = .returned (.slice none 0 0) ∧ Below w.heap.size w w' := by
 have M := Mem.start w
 refine calls_enterM Tryz.func91 rfl 13 rfl rfl ?_; intro a S
 refine nxD (st_box S M rfl rfl rfl #[_] rfl ?_); intro a w1 bB S M hB
 refine qG [1] S ?_; intro a S
 refine nxC (wp_seq (nxD (qG [1] S ?_))); intro a S
 refine nxC (wp_block (wp_range (encs := encV1) (xs := []) S M rfl (hE) (G) (fun _ => rfl) (by kernel_rfl) (fun _ Hs => Hs = [.blk bB #[.slice none 0 0] 22]) (rfl) (fun pre Hs W hI M => hC W M.below) ?_ ?_))
 ·intro lY pre x tX Hs wr BK a hx; exact absurd hx (by simp)
 intro D1 wd Hs a hI M S
 subst hI
 refine block_normal (nxE (qR [2, 1] S M ?_)); intro a S
 refine nxC (wp_ret (end_mark S M 0 rfl ?_)); intro a wM S M
 simp only [List.eraseIdx_cons_succ, List.eraseIdx_cons_zero] at M
 refine end_plain ?_
 refine qO S ?_
 exact ⟨rfl, M.below⟩
theorem collect0_any {gf : FuncId} {lb : List Value} {C : World → Prop} (hE : Enters Tryz.prog gf) (G : Gen Tryz.prog gf lb encV1 [] C) (w : World) (hC : ∀ W, Below w.heap.size w W → C W) :
 Calls Tryz.prog 51 #[.func (.func gf) #[] lb.toArray] w fun e w' => e = .returned (.slice none 0 0) ∧ Below w.heap.size w w' := by
 have M := Mem.start w
 refine qI Tryz.func51 5 ?_; intro a S
 refine nxD (qG [1] S ?_); intro a S
 refine nxA (qG [1] S ?_); intro a S
 refine qQ (xs := [.const (.slice none 0 0), .tmp 3]) S (qE Tryz.func91) rfl (appendSeq0_any hE G _ (fun W hW => hC W (M.below.trans (hW.mono M.below.size)))) M ?_; intro a w1 S hK M
 refine qG [1] S ?_; intro a S
 refine nxC (wp_ret (qO S ?_))
 exact ⟨rfl, M.below⟩
theorem steps_anyC (bC : Nat) (w : World) : Calls Tryz.prog 52 #[pB bC] w fun e w' => ∃ b, e = .returned (.func (.func 92) #[] #[pB b]) ∧ Mem w w' [.blk b #[pB bC] 35] := by
 have M := Mem.start w
 refine qI Tryz.func52 4 ?_; intro a S
 refine nxD (st_box S M rfl rfl rfl #[_] rfl ?_); intro a w1 bB S M hB
 refine qG [1] S ?_; intro a S
 refine nxA (qY S (y_makeFunc (fs := []) (cs := [.tmp 1]) S rfl rfl) ?_); intro a S
 refine qG [1] S ?_; intro a S
 refine nxC (wp_ret (qO S ?_))
 exact ⟨bB, rfl, M⟩
theorem historyC_any {w : World} {bC TT : Nat} {cs : Array Value} (B : Blk w bC cs TT) (h34 : cs[34]? = some (.slice none 0 0)) :
 Calls Tryz.prog 22 #[pB bC] w fun e w' => e = .returned (.slice none 0 0) ∧ Below w.heap.size w w' := by
 have M := Mem.start w
 refine qI Tryz.func22 8 ?_; intro a S
 refine nxD (qG [1] S ?_); intro a S
 refine nxC (wp_seq (nxD (qG [1] S ?_))); intro a S
 refine qY S (y_eqlPS (by kernel_rfl) S rfl) ?_; intro a S
 refine nxC (cF S (wp_skip (nxE (qG [1] S ?_)))); intro a S
 refine qC (xs := [.tmp 5]) S (qE Tryz.func52) rfl (steps_anyC bC _) ?_
 rintro _ w1 ⟨bX, rfl, M1⟩; refine ⟨_, rfl, ?_⟩; intro a S
 replace M := M.join M1
 clear M1
 simp only [List.cons_append, List.nil_append] at M
 refine qQ (xs := [.tmp 6]) S (qE Tryz.func51) rfl (collect0_any (enters_of Tryz.func92 (by decide) rfl) (steps1_gen bX bC TT cs h34) _ (fun W hW => ⟨(M.blk 0 rfl).ext hW, (B.cells0 M.below).ext hW⟩)) M ?_; intro a w2 S hK M
 refine qG [1] S ?_; intro a S
 refine nxC (wp_ret (qO S ?_))
 exact ⟨rfl, M.below⟩
structure CluM (H : List Ent) (bC : Nat) (sa : Option Addr) (n sc : Nat) (ps : List Value) (cs : Array Value) : Prop where
 blk : Ent.blk bC cs 130 ∈ H
 up : cs[0]? = some (.bool true)
 row : cs[31]? = some (.slice sa n sc)
 rowIn : ∃ lo hi, rowE lo hi 132 1 (.slice sa n sc) n ps ∈ H
 few : n ≤ 4
theorem CluM.mono {H H2 : List Ent} {bC : Nat} {sa : Option Addr} {n sc : Nat} {ps : List Value} {cs : Array Value} (h : CluM H bC sa n sc ps cs) (hs : ∀ e ∈ H, e ∈ H2) : CluM H2 bC sa n sc ps cs :=
 ⟨hs _ h.blk, h.up, h.row, by obtain ⟨lo, hi, hr⟩ := h.rowIn; exact ⟨lo, hi, hs _ hr⟩, h.few⟩
theorem CluM.r {wc w : World} {H : List Ent} {bC : Nat} {sa : Option Addr} {n sc : Nat} {ps : List Value} {cs : Array Value} (h : CluM H bC sa n sc ps cs) (M : Mem wc w H) : CluR w bC sa n sc ps cs :=
 ⟨M.blkIn h.blk, h.up, h.row, by obtain ⟨lo, hi, hr⟩ := h.rowIn; exact M.readIn hr (by have := h.few; unfold maxLen; omega), h.few⟩
set_option maxHeartbeats 1000000 in
set_option maxRecDepth 10000 in
theorem storeC_any {wc w : World} {H F : List Ent} {bC : Nat} {sa : Option Addr} {n sc : Nat} {ps : List Value} {cs : Array Value} (M : Mem wc w H) (h : CluM H bC sa n sc ps cs) {k : Nat} {v : Value} {o self : Int} (hk : 1 ≤ k ∧ k ≤ n) (hv : ps[k - 1]? = some v) (hS : SiteE o self v F) (hF : ∀ e ∈ F, e ∈ H) :
 Calls Tryz.prog 28 #[pB bC, .int .i64 (k : Int)] w fun e w' => ∃ ra rc, e = .returned (.tuple #[.agg ((shN o).st.cellsL (.slice ra 0 rc)).toArray, .int .i64 0]) ∧ Mem wc w' H := by
 obtain ⟨b, bd, bs, da, dc, lo, hi, cs9, es, rfl, hb, hs, hr, hBk, he⟩ := hS
 obtain ⟨H1, H2, hH⟩ := List.append_of_mem (hF _ hs)
 have hp : H.Perm (shE bs bd (shN o) (.slice da 0 dc) :: (H1 ++ H2)) := by rw [hH]; exact List.perm_middle
 have hin : ∀ e, e ∈ H → e ∈ shE bs bd (shN o) (.slice da 0 dc) :: (H1 ++ H2) := fun e he => hp.mem_iff.1 he
 replace M := M.perm hp
 have hok : (shN o).st.ok := stX_ok _ _ _ _ rfl
 refine qI Tryz.func28 23 ?_; intro a S
 refine wp_seq ?_
 skip
 refine wp_region_lit (qN S M (zSt.cellsL (.slice none 0 0)).toArray ?_); intro a w1 bR S M hB
 refine qG [1] S ?_; intro a S
 refine nxA (qG [1, 1] S ?_); intro a S
 refine qQ (xs := [.tmp 9, .tmp 10]) S (qE Tryz.func48) rfl (siteC_any ((h.mono fun e he => .tail _ (hin e he)).r M) hk hv (M.blkIn (.tail _ (hin _ (hF _ hb))))) M ?_; intro a w2 S hK M
 refine qG [1, 1, 1, 1, 1] S ?_; intro a S
 refine nxC (wp_seq (nxD (qG [1, 1] S ?_))); intro a S
 refine nxC (qi 15 S ?_ ?_)
 ·intro h15 S
  exact absurd rfl h15
 intro h15 S
 refine cF S (wp_skip (nxE (qG [1, 1, 4] S ?_))); intro a S
 refine qY S (y_load S (by kernel_rfl) rfl (by rw [(M.blkIn (.tail _ (hin _ (hF _ hb)))).cells]; rfl)) ?_; intro a S
 skip
 replace M := M.frn 1
 refine qC (xs := [.tmp 21]) S (qE Tryz.func59) rfl (state11_any (s := shN o) M (fun W pre h9 => (hBk.prs h9 (List.mem_append_right _ (List.Perm.mem_iff (List.Perm.swap _ _ _) |>.1 (.tail _ (hin _ (hF _ hr))))) (fun e he9 => List.mem_append_right _ (List.Perm.mem_iff (List.Perm.swap _ _ _) |>.1 (.tail _ (hin _ (hF _ (he e he9)))))) (by unfold maxLen; simp)).wide (Nat.zero_le _) (Nat.le_refl _)) hBk rfl (Nat.zero_le _)) ?_
 rintro _ w3 ⟨ra, rc, lo2, hi2, cs2, es2, rfl, hB2, M2⟩; refine ⟨_, rfl, ?_⟩; intro a S
 replace M := M2.sub (.cons _ (List.sublist_append_right _ _))
 clear M2 hB2
 refine st_storeAll (sz := 273) S M 1 rfl (by kernel_rfl) rfl rfl (by with_reducible first | exact St.len hok _ | exact St.len zSt_ok _) (by with_reducible first | exact St.one hok _ rfl | exact St.one zSt_ok _ rfl) rfl (by with_reducible first | exact St.len hok _ | exact St.len zSt_ok _) ?_; intro w4 M
 simp only [List.set_cons_zero, List.set_cons_succ] at M
 refine qG [1] S ?_; intro a S
 refine nxC (wp_ret (end_two S rfl (res_agg (k := 273) (cs := _) (by kernel_rfl) rfl (by with_reducible first | exact St.len hok _ | exact St.len zSt_ok _) (M.cellsAt 1 rfl cutL_all)) (res_tmp rfl) ?_))
 skip
 replace M := M.drp 1
 exact ⟨ra, rc, rfl, M.perm hp.symm⟩
theorem locksC_any {wc w : World} {H F : List Ent} {bC : Nat} {sa : Option Addr} {n sc : Nat} {ps : List Value} {cs : Array Value} (M : Mem wc w H) (h : CluM H bC sa n sc ps cs) {k : Nat} {v : Value} {o self : Int} (hk : 1 ≤ k ∧ k ≤ n) (hv : ps[k - 1]? = some v) (hS : SiteE o self v F) (hF : ∀ e ∈ F, e ∈ H) :
 Calls Tryz.prog 20 #[pB bC, .int .i64 (k : Int)] w fun e w' => ∃ a1 c1 a2 c2, e = .returned (.tuple #[.agg #[.slice a1 0 c1, .slice a2 0 c2], .int .i64 0]) ∧ Mem wc w' H := by
 obtain ⟨b, bd, bs, da, dc, lo, hi, cs9, es, rfl, hb, hs, hr, hBk, he⟩ := hS
 refine qI Tryz.func20 33 ?_; intro a S
 refine wp_seq ?_
 skip
 refine wp_region_lit (qN S M #[.slice none 0 0, .slice none 0 0] ?_); intro a w1 bR S M hB
 refine qG [1] S ?_; intro a S
 refine nxA (qG [1, 1] S ?_); intro a S
 refine qQ (xs := [.tmp 10, .tmp 11]) S (qE Tryz.func48) rfl (siteC_any ((h.mono fun e he => .tail _ he).r M) hk hv (M.blkIn (.tail _ (hF _ hb)))) M ?_; intro a w2 S hK M
 refine qG [1, 1, 1, 1, 1] S ?_; intro a S
 refine nxC (wp_seq (nxD (qG [1, 1] S ?_))); intro a S
 refine nxC (qi 16 S ?_ ?_)
 ·intro h16 S
  exact absurd rfl h16
 intro h16 S
 refine cF S (wp_skip (nxE (qG [1, 1, 5, 1] S ?_))); intro a S
 refine qY S (y_loadAgg S (by kernel_rfl) rfl rfl (Blk.cellsAt (o := 4) (k := 2) (M.blkIn (.tail _ (hF _ hb))) rfl)) ?_; intro a S
 refine qN S M #[.slice none 0 0, .slice none 0 0] ?_; intro a w3 bT S M hB
 refine qS (sz := 2) (us := [_, _]) S M 0 ?_; intro w4 M
 refine nxC (wp_seq ?_)
 replace M := (M.rowNil 57 5).rowNil 57 5
 refine wp_region_lit (qR [1, 3] S M ?_); intro a S
 refine st_append (e := 57) (sz := 5) (by_ := 40) (zc := [.int .i64 0, .int .i64 0, .int .i64 0, .int .i64 0, .bool false]) S M 1 rfl rfl (by kernel_rfl) rfl (by decide) rfl rfl rfl ((Rd.nil 0 0 _ 5)) (rfl) (by omega) (by unfold maxLen; omega) ?_; intro a w5 vA loA hiA S M
 simp only [List.nil_append, Nat.zero_add] at M S
 obtain ⟨aX, cX, rfl, -, -⟩ := (M.readAll 0 rfl (by unfold maxLen; omega)).form
 refine qY S (y_fieldAddr (k := 0) S (by kernel_rfl) rfl) ?_; intro a S
 refine qS (sz := 1) (us := [_]) S M 2 ?_; intro w6 M
 replace S := S.keep [0, 1, 4, 5, 6, 7, 16, 8]
 refine nxA (qR [2, 3] S M ?_); intro a S
 refine st_append (e := 57) (sz := 5) (by_ := 40) (zc := [.int .i64 0, .int .i64 0, .int .i64 0, .int .i64 0, .bool false]) S M 1 rfl rfl (by kernel_rfl) rfl (by decide) rfl rfl rfl ((Rd.nil 0 0 _ 5)) (rfl) (by omega) (by unfold maxLen; omega) ?_; intro a w7 vA loA hiA S M
 simp only [List.nil_append, Nat.zero_add] at M S
 obtain ⟨aY, cY, rfl, -, -⟩ := (M.readAll 0 rfl (by unfold maxLen; omega)).form
 refine qY S (y_fieldAddr (k := 1) S (by kernel_rfl) rfl) ?_; intro a S
 refine qS (sz := 1) (us := [_]) S M 2 ?_; intro w8 M
 refine nxA (qY S (qL2 S M 2) ?_); intro a S
 refine qS (sz := 2) (us := [_, _]) S M 3 ?_; intro w9 M
 refine qG [1] S ?_; intro a S
 refine nxC (wp_ret (end_two S rfl (res_agg (cs := [_, _]) (by kernel_rfl) rfl rfl (M.cellsAt (k := 2) 3 rfl rfl)) (res_tmp rfl) ?_))
 skip
 simp only [List.set_cons_zero, List.set_cons_succ, List.eraseIdx_cons_zero, List.eraseIdx_cons_succ] at M
 replace M := M.drp 1
 replace M := M.drp 0
 replace M := M.drp 0
 replace M := M.drp 0
 exact ⟨aX, cX, aY, cY, rfl, M⟩
def fm {α : Type} (f : α → List Value) (l : List α) : List Value := l.flatMap f
structure Ope where
 h : Int
 c : Int
 nm : Nm
 ph : Int
 sh : Int
 n0 : Int
 n1 : Int
 n2 : Int
 n3 : Int
 n4 : Int
 at_ : Int
 ex : Msg
abbrev Ope.cellsL (o : Ope) : List Value := [.int .i64 o.h, .int .i64 o.c, .int .i64 o.nm.stamp, .int .i64 o.nm.inc, .int .i64 o.nm.try_, .int .i8 o.ph, .int .i64 o.sh, .int .i64 o.n0, .int .i64 o.n1, .int .i64 o.n2, .int .i64 o.n3, .int .i64 o.n4, .int .i64 o.at_, .int .i8 o.ex.kind, .int .i64 o.ex.frm, .int .i64 o.ex.to, .int .i64 o.ex.inc, .int .i64 o.ex.your, .int .i64 o.ex.name.stamp, .int .i64 o.ex.name.inc, .int .i64 o.ex.name.try_, .int .i64 o.ex.n, .int .i8 o.ex.op, .int .i64 o.ex.block, .int .u8 (o.ex.val.v0.toNat : Int), .int .u8 (o.ex.val.v1.toNat : Int), .int .u8 (o.ex.val.v2.toNat : Int), .int .u8 (o.ex.val.v3.toNat : Int), .int .u8 (o.ex.val.v4.toNat : Int), .int .u8 (o.ex.val.v5.toNat : Int), .int .u8 (o.ex.val.v6.toNat : Int), .int .u8 (o.ex.val.v7.toNat : Int), .int .i64 o.ex.e, .bool o.ex.yes, .int .i64 o.ex.give, .int .i64 o.ex.take, .slice none 0 0]
structure End_ where
 h : Int
 c : Int
 stamp : Int
 try_ : Int
 e : Int
abbrev End_.cellsL (o : End_) : List Value := [.int .i64 o.h, .int .i64 o.c, .int .i64 o.stamp, .int .i64 o.try_, .int .i64 o.e]
structure Ans where
 c : Int
 h : Int
 e : Int
 val : V8
 stamp : Int
 kind : Int
abbrev Ans.cellsL (o : Ans) : List Value := [.int .i64 o.c, .int .i64 o.h, .int .i64 o.e, .int .u8 (o.val.v0.toNat : Int), .int .u8 (o.val.v1.toNat : Int), .int .u8 (o.val.v2.toNat : Int), .int .u8 (o.val.v3.toNat : Int), .int .u8 (o.val.v4.toNat : Int), .int .u8 (o.val.v5.toNat : Int), .int .u8 (o.val.v6.toNat : Int), .int .u8 (o.val.v7.toNat : Int), .int .i64 o.stamp, .int .i8 o.kind]
structure Seen_ where
 kind : Int
 nm : Nm
 block : Int
 val : V8
 e : Int
abbrev Seen_.cellsL (o : Seen_) : List Value := [.int .i8 o.kind, .int .i64 o.nm.stamp, .int .i64 o.nm.inc, .int .i64 o.nm.try_, .int .i64 o.block, .int .u8 (o.val.v0.toNat : Int), .int .u8 (o.val.v1.toNat : Int), .int .u8 (o.val.v2.toNat : Int), .int .u8 (o.val.v3.toNat : Int), .int .u8 (o.val.v4.toNat : Int), .int .u8 (o.val.v5.toNat : Int), .int .u8 (o.val.v6.toNat : Int), .int .u8 (o.val.v7.toNat : Int), .int .i64 o.e]
abbrev msgL (m : Msg) : List Value := [.int .i8 m.kind, .int .i64 m.frm, .int .i64 m.to, .int .i64 m.inc, .int .i64 m.your, .int .i64 m.name.stamp, .int .i64 m.name.inc, .int .i64 m.name.try_, .int .i64 m.n, .int .i8 m.op, .int .i64 m.block, .int .u8 (m.val.v0.toNat : Int), .int .u8 (m.val.v1.toNat : Int), .int .u8 (m.val.v2.toNat : Int), .int .u8 (m.val.v3.toNat : Int), .int .u8 (m.val.v4.toNat : Int), .int .u8 (m.val.v5.toNat : Int), .int .u8 (m.val.v6.toNat : Int), .int .u8 (m.val.v7.toNat : Int), .int .i64 m.e, .bool m.yes, .int .i64 m.give, .int .i64 m.take, .slice none 0 0]
abbrev nmL (n : Nm) : List Value := [.int .i64 n.stamp, .int .i64 n.inc, .int .i64 n.try_]
structure Of8 where
 o0 : Int
 o1 : Int
 o2 : Int
 o3 : Int
 o4 : Int
 o5 : Int
 o6 : Int
 o7 : Int
abbrev Of8.cellsL (o : Of8) : List Value := [.int .i64 o.o0, .int .i64 o.o1, .int .i64 o.o2, .int .i64 o.o3, .int .i64 o.o4, .int .i64 o.o5, .int .i64 o.o6, .int .i64 o.o7]
def Of8.get (o : Of8) : Nat → Int
 | 0 => o.o0 | 1 => o.o1 | 2 => o.o2 | 3 => o.o3 | 4 => o.o4 | 5 => o.o5 | 6 => o.o6 | _ => o.o7
structure Ses where
 l : List Ope
 last : Int
 inc : Int
 over : List End_
structure Tol where
 mail : List Msg
 ans : List Ans
 seen : List Seen_
 com : List Nm
 ends : List Nm
def Tol.none : Tol := ⟨[], [], [], [], []⟩
structure Dsk where
 s : Ses
 t : Tol
 of : Of8
structure Rw where
 a : Option Addr
 c : Nat
 lo : Nat
 hi : Nat
abbrev Rw.v (r : Rw) (n : Nat) : Value := .slice r.a n r.c
abbrev Rw.ent (r : Rw) (T : TypeId) (sz n : Nat) (cs : List Value) : Ent := rowE r.lo r.hi T sz (r.v n) n cs
abbrev sesL (s : Ses) (rl ro : Rw) : List Value := [rl.v s.l.length, .int .i64 s.last, .int .i64 s.inc, ro.v s.over.length]
abbrev tolL (t : Tol) (rm ra rs rc re : Rw) : List Value := [rm.v t.mail.length, ra.v t.ans.length, rs.v t.seen.length, rc.v t.com.length, re.v t.ends.length]
abbrev dskL (D : Dsk) (rl ro rm ra rs rc re : Rw) : List Value := [rl.v D.s.l.length, .int .i64 D.s.last, .int .i64 D.s.inc, ro.v D.s.over.length, rm.v D.t.mail.length, ra.v D.t.ans.length, rs.v D.t.seen.length, rc.v D.t.com.length, re.v D.t.ends.length, .int .i64 D.of.o0, .int .i64 D.of.o1, .int .i64 D.of.o2, .int .i64 D.of.o3, .int .i64 D.of.o4, .int .i64 D.of.o5, .int .i64 D.of.o6, .int .i64 D.of.o7]
abbrev sesE (s : Ses) (rl ro : Rw) : List Ent := [rl.ent 395 37 s.l.length (fm Ope.cellsL s.l), ro.ent 398 5 s.over.length (fm End_.cellsL s.over)]
abbrev tolE (t : Tol) (rm ra rs rc re : Rw) : List Ent := [rm.ent 247 24 t.mail.length (fm msgL t.mail), ra.ent 239 13 t.ans.length (fm Ans.cellsL t.ans), rs.ent 157 14 t.seen.length (fm Seen_.cellsL t.seen), rc.ent 28 3 t.com.length (fm nmL t.com), re.ent 28 3 t.ends.length (fm nmL t.ends)]
abbrev dskE (b : Nat) (D : Dsk) (rl ro rm ra rs rc re : Rw) : List Ent := .blk b (dskL D rl ro rm ra rs rc re).toArray 306 :: (sesE D.s rl ro ++ tolE D.t rm ra rs rc re)
def DeskE (b : Nat) (D : Dsk) (E : List Ent) : Prop := ∃ rl ro rm ra rs rc re : Rw, E = dskE b D rl ro rm ra rs rc re
structure Dsk.small (D : Dsk) : Prop where
 l : D.s.l.length ≤ 1000
 over : D.s.over.length ≤ 1000
 mail : D.t.mail.length ≤ 1000
 ans : D.t.ans.length ≤ 1000
 seen : D.t.seen.length ≤ 1000
 com : D.t.com.length ≤ 1000
 ends : D.t.ends.length ≤ 1000
abbrev Dsk.answer (D : Dsk) (x : Ans) : Dsk := { D with t := { D.t with ans := D.t.ans ++ [x] } }
abbrev Dsk.seen (D : Dsk) (x : Seen_) : Dsk := { D with t := { D.t with seen := D.t.seen ++ [x] } }
abbrev Dsk.mail (D : Dsk) (x : Msg) : Dsk := { D with t := { D.t with mail := D.t.mail ++ [x] } }
def DeskR (b : Nat) (pa : Option Addr) (pc : Nat) (D : Dsk) (E : List Ent) : Prop := ∃ rl ro rm ra rs rc re : Rw, rl.a = pa ∧ rl.c = pc ∧ E = dskE b D rl ro rm ra rs rc re
structure Cal where
 kind : Int
 c : Int
 h : Int
 block : Int
 stamp : Int
abbrev Cal.cellsL (c : Cal) (dv : Value) : List Value := [.int .i8 c.kind, .int .i64 c.c, .int .i64 c.h, .int .i64 c.block, dv, .int .i64 c.stamp]
abbrev Dsk.refused (D : Dsk) (c : Cal) (e : Int) : Dsk := D.answer ⟨c.c, c.h, e, zV8, 0, c.kind⟩
def FirstP {α : Type} (l : List α) (p : α → Bool) (j : Int) : Prop := (∃ (k : Nat) (q : α), j = (k : Int) ∧ l[k]? = some q ∧ p q = true ∧ ∀ (i : Nat) (q' : α), i < k → l[i]? = some q' → p q' = false) ∨ (j = -1 ∧ ∀ q ∈ l, p q = false)
def Ope.kind (o : Ope) : Int := if o.ph ≠ 1 then 3 else if o.ex.op = 0 then 1 else 2
def zMg : Msg := ⟨0, 0, 0, 0, 0, ⟨0, 0, 0⟩, 0, 0, 0, zV8, 0, false, 0, 0⟩
def Ope.fast (o : Ope) : Msg := { zMg with kind := 9, to := o.at_, name := o.nm }
theorem stripe_any (n : Int) (w : World) : Calls Tryz.prog 53 #[.int .i64 n] w fun e w' => e = .returned (.tuple #[.int .i64 (if 0 ≤ n ∧ n < 32 then n / 4 else 0), .int .i64 (if 0 ≤ n ∧ n < 32 then 0 else 230)]) ∧ Below w.heap.size w w' := by
 have M := Mem.start w
 refine qI Tryz.func53 12 ?_; intro a S
 refine nxD (qG [1, 1] S ?_); intro a S
 refine nxC (wp_seq (nxD (qG [1, 1, 1] S ?_))); intro a S
 refine qi 6 S ?_ ?_
 ·intro h6 S
  refine qG [0, 0, 1] S ?_; intro a S
  refine nxC (cT S (nxD (qG [1, 1] S ?_))); intro a S
  refine nxC (wp_ret (then_ret (qOO S ?_)))
  exact ⟨by rw [if_neg (by omega), if_neg (by omega)], M.below⟩
 intro h6 S
 refine qG [1, 1, 1] S ?_; intro a S
 refine nxC (qi 9 S ?_ ?_)
 ·intro h9 S
  refine cT S (nxD (qG [1, 1] S ?_)); intro a S
  refine nxC (wp_ret (then_ret (qOO S ?_)))
  exact ⟨by rw [if_neg (by omega), if_neg (by omega)], M.below⟩
 intro h9 S
 refine cF S (wp_skip (nxE (qG [1] S ?_))); intro a S
 refine qY S (y_quoN S rfl rfl (by omega)) ?_; intro a S
 refine qG [1, 1] S ?_; intro a S
 refine nxC (wp_ret (qOO S ?_))
 exact ⟨by rw [if_pos (by omega), if_pos (by omega)], M.below⟩
def shardV (of : Of8) (n : Int) : Int := if 0 ≤ n ∧ n < 32 ∧ 1 ≤ of.get (n / 4).toNat ∧ of.get (n / 4).toNat ≤ 4 then of.get (n / 4).toNat else 0
def shardE (of : Of8) (n : Int) : Int := if 0 ≤ n ∧ n < 32 then (if 1 ≤ of.get (n / 4).toNat ∧ of.get (n / 4).toNat ≤ 4 then 0 else 4) else 230
set_option maxHeartbeats 1000000 in
set_option maxRecDepth 10000 in
theorem blockC_any {wc w : World} {H F : List Ent} {bC bl : Nat} {sa : Option Addr} {n sc : Nat} {ps : List Value} {cs : Array Value} {m : Su} {dv v0 : Value} {s : Ls} (M : Mem wc w H) (h : CluM H bC sa n sc ps cs) (h2 : cs[2]? = some (pB bl)) (hl : Ent.blk bl (lgC dv s v0).toArray 206 ∈ H) (hs : s.cu = m)
 (hm : ∀ k, k < 8 → ∃ j : Nat, m.mAt k = (j : Int) ∧ 1 ≤ j ∧ j ≤ n) (hp : ps.length = n) (hS : SitesE m ps F) (hF : ∀ e ∈ F, e ∈ H) {k : Nat} (hk : k < 32) :
 Calls Tryz.prog 23 #[pB bC, .int .i64 (k : Int)] w fun e w' => e = .returned (.tuple #[.agg zV8.cellsL.toArray, .int .i64 0]) ∧ Mem wc w' H := by
 obtain ⟨j, hj, hj1, hjn⟩ := hm (k / 4) (by omega)
 have hjl : j - 1 < ps.length := by omega
 obtain ⟨v, hv⟩ : ∃ v, ps[j - 1]? = some v := ⟨_, List.getElem?_eq_getElem hjl⟩
 obtain ⟨b, bd, bs, da, dc, lo, hi, cs9, es, rfl, hb, hsE, hr, hBk, he⟩ := hS (j - 1) v hv
 obtain ⟨H1, H2, hH⟩ := List.append_of_mem (hF _ hsE)
 have hperm : H.Perm (shE bs bd (shN (ownB m (((j - 1 : Nat) : Int) + 1) 8)) (.slice da 0 dc) :: (H1 ++ H2)) := by rw [hH]; exact List.perm_middle
 have e4 : ((k : Int) / 4) = ((k / 4 : Nat) : Int) := by omega
 refine qI Tryz.func23 40 ?_; intro a S
 refine wp_seq ?_
 skip
 refine wp_region_lit (qN S M #[.int .u8 0, .int .u8 0, .int .u8 0, .int .u8 0, .int .u8 0, .int .u8 0, .int .u8 0, .int .u8 0] ?_); intro a w1 bR S M hB
 refine qG [1] S ?_; intro a S
 refine nxC (wp_seq (nxD (qG [1] S ?_))); intro a S
 refine qY S (y_eqlPS (by kernel_rfl) S rfl) ?_; intro a S
 refine nxC (cF S (wp_skip (nxE (qG [1] S ?_)))); intro a S
 refine qC (xs := [.tmp 13]) S (qE Tryz.func53) rfl (stripe_any (k : Int) _) ?_
 rintro _ w2 ⟨rfl, hK⟩; refine ⟨_, rfl, ?_⟩; intro a S; replace M := M.grow hK; clear hK
 rw [if_pos (by omega), if_pos (by omega), e4] at S
 refine qG [1, 1, 1, 1, 1] S ?_; intro a S
 refine nxC (wp_seq (nxD (qG [1, 1] S ?_))); intro a S
 refine nxC (qi 18 S ?_ ?_)
 ·intro h18 S
  exact absurd rfl h18
 intro h18 S
 refine cF S (wp_skip (nxE (qG [1, 1] S ?_))); intro a S
 refine qQ (xs := [.tmp 22]) S (qE Tryz.func25) rfl (mapC_any (M.blkIn (.tail _ h.blk)) h2 _ _ _ (M.blkIn (.tail _ hl))) M ?_; intro a w3 S hK M
 refine qG [1] S ?_; intro a S
 refine qY S (y_indexP (m := 8) (sz := 1) S (by kernel_rfl) (fun e he => by cases he.symm.trans (show _ = some (.array 8 3) by kernel_rfl); kernel_rfl) rfl rfl (by first | omega | (simp; done) | (simp; omega)) (by rw [hs, Int.toNat_natCast, Nat.mul_one]; exact mapL_at m (by omega))) ?_; intro a S
 rw [hj] at S
 refine qQ (xs := [.tmp 21, .tmp 25]) S (qE Tryz.func48) rfl (siteC_any ((h.mono fun e he => .tail _ he).r M) ⟨hj1, hjn⟩ hv (M.blkIn (.tail _ (hF _ hb)))) M ?_; intro a w4 S hK M
 refine qG [1, 1, 1, 1, 1] S ?_; intro a S
 replace S := S.keep [0, 1, 4, 5, 10, 6, 18, 8, 7]
 refine nxC (wp_seq (nxD (qG [1, 1] S ?_))); intro a S
 refine nxC (qi 30 S ?_ ?_)
 ·intro h30 S
  exact absurd rfl h30
 intro h30 S
 refine cF S (wp_skip (nxE (qG [1, 1, 4] S ?_))); intro a S
 refine qY S (y_load S (by kernel_rfl) rfl (by rw [(M.blkIn (.tail _ (hF _ hb))).cells]; rfl)) ?_; intro a S
 replace M := M.perm ((List.Perm.cons _ hperm).trans (.swap _ _ _))
 refine qY S (y_move S rfl) ?_; intro a S
 refine qC (xs := [.tmp 35, .tmp 36]) S (qE Tryz.func54) rfl (read11_any k zV8 M rfl (by show (List.replicate 32 zV8)[k]? = _; rw [List.getElem?_replicate, if_pos hk])) ?_
 rintro _ w5 ⟨rfl, M1⟩; refine ⟨_, rfl, ?_⟩; intro a S; replace M := M1; clear M1
 refine qG [1, 1] S ?_; intro a S
 refine qS (sz := 8) (us := [_, _, _, _, _, _, _, _]) S M 1 ?_; intro w6 M
 refine qG [1] S ?_; intro a S
 refine nxC (wp_ret (end_two S rfl (res_agg (cs := [_, _, _, _, _, _, _, _]) (by kernel_rfl) rfl rfl (M.cellsAt (k := 8) 1 rfl rfl)) (res_tmp rfl) ?_))
 skip
 replace M := (M.perm (.swap _ _ _)).perm (List.Perm.cons _ hperm.symm)
 replace M := M.drp 0
 exact ⟨rfl, M⟩
instance : DecidableEq Nm := fun _ _ => decidable_of_iff _ Nm.eqb_iff
def nmcells (l : List Nm) : List Value := l.flatMap fun n => n.cells.toList
theorem nmcells_length : ∀ l, (nmcells l).length = l.length * 3
 | [] => rfl
 | x :: l => by
   show (x.cells.toList ++ nmcells l).length = _
   rw [List.length_append, nmcells_length l]; simp; omega
theorem nmcells_get {l : List Nm} {i : Nat} {x : Nm} (hx : l[i]? = some x) : ((nmcells l).drop (i * 3)).take 3 = x.cells.toList := by
 obtain ⟨hlt, he⟩ := List.getElem?_eq_some_iff.1 hx
 have e : nmcells l = nmcells (l.take i) ++ (x.cells.toList ++ nmcells (l.drop (i + 1))) := by
  conv => lhs; rw [← List.take_append_drop i l, List.drop_eq_getElem_cons hlt, he]
  simp [nmcells]
 rw [e, show i * 3 = (nmcells (l.take i)).length by rw [nmcells_length, List.length_take]; omega, List.drop_left]
 rfl
theorem nmcells_snoc (l : List Nm) (x : Nm) : nmcells (l ++ [x]) = nmcells l ++ x.cells.toList := by simp [nmcells]
structure Sn where
 kind : Int
 name : Nm
 block : Int
 val : V8
 e : Int
abbrev Sn.cellsL (s : Sn) : List Value := [.int .i8 s.kind, .int .i64 s.name.stamp, .int .i64 s.name.inc, .int .i64 s.name.try_, .int .i64 s.block, .int .u8 (s.val.v0.toNat : Int), .int .u8 (s.val.v1.toNat : Int), .int .u8 (s.val.v2.toNat : Int), .int .u8 (s.val.v3.toNat : Int), .int .u8 (s.val.v4.toNat : Int), .int .u8 (s.val.v5.toNat : Int), .int .u8 (s.val.v6.toNat : Int), .int .u8 (s.val.v7.toNat : Int), .int .i64 s.e]
def scells (l : List Sn) : List Value := l.flatMap Sn.cellsL
theorem scells_length : ∀ l, (scells l).length = l.length * 14
 | [] => rfl
 | x :: l => by
   show (x.cellsL ++ scells l).length = _
   rw [List.length_append, scells_length l]; simp; omega
theorem scells_split {l : List Sn} {i : Nat} {x : Sn} (hx : l[i]? = some x) : scells l = scells (l.take i) ++ (x.cellsL ++ scells (l.drop (i + 1))) := by
 obtain ⟨hlt, he⟩ := List.getElem?_eq_some_iff.1 hx
 conv => lhs; rw [← List.take_append_drop i l, List.drop_eq_getElem_cons hlt, he]
 simp [scells]
theorem scells_get {l : List Sn} {i : Nat} {x : Sn} (hx : l[i]? = some x) : ((scells l).drop (i * 14)).take 14 = x.cellsL := by
 have hlt := (List.getElem?_eq_some_iff.1 hx).1
 rw [scells_split hx, show i * 14 = (scells (l.take i)).length by rw [scells_length, List.length_take]; omega, List.drop_left]
 rfl
abbrev Ss (lo hi : Nat) (w : World) (v : Value) (l : List Sn) : Prop := Rd lo hi w 14 v l.length (scells l)
instance : DecidableEq V8 := fun _ _ => decidable_of_iff _ V8.eqb_iff
def Sn.isk (x : Sn) (k : Int) (n : Nm) : Bool := x.kind == k && x.name.eqb n
theorem Sn.isk_iff {x : Sn} {k : Int} {n : Nm} : x.isk k n = true ↔ x.kind = k ∧ x.name = n := by simp [Sn.isk, Nm.eqb_iff]
def fstI (l : List Sn) (k : Int) (n : Nm) : Int := match l.findIdx? (·.isk k n) with
 | some j => (j : Int)
 | none => -1
def hitS (l : List Sn) (k : Int) (n : Nm) (j : Nat) : Prop := ∃ x, l[j]? = some x ∧ x.kind = k ∧ x.name = n
theorem fstI_cases (l : List Sn) (k : Int) (n : Nm) : (fstI l k n = -1 ∧ ∀ j, ¬ hitS l k n j) ∨ (∃ j : Nat, fstI l k n = (j : Int) ∧ hitS l k n j ∧ ∀ i, i < j → ¬ hitS l k n i) := by
 unfold fstI
 cases h : l.findIdx? (·.isk k n) with
 | none =>
   left
   refine ⟨rfl, fun j ⟨x, hx, h1, h2⟩ => ?_⟩
   rw [List.findIdx?_eq_none_iff] at h
   have := h x (List.mem_of_getElem? hx)
   rw [Sn.isk_iff.2 ⟨h1, h2⟩] at this
   cases this
 | some j =>
   right
   rw [List.findIdx?_eq_some_iff_getElem] at h
   obtain ⟨hj, h1, h2⟩ := h
   refine ⟨j, rfl, ⟨l[j], List.getElem?_eq_getElem hj, (Sn.isk_iff.1 h1).1, (Sn.isk_iff.1 h1).2⟩, fun i hi ⟨x, hx, h3, h4⟩ => ?_⟩
   obtain ⟨hi2, rfl⟩ := List.getElem?_eq_some_iff.1 hx
   exact h2 i hi (Sn.isk_iff.2 ⟨h3, h4⟩)
theorem fstI_le {l : List Sn} {k : Int} {n : Nm} {i : Nat} : (0 ≤ fstI l k n ∧ fstI l k n ≤ (i : Int)) ↔ ∃ j, j ≤ i ∧ hitS l k n j := by
 rcases fstI_cases l k n with ⟨h1, h2⟩ | ⟨j, h1, h2, h3⟩
 ·rw [h1]
  exact ⟨fun h => by omega, fun ⟨j, _, h⟩ => absurd h (h2 j)⟩
 ·rw [h1]
  refine ⟨fun h => ⟨j, by omega, h2⟩, fun ⟨m, hm, h⟩ => ?_⟩
  rcases Nat.lt_or_ge m j with hl | hl
  ·exact absurd h (h3 m hl)
  ·omega
theorem fstI_lt {l : List Sn} {k : Int} {n : Nm} {i : Nat} : (0 ≤ fstI l k n ∧ fstI l k n < (i : Int)) ↔ ∃ j, j < i ∧ hitS l k n j := by
 rcases fstI_cases l k n with ⟨h1, h2⟩ | ⟨j, h1, h2, h3⟩
 ·rw [h1]
  exact ⟨fun h => by omega, fun ⟨j, _, h⟩ => absurd h (h2 j)⟩
 ·rw [h1]
  refine ⟨fun h => ⟨j, by omega, h2⟩, fun ⟨m, hm, h⟩ => ?_⟩
  rcases Nat.lt_or_ge m j with hl | hl
  ·exact absurd h (h3 m hl)
  ·omega
theorem fstI_eq {l : List Sn} {k : Int} {n : Nm} {i : Nat} (h : hitS l k n i) : fstI l k n = (i : Int) ↔ ∀ j, j < i → ¬ hitS l k n j := by
 rcases fstI_cases l k n with ⟨h1, h2⟩ | ⟨j, h1, h2, h3⟩
 ·exact absurd h (h2 i)
 ·rw [h1]
  refine ⟨fun e => ?_, fun hn => ?_⟩
  ·have : j = i := by omega
   subst this; exact h3
  ·rcases Nat.lt_trichotomy j i with hl | hl | hl
   ·exact absurd h2 (hn j hl)
   ·omega
   ·exact absurd h (h3 i hl)
theorem fstI_some {l : List Sn} {k : Int} {n : Nm} : 0 ≤ fstI l k n ↔ ∃ j, hitS l k n j := by
 rcases fstI_cases l k n with ⟨h1, h2⟩ | ⟨j, h1, h2, h3⟩
 ·rw [h1]; exact ⟨fun h => by omega, fun ⟨j, h⟩ => absurd h (h2 j)⟩
 ·rw [h1]; exact ⟨fun _ => ⟨j, h2⟩, fun _ => by omega⟩
def condR (l : List Sn) (i : Nat) (x : Sn) : Prop :=
 (0 ≤ x.kind ∧ x.kind ≤ 5 ∧ x.name.named = true) ∧ (0 ≤ fstI l 0 x.name ∧ fstI l 0 x.name ≤ (i : Int)) ∧ (x.kind = 1 ∨ x.kind = 2 ∨ fstI l x.kind x.name = (i : Int)) ∧
 ((x.kind = 1 ∨ x.kind = 2) → (0 ≤ x.block ∧ x.block < 32) ∧ ¬ (0 ≤ fstI l 3 x.name ∧ fstI l 3 x.name < (i : Int))) ∧
 (x.kind = 4 → x.e = 0 → 0 ≤ fstI l 3 x.name ∧ fstI l 3 x.name ≤ (i : Int)) ∧ (x.kind = 5 → 0 ≤ fstI l 3 x.name ∧ fstI l 3 x.name ≤ (i : Int))
def mayS (l : List Sn) : Prop := ∀ (i : Nat) x, l[i]? = some x → condR l i x
structure Tk where
 begun : Bool
 called : Bool
 answered : Bool
 decided : Bool
 commit : Nat
 steps : List (Int × Nat)
def zTk : Tk := ⟨false, false, false, false, 0, []⟩
def Tk.may (t : Tk) (x : Sn) : Bool :=
 if x.kind = 0 then !t.begun
 else if x.kind = 1 ∨ x.kind = 2 then t.begun && (!t.called && decide (0 ≤ x.block ∧ x.block < 32))
 else if x.kind = 3 then t.begun && !t.called
 else if x.kind = 4 then t.begun && (!t.answered && (t.called || decide (x.e ≠ 0)))
 else if x.kind = 5 then t.begun && (!t.decided && t.called)
 else false
def Tk.take (t : Tk) (i : Nat) (x : Sn) : Tk :=
 if x.kind = 0 then { t with begun := true }
 else if x.kind = 1 ∨ x.kind = 2 then { t with steps := t.steps ++ [(x.block, i)] }
 else if x.kind = 3 then { t with called := true, commit := i }
 else if x.kind = 4 then { t with answered := true }
 else { t with decided := true }
structure TrP (l : List Sn) (i : Nat) (m : Nm → Tk) : Prop where
 begun : ∀ n, (m n).begun = true ↔ ∃ j, j < i ∧ hitS l 0 n j
 called : ∀ n, (m n).called = true ↔ ∃ j, j < i ∧ hitS l 3 n j
 answered : ∀ n, (m n).answered = true ↔ ∃ j, j < i ∧ hitS l 4 n j
 decided : ∀ n, (m n).decided = true ↔ ∃ j, j < i ∧ hitS l 5 n j
 commit : ∀ n, (m n).called = true → (m n).commit < i ∧ hitS l 3 n (m n).commit
 steps : ∀ n, (m n).steps = ((l.take i).zipIdx.filter fun p => p.1.name.eqb n && (p.1.kind == 1 || p.1.kind == 2)).map fun p => (p.1.block, p.2)
theorem hitS_self {l : List Sn} {i : Nat} {x : Sn} (h : l[i]? = some x) : hitS l x.kind x.name i := ⟨x, h, rfl, rfl⟩
theorem hit_succ {l : List Sn} {i : Nat} {x : Sn} (h : l[i]? = some x) (k : Int) (n : Nm) : (∃ j, j < i + 1 ∧ hitS l k n j) ↔ (∃ j, j < i ∧ hitS l k n j) ∨ (x.kind = k ∧ x.name = n) := by
 constructor
 ·rintro ⟨j, hj, hh⟩
  rcases Nat.lt_or_ge j i with hl | hl
  ·exact .inl ⟨j, hl, hh⟩
  ·have : j = i := by omega
   subst this
   obtain ⟨y, hy, h1, h2⟩ := hh
   rw [h] at hy; cases hy
   exact .inr ⟨h1, h2⟩
 ·rintro (⟨j, hj, hh⟩ | ⟨h1, h2⟩)
  ·exact ⟨j, by omega, hh⟩
  ·exact ⟨i, by omega, x, h, h1, h2⟩
theorem TrP.zero (l : List Sn) : TrP l 0 fun _ => zTk :=
 ⟨fun n => by simp [zTk], fun n => by simp [zTk], fun n => by simp [zTk], fun n => by simp [zTk], fun n h => by simp [zTk] at h, fun n => by simp [zTk]⟩
theorem TrP.iff {l : List Sn} {i : Nat} {m : Nm → Tk} {x : Sn} (h : TrP l i m) (hx : l[i]? = some x) : condR l i x ↔ x.name.named = true ∧ (m x.name).may x = true := by
 have hb : (0 ≤ fstI l 0 x.name ∧ fstI l 0 x.name ≤ (i : Int)) ↔ (m x.name).begun = true ∨ x.kind = 0 := by
  rw [fstI_le, h.begun]
  have := hit_succ hx 0 x.name
  constructor
  ·rintro ⟨j, hj, hh⟩
   rcases this.1 ⟨j, by omega, hh⟩ with h1 | h1
   ·exact .inl h1
   ·exact .inr h1.1
  ·rintro (⟨j, hj, hh⟩ | h1)
   ·exact ⟨j, by omega, hh⟩
   ·exact ⟨i, Nat.le_refl _, x, hx, h1, rfl⟩
 have hc : (0 ≤ fstI l 3 x.name ∧ fstI l 3 x.name < (i : Int)) ↔ (m x.name).called = true := by rw [fstI_lt, h.called]
 have hc2 : x.kind ≠ 3 → ((0 ≤ fstI l 3 x.name ∧ fstI l 3 x.name ≤ (i : Int)) ↔ (m x.name).called = true) := fun hk => by
  rw [fstI_le, h.called]
  constructor
  ·rintro ⟨j, hj, hh⟩
   rcases (hit_succ hx 3 x.name).1 ⟨j, by omega, hh⟩ with h1 | h1
   ·exact h1
   ·exact absurd h1.1 hk
  ·rintro ⟨j, hj, hh⟩
   exact ⟨j, by omega, hh⟩
 have hf : fstI l x.kind x.name = (i : Int) ↔ ∀ j, j < i → ¬ hitS l x.kind x.name j := fstI_eq (hitS_self hx)
 have hno : ∀ (k : Int) (t : Bool), (t = true ↔ ∃ j, j < i ∧ hitS l k x.name j) → x.kind = k → (fstI l x.kind x.name = (i : Int) ↔ t = false) := fun k t ht hk => by
  rw [hf, hk]
  cases t with
  | true =>
    obtain ⟨j, hj, hh⟩ := ht.1 rfl
    exact ⟨fun h => absurd hh (h j hj), fun h => by cases h⟩
  | false => exact ⟨fun _ => rfl, fun _ j hj hh => absurd (ht.2 ⟨j, hj, hh⟩) (by decide)⟩
 unfold condR Tk.may
 by_cases k0 : x.kind = 0
 ·rw [hb, hno 0 _ (h.begun x.name) k0, if_pos k0]
  simp [k0]
 ·rw [if_neg k0]
  by_cases k12 : x.kind = 1 ∨ x.kind = 2
  ·rw [hb, hc, if_pos k12]
   rcases k12 with k1 | k1 <;> simp [k1] <;> intro _ _ <;> exact and_comm
  ·rw [if_neg k12]
   by_cases k3 : x.kind = 3
   ·rw [hb, hno 3 _ (h.called x.name) k3, if_pos k3]
    simp [k3]
   ·rw [if_neg k3]
    by_cases k4 : x.kind = 4
    ·rw [hb, hc2 k3, hno 4 _ (h.answered x.name) k4, if_pos k4]
     simp [k4]
     intro _ _ _
     constructor
     ·intro d
      by_cases e : x.e = 0
      ·exact .inl (d e)
      ·exact .inr e
     ·exact fun d e => d.elim id fun h => absurd e h
    ·rw [if_neg k4]
     by_cases k5 : x.kind = 5
     ·rw [hb, hc2 k3, hno 5 _ (h.decided x.name) k5, if_pos k5]
      simp [k5]
     ·rw [if_neg k5]
      simp
      omega
theorem TrP.step {l : List Sn} {i : Nat} {m : Nm → Tk} {x : Sn} (h : TrP l i m) (hx : l[i]? = some x) (hm : (m x.name).may x = true) : TrP l (i + 1) fun n => if n = x.name then (m x.name).take i x else m n := by
 have hk : x.kind = 0 ∨ x.kind = 1 ∨ x.kind = 2 ∨ x.kind = 3 ∨ x.kind = 4 ∨ x.kind = 5 := by
  unfold Tk.may at hm
  (repeat' split at hm) <;> first | omega | simp_all
 have hs : ∀ n, ((l.take (i + 1)).zipIdx.filter fun p => p.1.name.eqb n && (p.1.kind == 1 || p.1.kind == 2)).map (fun p => (p.1.block, p.2)) = (((l.take i).zipIdx.filter fun p => p.1.name.eqb n && (p.1.kind == 1 || p.1.kind == 2)).map fun p => (p.1.block, p.2)) ++ (if x.name = n ∧ (x.kind = 1 ∨ x.kind = 2) then [(x.block, i)] else []) := fun n => by
  obtain ⟨hl, he⟩ := List.getElem?_eq_some_iff.1 hx
  rw [List.take_add_one, hx, List.zipIdx_append, List.filter_append, List.map_append]
  congr 1
  have : (l.take i).length = i := by rw [List.length_take]; omega
  rw [this]
  show List.map _ (List.filter _ [(x, 0 + i)]) = _
  rw [Nat.zero_add]
  by_cases hc : x.name = n ∧ (x.kind = 1 ∨ x.kind = 2)
  ·rw [if_pos hc, List.filter_cons_of_pos (by simp [Nm.eqb_iff, hc])]; rfl
  ·rw [if_neg hc, List.filter_cons_of_neg (by simp [Nm.eqb_iff]; intro h1; exact ⟨fun h2 => hc ⟨h1, .inl h2⟩, fun h2 => hc ⟨h1, .inr h2⟩⟩)]; rfl
 have upd : ∀ (n : Nm), (if n = x.name then (m x.name).take i x else m n) = if n = x.name then (m n).take i x else m n := fun n => by
  split
  ·rename_i e; rw [e]
  ·rfl
 refine ⟨fun n => ?_, fun n => ?_, fun n => ?_, fun n => ?_, fun n hn => ?_, fun n => ?_⟩
 ·rw [upd, hit_succ hx 0 n, ← h.begun n]
  unfold Tk.take
  split
  ·rename_i e; subst e
   rcases hk with k | k | k | k | k | k <;> simp [k]
  ·rename_i e; simp [Ne.symm e]
 ·rw [upd, hit_succ hx 3 n, ← h.called n]
  unfold Tk.take
  split
  ·rename_i e; subst e
   rcases hk with k | k | k | k | k | k <;> simp [k]
  ·rename_i e; simp [Ne.symm e]
 ·rw [upd, hit_succ hx 4 n, ← h.answered n]
  unfold Tk.take
  split
  ·rename_i e; subst e
   rcases hk with k | k | k | k | k | k <;> simp [k]
  ·rename_i e; simp [Ne.symm e]
 ·rw [upd, hit_succ hx 5 n, ← h.decided n]
  unfold Tk.take
  split
  ·rename_i e; subst e
   rcases hk with k | k | k | k | k | k <;> simp [k]
  ·rename_i e; simp [Ne.symm e]
 ·simp only [upd] at hn ⊢
  split
  ·rename_i e
   rw [if_pos e] at hn
   by_cases k3 : x.kind = 3
   ·have e1 : ((m n).take i x).commit = i := by unfold Tk.take; simp [k3]
    rw [e1]
    exact ⟨by omega, x, hx, k3, e.symm⟩
   ·have e1 : ((m n).take i x).commit = (m n).commit ∧ ((m n).take i x).called = (m n).called := by
     unfold Tk.take
     rcases hk with k | k | k | k | k | k <;> simp [k] <;> omega
    rw [e1.1]; rw [e1.2] at hn
    obtain ⟨a, b⟩ := h.commit n hn
    exact ⟨by omega, b⟩
  ·rename_i e
   rw [if_neg e] at hn
   obtain ⟨a, b⟩ := h.commit n hn
   exact ⟨by omega, b⟩
 ·rw [upd, hs n, ← h.steps n]
  unfold Tk.take
  split
  ·rename_i e; subst e
   rcases hk with k | k | k | k | k | k <;> simp [k]
  ·rename_i e; simp [Ne.symm e]
def ordS (l : List Sn) : List Nm := (l.filter fun x => x.kind == 3 && decide (0 ≤ fstI l 5 x.name)).map (·.name)
theorem ord_mem {l : List Sn} (h : mayS l) {n : Nm} : n ∈ ordS l ↔ ∃ j, hitS l 5 n j := by
 unfold ordS
 rw [List.mem_map]
 constructor
 ·rintro ⟨x, hx, rfl⟩
  have := (List.mem_filter.1 hx).2
  simp only [Bool.and_eq_true, beq_iff_eq, decide_eq_true_eq] at this
  exact fstI_some.1 this.2
 ·rintro ⟨j, x, hx, hk, rfl⟩
  obtain ⟨-, -, -, -, -, h5⟩ := h j x hx
  obtain ⟨i, y, hy, hk3, hn⟩ := fstI_some.1 (h5 hk).1
  refine ⟨y, List.mem_filter.2 ⟨List.mem_of_getElem? hy, ?_⟩, hn⟩
  simp only [Bool.and_eq_true, beq_iff_eq, decide_eq_true_eq]
  exact ⟨hk3, by rw [hn]; exact fstI_some.2 ⟨j, x, hx, hk, rfl⟩⟩
theorem commit_at {l : List Sn} (h : mayS l) {i : Nat} {n : Nm} (hh : hitS l 3 n i) : fstI l 3 n = (i : Int) := by
 obtain ⟨x, hx, hk, rfl⟩ := hh
 obtain ⟨-, -, h3, -, -, -⟩ := h i x hx
 rcases h3 with h3 | h3 | h3
 ·omega
 ·omega
 ·rw [← hk]; exact h3
theorem ord_rises {l : List Sn} (h : mayS l) : (ordS l).Pairwise fun a b => fstI l 3 a < fstI l 3 b := by
 have e : ordS l = (l.zipIdx.filter fun p => p.1.kind == 3 && decide (0 ≤ fstI l 5 p.1.name)).map fun p => p.1.name := by
  unfold ordS
  have e1 : l = l.zipIdx.map (·.1) := by simp
  conv => lhs; arg 2; arg 2; rw [e1]
  rw [List.filter_map, List.map_map]
  rfl
 rw [e, List.pairwise_map]
 have h1 : l.zipIdx.Pairwise fun p q => p.2 < q.2 := by
  have := List.pairwise_lt_range (n := l.length)
  have e2 : l.zipIdx.map (·.2) = List.range l.length := by simp [List.range_eq_range']
  rw [← e2, List.pairwise_map] at this
  exact this
 refine (h1.filter _).imp_of_mem fun {p q} hp hq hlt => ?_
 have key : ∀ p : Sn × Nat, p ∈ l.zipIdx.filter (fun p => p.1.kind == 3 && decide (0 ≤ fstI l 5 p.1.name)) → fstI l 3 p.1.name = (p.2 : Int) := fun p hp => by
  obtain ⟨h2, h3⟩ := List.mem_filter.1 hp
  simp only [Bool.and_eq_true, beq_iff_eq] at h3
  exact commit_at h ⟨p.1, List.mk_mem_zipIdx_iff_getElem?.1 h2, h3.1, rfl⟩
 rw [key p hp, key q hq]
 omega
theorem ord_only {l : List Sn} (h : mayS l) {r : List Nm} (hn : r.Nodup) (hm : ∀ n, n ∈ r ↔ ∃ j, hitS l 5 n j) (hs : r.Pairwise fun a b => fstI l 3 a ≤ fstI l 3 b) : r = ordS l := by
 have ho := ord_rises h
 have hno : (ordS l).Nodup := ho.imp fun {a b} hab e => by subst e; omega
 have hp : r.Perm (ordS l) := (List.perm_ext_iff_of_nodup hn hno).2 fun n => by rw [hm, ord_mem h]
 refine hp.eq_of_pairwise (le := fun a b => fstI l 3 a ≤ fstI l 3 b) (fun a b ha hb hab hba => ?_) hs (ho.imp fun h => Int.le_of_lt h)
 have c3 : ∀ n, n ∈ ordS l → ∃ i : Nat, hitS l 3 n i := fun n hn' => by
  unfold ordS at hn'
  obtain ⟨x, hx, rfl⟩ := List.mem_map.1 hn'
  obtain ⟨h2, h3⟩ := List.mem_filter.1 hx
  simp only [Bool.and_eq_true, beq_iff_eq] at h3
  obtain ⟨i, hi⟩ := List.mem_iff_getElem?.1 h2
  exact ⟨i, x, hi, h3.1, rfl⟩
 obtain ⟨i, hi⟩ := c3 a (hp.mem_iff.1 ha)
 obtain ⟨j, hj⟩ := c3 b hb
 have e1 := commit_at h hi
 have e2 := commit_at h hj
 have : i = j := by omega
 subst this
 obtain ⟨x, hx, -, rfl⟩ := hi
 obtain ⟨y, hy, -, rfl⟩ := hj
 rw [hx] at hy; cases hy; rfl
abbrev Rp := List V8 × Bool
def zV : V8 := ⟨0, 0, 0, 0, 0, 0, 0, 0⟩
def at8 (s : List V8) (b : Int) : V8 := (s[b.toNat]?).getD zV
def rpS (s : Rp) (x : Sn) : Rp :=
 if x.kind = 2 then (s.1.set x.block.toNat x.val, s.2) else if x.kind = 1 then (s.1, s.2 && (at8 s.1 x.block).eqb x.val) else s
def rpN (l : List Sn) (s : Rp) (n : Nm) : Rp := (l.filter fun x => x.name.eqb n).foldl rpS s
def rpA (l : List Sn) : Rp := (ordS l).foldl (rpN l) (List.replicate 32 zV, true)
def rpP (l : List Sn) (s : Rp) (p : Int × Nat) : Rp := match l[p.2]? with
 | some x => if x.kind = 2 then (s.1.set p.1.toNat x.val, s.2) else (s.1, s.2 && (at8 s.1 p.1).eqb x.val)
 | none => s
def stepsS (l : List Sn) (n : Nm) : List (Int × Nat) := (l.zipIdx.filter fun p => p.1.name.eqb n && (p.1.kind == 1 || p.1.kind == 2)).map fun p => (p.1.block, p.2)
theorem rpS_len (s : Rp) (x : Sn) : (rpS s x).1.length = s.1.length := by unfold rpS; (repeat' split) <;> simp
theorem rpN_len (l : List Sn) (s : Rp) (n : Nm) : (rpN l s n).1.length = s.1.length := by
 unfold rpN
 generalize l.filter (fun x => x.name.eqb n) = q
 induction q generalizing s with
 | nil => rfl
 | cons x q ih => rw [List.foldl_cons, ih, rpS_len]
theorem rp_same (l : List Sn) (s : Rp) (n : Nm) : (stepsS l n).foldl (rpP l) s = rpN l s n := by
 unfold stepsS rpN
 have key : ∀ (q : List (Sn × Nat)) (s : Rp), (∀ p ∈ q, l[p.2]? = some p.1) → ((q.filter fun p => p.1.name.eqb n && (p.1.kind == 1 || p.1.kind == 2)).map fun p => (p.1.block, p.2)).foldl (rpP l) s = ((q.map (·.1)).filter fun x => x.name.eqb n).foldl rpS s := by
  intro q
  induction q with
  | nil => intro s _; rfl
  | cons p q ih =>
    intro s hq
    have hp := hq p (List.mem_cons_self ..)
    have hq' : ∀ r ∈ q, l[r.2]? = some r.1 := fun r hr => hq r (List.mem_cons_of_mem _ hr)
    rw [List.map_cons]
    by_cases hn : p.1.name.eqb n = true
    ·rw [List.filter_cons_of_pos (p := fun x : Sn => x.name.eqb n) hn, List.foldl_cons]
     by_cases hk : p.1.kind = 1 ∨ p.1.kind = 2
     ·rw [List.filter_cons_of_pos (by simp [hn]; exact hk), List.map_cons, List.foldl_cons, ih _ hq']
      congr 1
      unfold rpP rpS
      rw [hp]
      rcases hk with hk | hk <;> simp [hk]
     ·rw [List.filter_cons_of_neg (by simp [hn]; exact ⟨fun e => hk (.inl e), fun e => hk (.inr e)⟩), ih _ hq']
      congr 1
      unfold rpS
      rw [if_neg fun e => hk (.inr e), if_neg fun e => hk (.inl e)]
    ·rw [List.filter_cons_of_neg (p := fun x : Sn => x.name.eqb n) hn, List.filter_cons_of_neg (by simp [hn]), ih _ hq']
 have := key l.zipIdx s fun p hp => List.mk_mem_zipIdx_iff_getElem?.1 hp
 rw [this]
 simp
def yesS (l : List Sn) : List Nm := (l.filter fun x => x.kind == 4 && x.e == 0).map (·.name)
def noS (l : List Sn) : List Nm := (l.filter fun x => x.kind == 4 && (x.e != 0 && x.e != 122)).map (·.name)
def rightS (l : List Sn) : Prop := mayS l ∧ (rpA l).2 = true ∧ (∀ n ∈ yesS l, n ∈ ordS l) ∧ ∀ n ∈ noS l, n ∉ ordS l
theorem right_doc (l : List Sn) : rightS l ↔ mayS l ∧ (rpA l).2 = true ∧ (∀ n ∈ yesS l, ∃ j, hitS l 5 n j) ∧ ∀ n ∈ noS l, ¬ ∃ j, hitS l 5 n j := by
 unfold rightS
 constructor
 ·rintro ⟨h1, h2, h3, h4⟩
  exact ⟨h1, h2, fun n hn => (ord_mem h1).1 (h3 n hn), fun n hn h => h4 n hn ((ord_mem h1).2 h)⟩
 ·rintro ⟨h1, h2, h3, h4⟩
  exact ⟨h1, h2, fun n hn => (ord_mem h1).2 (h3 n hn), fun n hn h => h4 n hn ((ord_mem h1).1 h)⟩
end Go.Proofs.YtdcgcgifgnaccaaGreat
namespace Go.Proofs.YtdcgcgifgnaccaaGreat
open Go.RowKit Go.Sort
variable {ds : List Deferred}
variable {P : Program} {ops : Array Oper} {Q : Exit → Act → World → Prop} {rest : List Oper} {n d : Nat} {a : Act} {L : List (Nat × Value)} {w w0 : World} {v : Value}
def fl (k : Int) : Nat := FloatKind.f64.nearest k
theorem fl_back {k : Int} (h : 0 ≤ k ∧ k < 256) : (FloatKind.f64.decode (fl k)).toInt .zero = some k := by
 have : ∀ k : Fin 256, (FloatKind.f64.decode (fl (k.1 : Int))).toInt .zero = some (k.1 : Int) := by decide +kernel
 have h2 := this ⟨k.toNat, by omega⟩
 rwa [show ((k.toNat : Nat) : Int) = k by omega] at h2
theorem y_toFl {x : Operand} {k : IntKind} {i : Int} {src dst : TypeId} (S : SeesD ds n a L) (hx : val L x = some (.int k i)) (hs : (P.underlying src).isSome = true) (hd : P.underlying dst = some (.float .f64)) {d : Option Tmp} {t : TypeId} {p : String} {e : Array Edge} {g : Option (Nat × Bool)} :
 Yields P a ⟨d, .convert src dst x, t, p, e, g⟩ w (.float .f64 (fl i)) := by
 obtain ⟨td, htd⟩ := Option.isSome_iff_exists.1 hs
 unfold Yields execOp
 simp only [S.eval hx, convert, Sem.run_bind]
 rw [show (underlying src).run P w = .ok td w by simp [underlying, htd, go_sem]]
 simp only [Result.andThen_ok]
 rw [show (underlying dst).run P w = .ok (.float .f64) w by simp [underlying, hd, go_sem]]
 rfl
theorem y_fromFl {x : Operand} {i : Int} {src dst : TypeId} (S : SeesD ds n a L) (hx : val L x = some (.float .f64 (fl i))) (hi : 0 ≤ i ∧ i < 256) (hs : (P.underlying src).isSome = true) (hd : P.underlying dst = some (.int .i64)) {d : Option Tmp} {t : TypeId} {p : String} {e : Array Edge} {g : Option (Nat × Bool)} :
 Yields P a ⟨d, .convert src dst x, t, p, e, g⟩ w (.int .i64 i) := by
 obtain ⟨td, htd⟩ := Option.isSome_iff_exists.1 hs
 unfold Yields execOp
 simp only [S.eval hx, convert, Sem.run_bind]
 rw [show (underlying src).run P w = .ok td w by simp [underlying, htd, go_sem]]
 simp only [Result.andThen_ok]
 rw [show (underlying dst).run P w = .ok (.int .i64) w by simp [underlying, hd, go_sem]]
 simp only [Result.andThen_ok]
 unfold Conv.floatToInt
 simp only [fl_back hi]
 have h1 : IntKind.i64.min ≤ i ∧ i ≤ IntKind.i64.max := by
  have e1 : IntKind.i64.min = -9223372036854775808 := by decide
  have e2 : IntKind.i64.max = 9223372036854775807 := by decide
  omega
 rw [if_pos h1]
 rfl
theorem y_complex {x y : Operand} {i j : Nat} (S : SeesD ds n a L) (hx : val L x = some (.float .f64 i)) (hy : val L y = some (.float .f64 j)) {d : Option Tmp} {ts : Array TypeId} {t : TypeId} {p : String} {e : Array Edge} {g : Option (Nat × Bool)} :
 Yields P a ⟨d, .call { callee := .builtin .complex, args := #[x, y], argTypes := ts }, t, p, e, g⟩ w (.complex .f64 i j) := by
 obtain ⟨cs, h⟩ := run_builtin (P := P) (w := w) (b := .complex) (xs := [x, y]) (vs := [.float .f64 i, .float .f64 j]) S (by simp [vals, hx, hy]) (d := d) (ts := ts) (t := t) (p := p) (e := e) (g := g)
 unfold Yields
 rw [h]
 have e1 : Builtin.complex_ ts t #[.float .f64 i, .float .f64 j] = pure (.complex .f64 i j) := rfl
 simp [e1, go_sem]
theorem y_real {x : Operand} {i j : Nat} (S : SeesD ds n a L) (hx : val L x = some (.complex .f64 i j)) {d : Option Tmp} {ts : Array TypeId} {t : TypeId} {p : String} {e : Array Edge} {g : Option (Nat × Bool)} :
 Yields P a ⟨d, .call { callee := .builtin .real, args := #[x], argTypes := ts }, t, p, e, g⟩ w (.float .f64 i) := by
 obtain ⟨cs, h⟩ := run_builtin (P := P) (w := w) (b := .real) (xs := [x]) (vs := [.complex .f64 i j]) S (by simp [vals, hx]) (d := d) (ts := ts) (t := t) (p := p) (e := e) (g := g)
 unfold Yields
 rw [h]
 have e1 : Builtin.real_ ts t #[.complex .f64 i j] = pure (.float .f64 i) := rfl
 simp [e1, go_sem]
theorem y_imag {x : Operand} {i j : Nat} (S : SeesD ds n a L) (hx : val L x = some (.complex .f64 i j)) {d : Option Tmp} {ts : Array TypeId} {t : TypeId} {p : String} {e : Array Edge} {g : Option (Nat × Bool)} :
 Yields P a ⟨d, .call { callee := .builtin .imag, args := #[x], argTypes := ts }, t, p, e, g⟩ w (.float .f64 j) := by
 obtain ⟨cs, h⟩ := run_builtin (P := P) (w := w) (b := .imag) (xs := [x]) (vs := [.complex .f64 i j]) S (by simp [vals, hx]) (d := d) (ts := ts) (t := t) (p := p) (e := e) (g := g)
 unfold Yields
 rw [h]
 have e1 : Builtin.imag_ ts t #[.complex .f64 i j] = pure (.float .f64 j) := rfl
 simp [e1, go_sem]
end Go.Proofs.YtdcgcgifgnaccaaGreat

namespace Go.Proofs.YtdcgcgifgnaccaaGreat
open Go.RowKit Go.Sort
structure TkR where
 lo : Nat
 hi : Nat
 a : Option Addr
 c : Nat
def ccells (s : List (Int × Nat)) : List Value := s.map fun p => .complex .f64 (fl p.1) (fl (p.2 : Int))
def tkL (t : Tk) (r : TkR) : List Value := [.bool t.begun, .bool t.called, .bool t.answered, .bool t.decided, .int .i64 (t.commit : Int), .slice r.a t.steps.length r.c]
abbrev tkVal (t : Tk) (r : TkR) : Value := .agg (tkL t r).toArray
abbrev tkE (t : Tk) (r : TkR) : Ent := rowE r.lo r.hi 154 1 (.slice r.a t.steps.length r.c) t.steps.length (ccells t.steps)
abbrev Ky := Nm × Tk × TkR
abbrev Ky.ent (k : Ky) : Ent := tkE k.2.1 k.2.2
def rowsK (K : List Ky) : List Ent := K.map Ky.ent
def TrkM (l : Mes Nm) (K : List Ky) : Prop := l.map (fun p => (p.1, p.2.val)) = K.map fun k => (k.1, tkVal k.2.1 k.2.2)
def keyK (K : List Ky) (n : Nm) : Option Ky := K.find? fun k => decide (k.1 = n)
def tkOf (K : List Ky) (n : Nm) : Tk := ((keyK K n).map (·.2.1)).getD zTk
def putK (K : List Ky) (n : Nm) (t : Tk) (r : TkR) : List Ky := if n ∈ K.map (·.1) then K.map fun k => if k.1 = n then (n, t, r) else k else K ++ [(n, t, r)]
theorem TrkM.keys {l : Mes Nm} {K : List Ky} (h : TrkM l K) : l.map (·.1) = K.map (·.1) := by
 have := congrArg (List.map Prod.fst) h
 rw [List.map_map, List.map_map] at this
 exact this
theorem TrkM.nil : TrkM [] [] := rfl
theorem TrkM.get {l : Mes Nm} {K : List Ky} (h : TrkM l K) (n : Nm) : getM l n = (keyK K n).map fun k => tkVal k.2.1 k.2.2 := by
 unfold getM keyK TrkM at *
 induction l generalizing K with
 | nil => cases K with
   | nil => rfl
   | cons k K => simp at h
 | cons p l ih => cases K with
   | nil => simp at h
   | cons k K =>
     rw [List.map_cons, List.map_cons, List.cons.injEq, Prod.mk.injEq] at h
     obtain ⟨⟨h1, h2⟩, h3⟩ := h
     by_cases hn : k.1 = n
     ·rw [List.find?_cons_of_pos (by simp [h1, hn]), List.find?_cons_of_pos (by simp [hn])]
      simp [h2]
     ·rw [List.find?_cons_of_neg (by simp [h1, hn]), List.find?_cons_of_neg (by simp [hn])]
      exact ih h3
theorem TrkM.put {l : Mes Nm} {K : List Ky} {enc : Nm → Value} (h : TrkM l K) (c : Nat) (n : Nm) (t : Tk) (r : TkR) : TrkM (putM enc l c n (tkVal t r)).1 (putK K n t r) := by
 unfold putM putK
 rw [h.keys]
 split
 ·unfold setM TrkM at *
  rw [List.map_map, List.map_map]
  have e1 : (l.map ((fun p : Nm × MapEntry => (p.1, p.2.val)) ∘ fun p => if p.1 = n then (p.1, { p.2 with val := tkVal t r }) else p)) = (l.map fun p => (p.1, p.2.val)).map fun q => if q.1 = n then (q.1, tkVal t r) else q := by
   rw [List.map_map]; congr 1; funext p; simp only [Function.comp]; split <;> rfl
  rw [e1, h, List.map_map]
  congr 1; funext k; simp only [Function.comp]; split
  ·rename_i e; rw [e]
  ·rfl
 ·unfold TrkM at *
  rw [List.map_append, h, List.map_append]; rfl
theorem keyK_some {K : List Ky} {n : Nm} (h : n ∈ K.map (·.1)) : ∃ k, keyK K n = some k ∧ k ∈ K ∧ k.1 = n := by
 obtain ⟨k, hk, e⟩ := List.mem_map.1 h
 cases hf : keyK K n with
 | none => exact absurd e (by simpa using (List.find?_eq_none.1 hf) k hk)
 | some q => exact ⟨q, rfl, List.mem_of_find?_eq_some hf, by simpa using List.find?_some hf⟩
theorem keyK_none {K : List Ky} {n : Nm} (h : n ∉ K.map (·.1)) : keyK K n = none := by
 refine List.find?_eq_none.2 fun k hk e => h (List.mem_map.2 ⟨k, hk, by simpa using e⟩)
theorem tkOf_put {K : List Ky} (n : Nm) (t : Tk) (r : TkR) : tkOf (putK K n t r) = fun m => if m = n then t else tkOf K m := by
 funext m
 unfold putK tkOf keyK
 split
 ·rename_i hk
  obtain ⟨k, hk1, -, -⟩ := keyK_some hk
  rw [List.find?_map]
  have e : ((fun k : Ky => decide (k.1 = m)) ∘ fun k : Ky => if k.1 = n then (n, t, r) else k) = fun k => decide (k.1 = m) := by
   funext k; simp only [Function.comp]; split
   ·rename_i e; simp [e]
   ·rfl
  rw [e]
  by_cases hm : m = n
  ·subst hm
   rw [if_pos rfl]
   unfold keyK at hk1
   rw [hk1]
   have := List.find?_some hk1
   simp only [decide_eq_true_eq] at this
   simp [this]
  ·rw [if_neg hm]
   cases hf : K.find? (fun k => decide (k.1 = m)) with
   | none => rfl
   | some q =>
     have := List.find?_some hf
     simp only [decide_eq_true_eq] at this
     have h2 : ¬ q.1 = n := fun e => hm (this.symm.trans e)
     simp [h2]
 ·rename_i hk
  rw [List.find?_append]
  by_cases hm : m = n
  ·subst hm
   rw [if_pos rfl]
   have h1 : K.find? (fun k => decide (k.1 = m)) = none := keyK_none hk
   rw [h1]; simp
  ·rw [if_neg hm]
   have : ([(n, t, r)] : List Ky).find? (fun k => decide (k.1 = m)) = none := by simp [Ne.symm hm]
   rw [this]; simp
theorem rowsK_put {K : List Ky} {n : Nm} {t t0 : Tk} {r r0 : TkR} (hn : (K.map (·.1)).Nodup) (hk : keyK K n = some (n, t0, r0)) : ∃ R, (rowsK K).Perm (tkE t0 r0 :: R) ∧ (rowsK (putK K n t r)).Perm (tkE t r :: R) := by
 have hm := List.mem_of_find?_eq_some hk
 obtain ⟨A, B, rfl⟩ := List.append_of_mem hm
 have hnk : n ∈ (A ++ (n, t0, r0) :: B).map (·.1) := by simp
 rw [List.map_append, List.map_cons] at hn
 obtain ⟨hA, hB, hAB⟩ := List.nodup_append.1 hn
 have hB2 := (List.nodup_cons.1 hB).1
 have eA : ∀ k ∈ A, k.1 ≠ n := fun k hk e => hAB k.1 (List.mem_map.2 ⟨k, hk, rfl⟩) n (by simp) e
 have eB : ∀ k ∈ B, k.1 ≠ n := fun k hk e => hB2 (List.mem_map.2 ⟨k, hk, e⟩)
 refine ⟨rowsK A ++ rowsK B, ?_, ?_⟩
 ·unfold rowsK; rw [List.map_append, List.map_cons]; exact List.perm_middle
 ·unfold putK; rw [if_pos hnk]
  have : (A ++ (n, t0, r0) :: B).map (fun k : Ky => if k.1 = n then (n, t, r) else k) = A ++ (n, t, r) :: B := by
   rw [List.map_append, List.map_cons, if_pos rfl]
   congr 1
   ·conv => rhs; rw [← List.map_id A]
    exact List.map_congr_left fun k hk => if_neg (eA k hk)
   ·congr 1
    conv => rhs; rw [← List.map_id B]
    exact List.map_congr_left fun k hk => if_neg (eB k hk)
  rw [this]
  unfold rowsK; rw [List.map_append, List.map_cons]; exact List.perm_middle
theorem rowsK_new {K : List Ky} {n : Nm} {t : Tk} {r : TkR} (h : n ∉ K.map (·.1)) : (rowsK (putK K n t r)).Perm (tkE t r :: rowsK K) := by
 unfold putK; rw [if_neg h]; unfold rowsK; rw [List.map_append]
 exact List.perm_append_comm
theorem decided_ord {l : List Sn} {m : Nm → Tk} {r : List Nm} (h : mayS l) (T : TrP l l.length m) (hn : r.Nodup) (hm : ∀ n, n ∈ r ↔ (m n).decided = true) (hs : r.Pairwise fun a b => ¬ (m b).commit < (m a).commit) : r = ordS l := by
 have h5 : ∀ n, (m n).decided = true ↔ ∃ j, hitS l 5 n j := fun n => by
  rw [T.decided]
  exact ⟨fun ⟨j, _, hj⟩ => ⟨j, hj⟩, fun ⟨j, hj⟩ => ⟨j, by obtain ⟨x, hx, _⟩ := hj; exact (List.getElem?_eq_some_iff.1 hx).1, hj⟩⟩
 have hc : ∀ n, n ∈ r → fstI l 3 n = ((m n).commit : Int) := fun n hr => by
  obtain ⟨j, x, hx, hk, rfl⟩ := (h5 n).1 ((hm n).1 hr)
  obtain ⟨-, -, -, -, -, h6⟩ := h j x hx
  obtain ⟨i, hi, hh⟩ := fstI_le.1 (h6 hk)
  have hcl : (m x.name).called = true := (T.called _).2 ⟨i, by have := (List.getElem?_eq_some_iff.1 hx).1; omega, hh⟩
  exact commit_at h (T.commit _ hcl).2
 refine ord_only h hn (fun n => (hm n).trans (h5 n)) ?_
 refine hs.imp_of_mem fun {a b} ha hb hab => ?_
 rw [hc a ha, hc b hb]
 omega
theorem steps_all {l : List Sn} {m : Nm → Tk} (T : TrP l l.length m) (n : Nm) : (m n).steps = stepsS l n := by
 rw [T.steps n, List.take_length]; rfl
theorem may_go {l : List Sn} {i : Nat} {m : Nm → Tk} {x : Sn} (T : TrP l i m) (hx : l[i]? = some x) (hp : ∀ (j : Nat) y, j < i → l[j]? = some y → condR l j y) (hn : x.name.named = true) (hm : (m x.name).may x = true) :
 TrP l (i + 1) (fun n => if n = x.name then (m x.name).take i x else m n) ∧ ∀ (j : Nat) y, j < i + 1 → l[j]? = some y → condR l j y := by
 refine ⟨T.step hx hm, fun j y hj hy => ?_⟩
 rcases Nat.lt_or_ge j i with h | h
 ·exact hp j y h hy
 ·obtain rfl : j = i := by omega
  rw [hx] at hy; cases hy
  exact (T.iff hx).2 ⟨hn, hm⟩
theorem may_not {l : List Sn} {i : Nat} {m : Nm → Tk} {x : Sn} (T : TrP l i m) (hx : l[i]? = some x) (hn : ¬ (x.name.named = true ∧ (m x.name).may x = true)) : ¬ mayS l := fun h => hn ((T.iff hx).1 (h i x hx))
theorem steps_small {l : List Sn} {i : Nat} {m : Nm → Tk} (T : TrP l i m) (hp : ∀ (j : Nat) y, j < i → l[j]? = some y → condR l j y) (n : Nm) : ∀ p ∈ (m n).steps, 0 ≤ p.1 ∧ p.1 < 32 ∧ p.2 < i ∧ ∃ x, l[p.2]? = some x ∧ x.block = p.1 ∧ (x.kind = 1 ∨ x.kind = 2) := by
 intro p hpm
 rw [T.steps n] at hpm
 obtain ⟨q, hq, rfl⟩ := List.mem_map.1 hpm
 obtain ⟨h1, h2⟩ := List.mem_filter.1 hq
 simp only [Bool.and_eq_true, Bool.or_eq_true, beq_iff_eq] at h2
 have h3 := List.mk_mem_zipIdx_iff_getElem?.1 h1
 rw [List.getElem?_take] at h3
 split at h3
 ·rename_i hlt
  obtain ⟨-, -, -, h4, -, -⟩ := hp q.2 q.1 hlt h3
  obtain ⟨⟨a, b⟩, -⟩ := h4 h2.2
  exact ⟨a, b, hlt, q.1, h3, rfl, h2.2⟩
 ·cases h3
theorem scells_at {l : List Sn} {i : Nat} {x : Sn} (hx : l[i]? = some x) (k : Nat) {u : Value} (hk : x.cellsL[k]? = some u) : (scells l)[i * 14 + k]? = some u := by
 have hlt := (List.getElem?_eq_some_iff.1 hx).1
 have hl : (scells (l.take i)).length = i * 14 := by rw [scells_length, List.length_take]; omega
 have hk2 := (List.getElem?_eq_some_iff.1 hk).1
 rw [scells_split hx, List.getElem?_append_right (by omega), hl, show i * 14 + k - i * 14 = k by omega, List.getElem?_append_left hk2, hk]
set_option maxHeartbeats 1000000 in
theorem first27_any (va : Option Addr) (vc : Nat) (l : List Sn) (kd : Int) (n : Nm) (w : World) (hv : Ss 0 w.heap.size w (.slice va l.length vc) l) :
 Calls Tryz.prog 102 #[.slice va l.length vc, .int .i8 kd, .agg n.cells] w fun e w' => e = .returned (.int .i64 (fstI l kd n)) ∧ Below w.heap.size w w' := by
 have M := Mem.start w
 have hl := hv.2.1
 unfold maxLen at hl
 refine qI Tryz.func102 31 ?_; intro a S
 refine nxD (st_box S M rfl rfl rfl #[_, _, _] rfl ?_); intro a w1 bB S M hB
 refine qG [1] S ?_; intro a S
 refine nxC (wp_seq (nxD (qG [1] S ?_))); intro a S
 refine nxC (wp_block (wp_loop_g (fun m a w' => ∃ (k : Nat), k ≤ l.length ∧ m = l.length - k ∧ Sees 31 a [(0, .slice va l.length vc), (1, .int .i8 kd), (5, .pointer (some ⟨bB, 0, none⟩)), (7, .int .i64 (k : Int))] ∧ Mem w w' [.blk bB n.cells 28] ∧ ∀ j, j < k → ¬ hitS l kd n j) (l.length) ?_ ?_))
 ·skip
  exact ⟨0, Nat.zero_le _, rfl, S.sub _ rfl, M, fun j h => absurd h (by omega)⟩
 intro m a wl
 rintro ⟨k, hk, rfl, S, M, hpre⟩
 refine wp_seq (nxD (qG [1, 1] S ?_)); intro a S
 refine qY S (y_lenR (E := 157) S rfl ((M.arg hv)) (by kernel_rfl)) ?_; intro a S
 refine qG [1] S ?_; intro a S
 refine nxC (qf 11 S ?_ ?_)
 ·intro h11 S
  refine cF S (wp_exit (then_exit (then_exit (block_hit (nxE (qG [1] S ?_)))))); intro a S
  refine nxC (wp_ret (qO S ?_))
  obtain rfl : k = l.length := by omega
  refine ⟨?_, M.below⟩
  rcases fstI_cases l kd n with ⟨h1, -⟩ | ⟨j, -, hh, -⟩
  ·rw [h1]
  ·obtain ⟨y, hy, h2⟩ := hh
   exact absurd ⟨y, hy, h2⟩ (hpre j (List.getElem?_eq_some_iff.1 hy).1)
 intro h11 S
 refine cT S (wp_skip (then_normal (wp_seq (wp_block (wp_seq ?_)))))
 obtain ⟨x, hx⟩ : ∃ x, l[k]? = some x := ⟨_, List.getElem?_eq_getElem (by omega)⟩
 refine wp_quiet M (by kernel_rfl) (by kernel_rfl) ?_
 refine qU S (fun w M => y_move S rfl) ?_; intro a S
 refine qU S (fun w M => y_move S rfl) ?_; intro a S
 refine qU S (fun w M => qX 157 14 S ((M.arg hv))) ?_; intro a S
 try simp only [Int.toNat_natCast, Nat.mul_one, Nat.zero_add] at S
 refine qU S (fun w M => y_fieldAddr (k := 0) S (by kernel_rfl) rfl) ?_; intro a S
 refine qU S (fun w M => y_load S (by kernel_rfl) rfl ((M.arg hv).at_.elem (i := k) (sz := 14) (k := 0) (scells_at hx 0 rfl))) ?_; intro a S
 refine qU S (fun w M => y_move S rfl) ?_; intro a S
 refine qU S (fun w M => y_int S rfl rfl rfl) ?_; intro a S
 refine qU S (fun w M => y_move S rfl) ?_; intro a S
 refine qf 21 S ?_ ?_
 ·intro h21 S
  refine qt_skip 7 S rfl ?_; intro a S
  refine qU S (fun w M => y_pickF S rfl rfl) ?_; intro a S
  refine wpQuiet_nil ?_; intro w3 M
  refine then_normal (cF S (wp_skip (block_normal (nxF (qG [1] S ?_))))); intro a S
  refine qA S ?_; intro a S
  refine qG [1] S ?_; intro a S
  replace S := S.keep [0, 1, 5, 11, 29, 7]
  refine nxC ?_
  refine ⟨l.length - (k + 1), by omega, k + 1, by omega, rfl, S.sub _ rfl, M, fun j hj => ?_⟩
  rcases Nat.lt_or_ge j k with h | h
  ·exact hpre j h
  ·obtain rfl : j = k := by omega
   rintro ⟨y, hy, h1, h2⟩
   rw [hx] at hy; obtain rfl := Option.some.inj hy
   first
    | exact absurd h1 h21
    | (rw [Nm.eqb_iff.2 h2] at h29; cases h29)
 intro h21 S
 refine qU S (fun w M => y_move S rfl) ?_; intro a S
 refine qU S (fun w M => y_move S rfl) ?_; intro a S
 refine qU S (fun w M => qX 157 14 S ((M.arg hv))) ?_; intro a S
 try simp only [Int.toNat_natCast, Nat.mul_one, Nat.zero_add] at S
 refine qU S (fun w M => y_fieldAddr (k := 1) S (by kernel_rfl) rfl) ?_; intro a S
 refine qU S (fun w M => y_loadAgg S (by kernel_rfl) rfl rfl (((M.arg hv).at_.row (i := k) (scells_get hx) rfl).sub (i := 1) (k := 3))) ?_; intro a S
 refine qU S (fun w M => qL3 S M 0) ?_; intro a S
 refine qU S (fun w M => y_eqlG (by kernel_rfl) S rfl rfl (fun w => equalNm 9998 x.name n w)) ?_; intro a S
 refine qU S (fun w M => y_pickT S rfl rfl) ?_; intro a S
 refine wpQuiet_nil ?_; intro w2 M
 replace S := S.keep [0, 1, 5, 7, 11, 29]
 refine then_normal (st_split (t := 29) S rfl ?_ ?_)
 ·intro h29 S
  refine cT S (nxD (qG [1, 1] S ?_)); intro a S
  refine nxC (wp_ret (block_ret (then_ret (then_ret (block_ret (then_ret (qO S ?_)))))))
  refine ⟨?_, M.below⟩
  rw [(fstI_eq ⟨x, hx, h21, Nm.eqb_iff.1 h29⟩).2 hpre]
 intro h29 S
 refine cF S (wp_skip (block_normal (nxF (qG [1] S ?_)))); intro a S
 refine qA S ?_; intro a S
 refine qG [1] S ?_; intro a S
 refine nxC ?_
 refine ⟨l.length - (k + 1), by omega, k + 1, by omega, rfl, S.sub _ rfl, M, fun j hj => ?_⟩
 rcases Nat.lt_or_ge j k with h | h
 ·exact hpre j h
 ·obtain rfl : j = k := by omega
  rintro ⟨y, hy, h1, h2⟩
  rw [hx] at hy; obtain rfl := Option.some.inj hy
  first
   | exact absurd h1 h21
   | (rw [Nm.eqb_iff.2 h2] at h29; cases h29)
set_option maxHeartbeats 1000000 in
theorem done31_any (va : Option Addr) (vc : Nat) (l : List Sn) (n : Nm) (w : World) (hv : Ss 0 w.heap.size w (.slice va l.length vc) l) :
 Calls Tryz.prog 43 #[.slice va l.length vc, .agg n.cells] w fun e w' => e = .returned (.bool (decide (0 ≤ fstI l 5 n))) ∧ Below w.heap.size w w' := by
 have M := Mem.start w
 have hl := hv.2.1
 unfold maxLen at hl
 refine qI Tryz.func43 27 ?_; intro a S
 refine nxD (st_box S M rfl rfl rfl #[_, _, _] rfl ?_); intro a w1 bB S M hB
 refine qG [1] S ?_; intro a S
 refine nxC (wp_seq (nxD (qG [1] S ?_))); intro a S
 refine nxC (wp_block (wp_loop_g (fun m a w' => ∃ (k : Nat), k ≤ l.length ∧ m = l.length - k ∧ Sees 27 a [(0, .slice va l.length vc), (3, .pointer (some ⟨bB, 0, none⟩)), (5, .int .i64 (k : Int))] ∧ Mem w w' [.blk bB n.cells 28] ∧ ∀ j, j < k → ¬ hitS l 5 n j) (l.length) ?_ ?_))
 ·skip
  exact ⟨0, Nat.zero_le _, rfl, S.sub _ rfl, M, fun j h => absurd h (by omega)⟩
 intro m a wl
 rintro ⟨k, hk, rfl, S, M, hpre⟩
 refine wp_seq (nxD (qG [1, 1] S ?_)); intro a S
 refine qY S (y_lenR (E := 157) S rfl ((M.arg hv)) (by kernel_rfl)) ?_; intro a S
 refine qG [1] S ?_; intro a S
 refine nxC (qf 9 S ?_ ?_)
 ·intro h9 S
  refine cF S (wp_exit (then_exit (then_exit (block_hit (nxE (qG [1] S ?_)))))); intro a S
  refine nxC (wp_ret (qO S ?_))
  obtain rfl : k = l.length := by omega
  refine ⟨?_, M.below⟩
  rw [decide_eq_false fun h => ?_]
  obtain ⟨j, y, hy, h2⟩ := fstI_some.1 h
  exact hpre j (List.getElem?_eq_some_iff.1 hy).1 ⟨y, hy, h2⟩
 intro h9 S
 refine cT S (wp_skip (then_normal (wp_seq (wp_block (wp_seq ?_)))))
 obtain ⟨x, hx⟩ : ∃ x, l[k]? = some x := ⟨_, List.getElem?_eq_getElem (by omega)⟩
 refine wp_quiet M (by kernel_rfl) (by kernel_rfl) ?_
 refine qU S (fun w M => y_move S rfl) ?_; intro a S
 refine qU S (fun w M => y_move S rfl) ?_; intro a S
 refine qU S (fun w M => qX 157 14 S ((M.arg hv))) ?_; intro a S
 try simp only [Int.toNat_natCast, Nat.mul_one, Nat.zero_add] at S
 refine qU S (fun w M => y_fieldAddr (k := 0) S (by kernel_rfl) rfl) ?_; intro a S
 refine qU S (fun w M => y_load S (by kernel_rfl) rfl ((M.arg hv).at_.elem (i := k) (sz := 14) (k := 0) (scells_at hx 0 rfl))) ?_; intro a S
 refine qU S (fun w M => y_int S rfl rfl rfl) ?_; intro a S
 refine qU S (fun w M => y_move S rfl) ?_; intro a S
 refine qf 18 S ?_ ?_
 ·intro h18 S
  refine qt_skip 7 S rfl ?_; intro a S
  refine qU S (fun w M => y_pickF S rfl rfl) ?_; intro a S
  refine wpQuiet_nil ?_; intro w3 M
  refine then_normal (cF S (wp_skip (block_normal (nxF (qG [1] S ?_))))); intro a S
  refine qA S ?_; intro a S
  refine qG [1] S ?_; intro a S
  refine nxC ?_
  refine ⟨l.length - (k + 1), by omega, k + 1, by omega, rfl, S.sub _ rfl, M, fun j hj => ?_⟩
  rcases Nat.lt_or_ge j k with h | h
  ·exact hpre j h
  ·obtain rfl : j = k := by omega
   rintro ⟨y, hy, h1, h2⟩
   rw [hx] at hy; obtain rfl := Option.some.inj hy
   first
    | exact absurd h1 h18
    | (rw [Nm.eqb_iff.2 h2] at h26; cases h26)
 intro h18 S
 refine qU S (fun w M => y_move S rfl) ?_; intro a S
 refine qU S (fun w M => y_move S rfl) ?_; intro a S
 refine qU S (fun w M => qX 157 14 S ((M.arg hv))) ?_; intro a S
 try simp only [Int.toNat_natCast, Nat.mul_one, Nat.zero_add] at S
 refine qU S (fun w M => y_fieldAddr (k := 1) S (by kernel_rfl) rfl) ?_; intro a S
 refine qU S (fun w M => y_loadAgg S (by kernel_rfl) rfl rfl (((M.arg hv).at_.row (i := k) (scells_get hx) rfl).sub (i := 1) (k := 3))) ?_; intro a S
 refine qU S (fun w M => qL3 S M 0) ?_; intro a S
 refine qU S (fun w M => y_eqlG (by kernel_rfl) S rfl rfl (fun w => equalNm 9998 x.name n w)) ?_; intro a S
 refine qU S (fun w M => y_pickT S rfl rfl) ?_; intro a S
 refine wpQuiet_nil ?_; intro w2 M
 replace S := S.keep [0, 3, 5, 9, 26]
 refine then_normal (st_split (t := 26) S rfl ?_ ?_)
 ·intro h26 S
  refine cT S (nxD (qG [1] S ?_)); intro a S
  refine nxC (wp_ret (block_ret (then_ret (then_ret (block_ret (then_ret (qO S ?_)))))))
  refine ⟨?_, M.below⟩
  rw [decide_eq_true (fstI_some.2 ⟨k, x, hx, h18, Nm.eqb_iff.1 h26⟩)]
 intro h26 S
 refine cF S (wp_skip (block_normal (nxF (qG [1] S ?_)))); intro a S
 refine qA S ?_; intro a S
 refine qG [1] S ?_; intro a S
 refine nxC ?_
 refine ⟨l.length - (k + 1), by omega, k + 1, by omega, rfl, S.sub _ rfl, M, fun j hj => ?_⟩
 rcases Nat.lt_or_ge j k with h | h
 ·exact hpre j h
 ·obtain rfl : j = k := by omega
  rintro ⟨y, hy, h1, h2⟩
  rw [hx] at hy; obtain rfl := Option.some.inj hy
  first
   | exact absurd h1 h18
   | (rw [Nm.eqb_iff.2 h2] at h26; cases h26)
abbrev encSe (x : Sn × Nat) : List Value := [.int .i64 (x.2 : Int), .agg x.1.cellsL.toArray]
structure EaC (bl : Nat) (va : Option Addr) (vc : Nat) (l : List Sn) (W : World) : Prop where
 cell : Blk W bl #[.slice va l.length vc] 22
 row : Ss 0 W.heap.size W (.slice va l.length vc) l
theorem each_any (va : Option Addr) (vn vc : Nat) (w : World) : Calls Tryz.prog 68 #[.slice va vn vc] w fun e w' => ∃ b, e = .returned (.func (.func 101) #[] #[.pointer (some ⟨b, 0, none⟩)]) ∧ Mem w w' [.blk b #[.slice va vn vc] 22] := by
 have M := Mem.start w
 refine qI Tryz.func68 4 ?_; intro a S
 refine nxD (st_box S M rfl rfl rfl #[_] rfl ?_); intro a w1 bB S M hB
 refine qG [1] S ?_; intro a S
 refine nxA (qY S (y_makeFunc (fs := []) (cs := [.tmp 1]) S rfl rfl) ?_); intro a S
 refine qG [1] S ?_; intro a S
 refine nxC (wp_ret (qO S ?_))
 exact ⟨bB, rfl, M⟩
set_option maxHeartbeats 1000000 in
theorem each1_gen (bl : Nat) (va : Option Addr) (vc : Nat) (l : List Sn) : GenM Tryz.prog 101 [.pointer (some ⟨bl, 0, none⟩)] encSe l.zipIdx (EaC bl va vc l) := by
 intro ll w0 I X w Hs0 hC hY h0 M
 have K0 := hC _ _ _ h0 M
 have hpl := K0.row.2.1
 unfold maxLen at hpl
 refine calls_enterG Tryz.func101 rfl 18 rfl rfl ?_; intro a S
 refine wpIn_seq ?_
 refine wpI_region (by kernel_rfl) (by rintro _ _ ⟨⟨_, h⟩, -⟩; cases h) ?_
 refine qY S (y_load S (by kernel_rfl) rfl ((hC _ _ _ h0 M).cell.cells 0)) ?_; intro a S
 refine qY S (qH 157 S) ?_; intro a S
 refine qG [1] S ?_; intro a S
 refine nxC (wpIn_block ?_)
 refine wpI_loop_g (fun m a w' => ∃ (i : Nat) (Hs : List Ent), i ≤ l.length ∧ m = l.length - i ∧ I (l.zipIdx.take i) Hs ∧ Sees 18 a [(0, .func (.yield ll) #[] #[]), (5, .slice va l.length vc), (6, .int .i64 (l.length : Int)), (7, .int .i64 (i : Int))] ∧ Mem w0 w' Hs) (l.length) ?_ ?_
 ·skip
  exact ⟨0, Hs0, Nat.zero_le _, rfl, h0, S.sub _ rfl, M⟩
 intro m a wl
 rintro ⟨i, Hs, hi', rfl, hI, S, M⟩
 have KK := hC _ _ _ hI M
 refine wpIn_seq ?_
 refine wpI_region (by kernel_rfl) (by rintro _ _ ⟨⟨_, h⟩, -⟩; cases h) ?_
 refine qG [1] S ?_; intro a S
 refine nxC (wpIn_seq ?_)
 refine qf 8 S ?_ ?_
 ·intro h8 S
  refine stI_condF S rfl ?_
  refine wpIn_exit ?_
  refine then_exit (then_exit (block_hit (end_noneN S rfl ?_)))
  obtain rfl : i = l.length := by omega
  exact ⟨⟨_, rfl⟩, Hs, M, .inl (by rw [List.take_of_length_le (by simp)] at hI; exact hI)⟩
 intro h8 S
 refine stI_condT S rfl ?_
 refine wpIn_skip ?_
 refine then_normal (wpIn_seq ?_)
 refine wpIn_block ?_
 refine wpIn_seq ?_
 obtain ⟨x, hx⟩ : ∃ x, l[i]? = some x := ⟨_, List.getElem?_eq_getElem (by omega)⟩
 have hzi : l.zipIdx[i]? = some (x, i) := by rw [List.getElem?_zipIdx, hx]; simp
 have hsp : l.zipIdx = l.zipIdx.take i ++ (x, i) :: l.zipIdx.drop (i + 1) := by
  obtain ⟨h9, e9⟩ := List.getElem?_eq_some_iff.1 hzi
  conv => lhs; rw [← List.take_append_drop i l.zipIdx, List.drop_eq_getElem_cons h9, e9]
 have htk : l.zipIdx.take i ++ [(x, i)] = l.zipIdx.take (i + 1) := by rw [List.take_add_one, hzi]; rfl
 refine wpI_region (by kernel_rfl) (by rintro _ _ ⟨⟨_, h⟩, -⟩; cases h) ?_
 refine qG [1] S ?_; intro a S
 refine qY S (qX 157 14 S (KK.row)) ?_; intro a S
 try simp only [Int.toNat_natCast, Nat.mul_one, Nat.zero_add] at S
 refine qY S (y_loadAgg S (by kernel_rfl) rfl rfl (KK.row.at_.row (i := i) (scells_get hx) rfl)) ?_; intro a S
 refine qN S M #[.int .i8 0, .int .i64 0, .int .i64 0, .int .i64 0, .int .i64 0, .int .u8 0, .int .u8 0, .int .u8 0, .int .u8 0, .int .u8 0, .int .u8 0, .int .u8 0, .int .u8 0, .int .i64 0] ?_; intro a w1 bKP S M hB
 refine qG [1] S ?_; intro a S
 refine qS (sz := 14) (us := [_, _, _, _, _, _, _, _, _, _, _, _, _, _]) S M 0 ?_; intro w2 M
 refine nxC (wpIn_seq ?_)
 refine wpI_preK 3 (by kernel_rfl) (by rintro _ _ ⟨⟨_, h⟩, -⟩; cases h) ?_; simp only [List.take_succ_cons, List.take_zero, List.drop_succ_cons, List.drop_zero]
 refine qG [1, 1] S ?_; intro a S
 refine qY S (y_loadAgg (cs := [_, _, _, _, _, _, _, _, _, _, _, _, _, _]) S (by kernel_rfl) rfl rfl (M.cellsAt (k := 14) 0 rfl rfl)) ?_; intro a S
 refine wpList_nil ?_; refine then_normal ?_
 refine stI_yield (xs := [.tmp 13, .tmp 14]) S rfl (by kernel_rfl) rfl rfl (hY (l.zipIdx.take i) (x, i) _ [_] Hs _ hsp hI M) ?_
 rintro e w3 ⟨Hs2, M2, hh⟩
 obtain ⟨bb, rfl, hb⟩ : ∃ bb, e = .returned (.bool bb) ∧ ((bb = true ∧ I (l.zipIdx.take i ++ [(x, i)]) Hs2) ∨ (bb = false ∧ X (l.zipIdx.take i ++ [(x, i)]) Hs2)) := by
  rcases hh with ⟨rfl, h⟩ | ⟨rfl, h⟩
  ·exact ⟨true, rfl, .inl ⟨rfl, h⟩⟩
  ·exact ⟨false, rfl, .inr ⟨rfl, h⟩⟩
 refine ⟨_, rfl, ?_⟩; intro a S; have M := M2; clear M2
 simp only [List.cons_append, List.nil_append] at M
 refine list_in (by kernel_rfl) (by rintro _ _ ⟨⟨_, h⟩, -⟩; cases h) ?_
 refine qG [1] S ?_; intro a S
 refine nxC (st_split (t := 16) S rfl ?_ ?_)
 ·intro h16 S
  refine stI_condT S rfl ?_
  refine wpIn_ret ?_
  refine block_ret (then_ret (then_ret (block_ret (end_none S rfl ?_))))
  refine ⟨⟨_, rfl⟩, Hs2, M.drop 0, .inr ⟨l.zipIdx.take i, (x, i), _, hsp, ?_⟩⟩
  rcases hb with ⟨rfl, -⟩ | ⟨-, h⟩
  ·cases h16
  ·exact h
 intro h16 S
 refine stI_condF S rfl ?_
 refine wpIn_skip ?_
 refine block_normal (then_normal (wpI_region (by kernel_rfl) (by rintro _ _ ⟨⟨_, h⟩, -⟩; cases h) ?_))
 refine qA S ?_; intro a S
 refine qG [1] S ?_; intro a S
 refine nxC ?_
 skip
 replace M := M.drp 0
 have hI2 : I (l.zipIdx.take (i + 1)) Hs2 := by
  rcases hb with ⟨-, h⟩ | ⟨rfl, -⟩
  ·rw [← htk]; exact h
  ·cases h16
 exact ⟨l.length - (i + 1), by omega, i + 1, Hs2, by omega, rfl, hI2, S.sub _ rfl, M⟩
end Go.Proofs.YtdcgcgifgnaccaaGreat
