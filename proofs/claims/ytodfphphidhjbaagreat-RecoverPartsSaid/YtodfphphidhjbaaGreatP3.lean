/-
  What RecoverParts rests on, part 3.
-/
import Derived.Test.YtodfphphidhjbaaGreatP2
namespace Go.Proofs.YtodfphphidhjbaaGreat
open Go.RowKit Go.Sort
def fitsP (n k : Int) : Prop := 1 ≤ k ∧ k ≤ 6 ∧ 0 ≤ n ∧ n < 256 ^ k.toNat
theorem pow8 (k : Nat) : (2 : Int) ^ (8 * k) = 256 ^ k := by rw [Int.pow_mul]; rfl
open Classical in
noncomputable def fitsB (n k : Int) : Bool := decide (fitsP n k)
theorem fits_any (n k : Int) (w : World) : Calls Tryz.prog 164 #[.int .i64 n, .int .i64 k] w fun e w' => e = .returned (.bool (fitsB n k)) ∧ Below w.heap.size w w' := by
 have M := Mem.start w
 have key : ∀ b : Bool, (b = true ↔ fitsP n k) → b = fitsB n k := fun b h => by unfold fitsB; rw [Bool.eq_iff_iff, h]; simp
 refine calls_enter Tryz.func164 rfl 22 rfl rfl ?_; intro a S
 refine nxD (qG [1] S ?_); clear S a; intro a S
 refine nxA (qG [1, 1, 1] S ?_); clear S a; intro a S
 refine st_fi (t := 7) S rfl ?_ ?_
 ·clear S; intro h7 S
  refine qG [0, 0, 1, 1, 0, 0, 1, 1, 0, 0, 0, 0, 0, 1, 1] S ?_; clear S a; intro a S
  replace S := S.keep [0, 1, 4]
  refine nxC (wp_ret (end_one S rfl (res_tmp rfl) ?_))
  refine ⟨ret_bool (key _ ?_), M.below⟩
  unfold fitsP
  first
   | (simp; omega)
   | (have h8 : ((8 : Int) * k).toNat = 8 * k.toNat := by omega
      rw [h8, pow8]
      have hp : (0 : Int) < 256 ^ k.toNat := Int.pow_pos (by omega)
      simp only [beq_iff_eq]
      constructor
      ·intro h
       refine ⟨by omega, by omega, by omega, ?_⟩
       rcases Int.lt_or_le n (256 ^ k.toNat) with hlt | hle
       ·exact hlt
       ·have := Int.le_ediv_of_mul_le (a := 1) (b := n) hp (by omega)
        omega
      ·rintro ⟨_, _, h3, h4⟩
       exact Int.ediv_eq_zero_of_lt h3 h4)
 clear S; intro h7 S
 refine qG [1, 1, 1, 1] S ?_; clear S a; intro a S
 refine st_fi (t := 11) S rfl ?_ ?_
 ·clear S; intro h11 S
  refine qG [0, 0, 1, 1, 0, 0, 0, 0, 0, 1, 1] S ?_; clear S a; intro a S
  replace S := S.keep [0, 1, 4]
  refine nxC (wp_ret (end_one S rfl (res_tmp rfl) ?_))
  refine ⟨ret_bool (key _ ?_), M.below⟩
  unfold fitsP
  first
   | (simp; omega)
   | (have h8 : ((8 : Int) * k).toNat = 8 * k.toNat := by omega
      rw [h8, pow8]
      have hp : (0 : Int) < 256 ^ k.toNat := Int.pow_pos (by omega)
      simp only [beq_iff_eq]
      constructor
      ·intro h
       refine ⟨by omega, by omega, by omega, ?_⟩
       rcases Int.lt_or_le n (256 ^ k.toNat) with hlt | hle
       ·exact hlt
       ·have := Int.le_ediv_of_mul_le (a := 1) (b := n) hp (by omega)
        omega
      ·rintro ⟨_, _, h3, h4⟩
       exact Int.ediv_eq_zero_of_lt h3 h4)
 clear S; intro h11 S
 refine qG [1, 1, 1, 1] S ?_; clear S a; intro a S
 refine st_fi (t := 15) S rfl ?_ ?_
 ·clear S; intro h15 S
  refine qG [0, 0, 0, 0, 0, 1, 1] S ?_; clear S a; intro a S
  replace S := S.keep [0, 1, 4]
  refine nxC (wp_ret (end_one S rfl (res_tmp rfl) ?_))
  refine ⟨ret_bool (key _ ?_), M.below⟩
  unfold fitsP
  first
   | (simp; omega)
   | (have h8 : ((8 : Int) * k).toNat = 8 * k.toNat := by omega
      rw [h8, pow8]
      have hp : (0 : Int) < 256 ^ k.toNat := Int.pow_pos (by omega)
      simp only [beq_iff_eq]
      constructor
      ·intro h
       refine ⟨by omega, by omega, by omega, ?_⟩
       rcases Int.lt_or_le n (256 ^ k.toNat) with hlt | hle
       ·exact hlt
       ·have := Int.le_ediv_of_mul_le (a := 1) (b := n) hp (by omega)
        omega
      ·rintro ⟨_, _, h3, h4⟩
       exact Int.ediv_eq_zero_of_lt h3 h4)
 clear S; intro h15 S
 refine qG [1, 1] S ?_; clear S a; intro a S
 (first | refine qY S (y_mulN S rfl rfl (by omega)) ?_ | refine qY S (y_int S rfl rfl rfl) ?_); clear S a; intro a S
 (first | refine qY S (y_shrN S rfl rfl (by omega)) ?_ | refine qY S (y_shr S rfl rfl (by omega)) ?_); clear S a; intro a S
 refine qG [1, 1, 1] S ?_; clear S a; intro a S
 replace S := S.keep [0, 1, 4]
 refine nxC (wp_ret (end_one S rfl (res_tmp rfl) ?_))
 refine ⟨ret_bool (key _ ?_), M.below⟩
 unfold fitsP
 first
  | (simp; omega)
  | (have h8 : ((8 : Int) * k).toNat = 8 * k.toNat := by omega
     rw [h8, pow8]
     have hp : (0 : Int) < 256 ^ k.toNat := Int.pow_pos (by omega)
     simp only [beq_iff_eq]
     constructor
     ·intro h
      refine ⟨by omega, by omega, by omega, ?_⟩
      rcases Int.lt_or_le n (256 ^ k.toNat) with hlt | hle
      ·exact hlt
      ·have := Int.le_ediv_of_mul_le (a := 1) (b := n) hp (by omega)
       omega
     ·rintro ⟨_, _, h3, h4⟩
      exact Int.ediv_eq_zero_of_lt h3 h4)
theorem behind_any (v u : Value) (bs ms : List UInt8) (w : World) (hv : Bs 0 w.heap.size w v bs) (hu : Bs 0 w.heap.size w u ms) (hb : bs.length ≤ 70000000000000) (hm : ms.length ≤ 70000000000000) :
 Calls Tryz.prog 165 #[v, u] w fun e w' => ∃ v', e = .returned v' ∧ Fresh w w' 5 1 v' (bs ++ ms).length (bcells (bs ++ ms)) := by
 have M := Mem.start w
 refine calls_enter Tryz.func165 rfl 18 rfl rfl ?_; intro a S
 refine nxD (qG [1] S ?_); clear S a; intro a S
 refine nxA (qG [1] S ?_); clear S a; intro a S
 refine qY S (y_lenR (E := 5) S rfl (M.arg hv) (by kernel_rfl)) ?_; clear S a; intro a S
 refine qG [1] S ?_; clear S a; intro a S
 refine qY S (y_lenR (E := 5) S rfl (M.arg hu) (by kernel_rfl)) ?_; clear S a; intro a S
 (first | refine qY S (y_addN S rfl rfl (by omega)) ?_ | refine qY S (y_int S rfl rfl rfl) ?_); clear S a; intro a S
 refine st_make (e := 5) (sz := 1) (by_ := 1) (zc := [.int .u8 0]) S M rfl rfl (by kernel_rfl) rfl rfl (by omega) (by omega) (by omega) (by omega) ?_; clear S M a; intro a w1 b1 S M hB
 try simp only [Int.toNat_natCast, Int.reduceToNat, Nat.reduceMul] at S M
 refine qG [1] S ?_; clear S a; intro a S
 refine nxA ?_
 rw [show ((bs.length : Int) + (ms.length : Int)).toNat = bs.length + ms.length by omega] at S M
 replace M := M.toRow (sz := 1) (m := 0) (cap := bs.length + ms.length) (xs := []) 0 rfl rfl (Nat.zero_le _) (by unfold maxLen; omega) (by simp [madeL_length]) (by simp)
 refine qY S (y_move S rfl) ?_; clear S a; intro a S
 refine qG [1] S ?_; clear S a; intro a S
 refine st_append (e := 5) (sz := 1) (by_ := 1) (zc := [.int .u8 0]) S M 0 rfl rfl (by kernel_rfl) rfl (by decide) rfl rfl rfl (M.arg hv) (allOne_bcells _) (by omega) (by unfold maxLen; omega) ?_; clear S M a; intro a w2 vA loA hiA S M
 refine qG [1] S ?_; clear S a; intro a S
 refine nxA (qG [1, 1] S ?_); clear S a; intro a S
 refine st_append (e := 5) (sz := 1) (by_ := 1) (zc := [.int .u8 0]) S M 0 rfl rfl (by kernel_rfl) rfl (by decide) rfl rfl rfl (M.arg hu) (allOne_bcells _) (by omega) (by unfold maxLen; omega) ?_; clear S M a; intro a w3 vA loA hiA S M
 refine qG [1] S ?_; clear S a; intro a S
 replace S := S.keep [0, 1, 5, 4]
 refine nxC (wp_ret (end_one S rfl (res_tmp rfl) ?_))
 exact ⟨_, rfl, by have := M.fresh 0 rfl; rwa [Nat.zero_add, List.nil_append, ← bcells_append, ← List.length_append] at this⟩
def digs (n : Int) (k : Nat) : List Value := (List.range 6).map fun i => .int .u8 ((if i < k then byteOf (n / 256 ^ i) else 0).toNat : Int)
theorem digs_set (n : Int) (k : Nat) : (digs n k).set k (.int .u8 ((byteOf (n / 256 ^ k)).toNat : Int)) = digs n (k + 1) := by
 apply List.ext_getElem?
 intro i
 rw [List.getElem?_set]
 by_cases h : k = i
 ·subst h
  by_cases hk : k < 6
  ·simp [digs, hk]
  ·simp [digs, hk]
 ·rw [if_neg h]
  have e : (i < k) = (i < k + 1) := by simp only [eq_iff_iff]; omega
  by_cases hi : i < 6 <;> simp [digs, hi, e]
theorem digs_take {n : Int} {k : Nat} (hk : k ≤ 6) : (digs n k).take k = bcells (leB n k) := by
 apply List.ext_getElem?
 intro i
 rcases Nat.lt_or_ge i k with h | h
 ·rw [List.getElem?_take_of_lt h]
  simp [digs, bcells, leB, h, show i < 6 by omega]
 ·rw [List.getElem?_eq_none (by simp; omega), List.getElem?_eq_none (by simp [bcells, leB]; omega)]
open Classical in
noncomputable def putE (n k : Int) : Int := if fitsP n k then 0 else 2
def PutPost (bs : List UInt8) (n k : Int) (w : World) (e : Ending) (w' : World) : Prop :=
 ∃ v', e = .returned (.tuple #[v', .int .i64 (putE n k)]) ∧ Below w.heap.size w w' ∧ (fitsP n k → Fresh w w' 5 1 v' (bs ++ leB n k.toNat).length (bcells (bs ++ leB n k.toNat))) ∧ (¬ fitsP n k → v' = .slice none 0 0)
theorem put_any (v : Value) (bs : List UInt8) (n k : Int) (w : World) (hv : Bs 0 w.heap.size w v bs) (hb : bs.length ≤ 70000000000000) : Calls Tryz.prog 156 #[v, .int .i64 n, .int .i64 k] w (PutPost bs n k w) := by
 have M := Mem.start w
 refine calls_enter Tryz.func156 rfl 30 rfl rfl ?_; intro a S
 refine nxD (qG [1, 1] S ?_); clear S a; intro a S
 refine nxC (wp_seq (nxD (qG [1, 1] S ?_))); clear S a; intro a S
 refine qQ (xs := [.tmp 10, .tmp 11]) S (qE Tryz.func164) rfl (fits_any _ _ _) M ?_; clear S M a; intro a w1 S hK M
 refine qG [1] S ?_; clear S a; intro a S
 refine nxC (st_split (t := 13) S rfl ?_ ?_)
 ·clear S; intro h13 S
  refine st_condT S rfl (nxD (qG [1, 1] S ?_)); clear S a; intro a S
  refine nxC (wp_ret (then_ret (end_two S rfl (res_tmp rfl) (res_tmp rfl) ?_)))
  have hf : ¬ fitsP n k := by unfold fitsB at h13; simpa using h13
  exact ⟨_, by unfold putE; rw [if_neg hf], M.below, fun h => absurd h hf, fun _ => rfl⟩
 clear S; intro h13 S
 refine st_condF S rfl (wp_skip (nxE ?_))
 have hf : fitsP n k := by unfold fitsB at h13; simpa using h13
 obtain ⟨hk1, hk6, hn0, hnk⟩ := hf
 obtain ⟨K, rfl⟩ := Int.eq_ofNat_of_zero_le (show 0 ≤ k by omega)
 refine st_alloc S M rfl rfl #[.int .u8 0, .int .u8 0, .int .u8 0, .int .u8 0, .int .u8 0, .int .u8 0] (by kernel_rfl) ?_; clear S M a; intro a w2 b1 S M hB
 refine nxC (wp_seq (nxD (qG [1, 1] S ?_))); clear S a; intro a S
 refine nxC (wp_block (wp_loop_g (fun m a w' => ∃ (j : Nat), j ≤ K ∧ m = K - j ∧ Sees 30 a [(0, v), (1, .int .i64 n), (2, .int .i64 (K : Int)), (8, .pointer (some ⟨b1, 0, none⟩)), (14, .int .i64 (K : Int)), (15, .int .i64 (j : Int))] ∧ Mem w w' [.blk b1 (digs n j).toArray 217]) (K) ?_ ?_))
 ·skip
  exact ⟨0, Nat.zero_le _, rfl, S.sub _ rfl, M⟩
 clear S M a; intro m a wl
 rintro ⟨j, hj, rfl, S, M⟩
 refine nxD (qG [1] S ?_); clear S a; intro a S
 refine nxC (wp_seq (st_fi (t := 16) S rfl ?_ ?_))
 ·clear S; intro h16 S
  refine st_condF S rfl (wp_exit (then_exit (then_exit (block_hit (nxE (qG [1, 1] S ?_)))))); clear S a; intro a S
  refine qY S (y_sliceA02 (m := 6) (sz := 1) S (by kernel_rfl) rfl rfl (by first | omega | (simp; done) | (simp; omega))) ?_; clear S a; intro a S
  obtain rfl : j = K := by omega
  have hd : Bs 0 wl.heap.size wl (.slice (some ⟨b1, 0, none⟩) j 6) (leB n j) := by
   unfold Bs; rw [leB_length]
   exact (Rd.of_blk (M.blk 0 rfl) (by simp [bcells, leB]) (by omega) (by unfold maxLen; omega) (by rw [Nat.mul_one]; exact digs_take (by omega))).wide (Nat.zero_le _) (M.fits _ (List.mem_of_getElem? (show _[0]? = _ from rfl))).2
  refine qC (xs := [.tmp 26, .tmp 28]) S (qE Tryz.func165) rfl (behind_any v _ bs (leB n j) _ (M.argW hv) hd hb (by rw [leB_length]; omega)) ?_
  rintro _ w4 ⟨v', rfl, hF⟩; refine ⟨_, rfl, ?_⟩; clear S a; intro a S
  obtain ⟨lo, hi, -, M⟩ := M.pushFresh hF
  refine qG [1, 1] S ?_; clear S a; intro a S
  refine nxC (wp_ret (end_two S rfl (res_tmp rfl) (res_tmp rfl) ?_))
  have hf : fitsP n (j : Int) := ⟨hk1, hk6, hn0, hnk⟩
  exact ⟨_, by unfold putE; rw [if_pos hf], M.below, fun _ => by
   rw [Int.toNat_natCast]; exact M.fresh 0 rfl, fun h => absurd hf h⟩
 clear S; intro h16 S
 refine st_condT S rfl (wp_skip (then_normal (wp_seq (wp_block (nxD (qG [1, 1] S ?_)))))); clear S a; intro a S
 refine nxB (qG [1, 1, 1] S ?_); clear S a; intro a S
 (first | refine qY S (y_mulN S rfl rfl (by omega)) ?_ | refine qY S (y_int S rfl rfl rfl) ?_); clear S a; intro a S
 (first | refine qY S (y_shrN S rfl rfl (by omega)) ?_ | refine qY S (y_shr S rfl rfl (by omega)) ?_); clear S a; intro a S
 refine qY S (y_to8 S rfl (by kernel_rfl) (by kernel_rfl)) ?_; clear S a; intro a S
 refine qY S (y_indexA (m := 6) (sz := 1) S (by kernel_rfl) rfl rfl (by first | omega | (simp; done) | (simp; omega))) ?_; clear S a; intro a S
 try simp only [Int.toNat_natCast, Nat.mul_one, Nat.zero_add] at S
 refine st_store (sz := 1) (us := [_]) S M 0 rfl (by kernel_rfl) rfl rfl rfl rfl rfl rfl (by simp [digs]; omega) ?_; clear M; intro w3 M
 simp only [List.set_cons_zero, List.set_cons_succ] at M
 refine wpList_nil (block_normal (nxF ?_))
 (first | refine qY S (y_addN S rfl rfl (by omega)) ?_ | refine qY S (y_int S rfl rfl rfl) ?_); clear S a; intro a S
 refine qG [1] S ?_; clear S a; intro a S
 refine nxC ?_
 have e8 : n / 2 ^ ((8 : Int) * (j : Int)).toNat = n / 256 ^ j := by rw [show ((8 : Int) * (j : Int)).toNat = 8 * j by omega, pow8]
 refine ⟨K - (j + 1), by omega, j + 1, by omega, rfl, S.sub _ rfl, ?_⟩
 rw [← digs_set, ← e8]; exact M
open Classical in
noncomputable def getE (bs : List UInt8) (at_ k : Int) : Int := if k < 1 ∨ 6 < k then 2 else if at_ < 0 ∨ (bs.length : Int) - k < at_ then 40 else 0
def getN (bs : List UInt8) (at_ k : Int) : Int := if (1 ≤ k ∧ k ≤ 6) ∧ 0 ≤ at_ ∧ at_ ≤ (bs.length : Int) - k then (leN ((bs.drop at_.toNat).take k.toNat) : Int) else 0
theorem get_any (v : Value) (bs : List UInt8) (at_ k : Int) (w : World) (hv : Bs 0 w.heap.size w v bs) (hk : -9223372036854775808 ≤ k) : Calls Tryz.prog 97 #[v, .int .i64 at_, .int .i64 k] w fun e w' => e = .returned (.tuple #[.int .i64 (getN bs at_ k), .int .i64 (getE bs at_ k)]) ∧ Below w.heap.size w w' := by
 have M := Mem.start w
 have hl := hv.2.1
 unfold maxLen at hl
 refine calls_enter Tryz.func97 rfl 44 rfl rfl ?_; intro a S
 refine nxD (qG [1, 1] S ?_); clear S a; intro a S
 refine nxC (wp_seq (nxD (qG [1, 1, 1] S ?_))); clear S a; intro a S
 refine st_if (t := 12) S rfl ?_ ?_
 ·clear S; intro h12 S
  refine qG [0, 0, 1] S ?_; clear S a; intro a S
  refine nxC (st_condT S rfl (nxD (qG [1, 1] S ?_))); clear S a; intro a S
  refine nxC (wp_ret (then_ret (end_two S rfl (res_tmp rfl) (res_tmp rfl) ?_)))
  refine ⟨?_, M.below⟩; unfold getN getE; rw [if_neg (by omega), if_pos (by omega)]
 clear S; intro h12 S
 refine qG [1, 1, 1] S ?_; clear S a; intro a S
 refine nxC (st_if (t := 15) S rfl ?_ ?_)
 ·clear S; intro h15 S
  refine st_condT S rfl (nxD (qG [1, 1] S ?_)); clear S a; intro a S
  refine nxC (wp_ret (then_ret (end_two S rfl (res_tmp rfl) (res_tmp rfl) ?_)))
  refine ⟨?_, M.below⟩; unfold getN getE; rw [if_neg (by omega), if_pos (by omega)]
 clear S; intro h15 S
 refine st_condF S rfl (wp_skip (then_normal (wp_seq (nxD (qG [1, 1, 1] S ?_))))); clear S a; intro a S
 refine st_if (t := 18) S rfl ?_ ?_
 ·clear S; intro h18 S
  refine qG [0, 0, 0, 0, 0, 0, 1] S ?_; clear S a; intro a S
  replace S := S.keep [0, 1, 2, 6, 7, 15, 25]
  refine nxC (st_condT S rfl (nxD (qG [1, 1] S ?_))); clear S a; intro a S
  refine nxC (wp_ret (then_ret (end_two S rfl (res_tmp rfl) (res_tmp rfl) ?_)))
  refine ⟨?_, M.below⟩; unfold getN getE; rw [if_neg (by omega), if_neg (by omega), if_pos (by omega)]
 clear S; intro h18 S
 refine qG [1, 1] S ?_; clear S a; intro a S
 refine qY S (y_lenR (E := 5) S rfl (M.arg hv) (by kernel_rfl)) ?_; clear S a; intro a S
 refine qG [1] S ?_; clear S a; intro a S
 (first | refine qY S (y_subN S rfl rfl (by omega)) ?_ | refine qY S (y_int S rfl rfl rfl) ?_); clear S a; intro a S
 refine qG [1, 1] S ?_; clear S a; intro a S
 replace S := S.keep [0, 1, 2, 6, 7, 15, 25]
 refine nxC (st_if (t := 25) S rfl ?_ ?_)
 ·clear S; intro h25 S
  refine st_condT S rfl (nxD (qG [1, 1] S ?_)); clear S a; intro a S
  refine nxC (wp_ret (then_ret (end_two S rfl (res_tmp rfl) (res_tmp rfl) ?_)))
  refine ⟨?_, M.below⟩; unfold getN getE; rw [if_neg (by omega), if_neg (by omega), if_pos (by omega)]
 clear S; intro h25 S
 refine st_condF S rfl (wp_skip (nxE ?_))
 obtain ⟨K, rfl⟩ := Int.eq_ofNat_of_zero_le (show 0 ≤ k by omega)
 obtain ⟨A, rfl⟩ := Int.eq_ofNat_of_zero_le h18
 refine qY S (y_assign S rfl) ?_; clear S a; intro a S
 refine nxC (wp_seq (nxD (qG [1, 1] S ?_))); clear S a; intro a S
 refine nxC (wp_block (wp_loop_g (fun m a w' => ∃ (j : Nat), j ≤ K ∧ m = K - j ∧ Sees 44 a [(0, v), (1, .int .i64 (A : Int)), (2, .int .i64 (K : Int)), (8, .int .i64 ((leN ((bs.drop A).take j) : Nat) : Int)), (26, .int .i64 (K : Int)), (27, .int .i64 (j : Int))] ∧ Mem w w' []) (K) ?_ ?_))
 ·skip
  exact ⟨0, Nat.zero_le _, rfl, S.sub _ rfl, M⟩
 clear S M a; intro m a wl
 rintro ⟨j, hj, rfl, S, M⟩
 refine nxD (qG [1] S ?_); clear S a; intro a S
 refine nxC (wp_seq (st_fi (t := 28) S rfl ?_ ?_))
 ·clear S; intro h28 S
  refine st_condF S rfl (wp_exit (then_exit (then_exit (block_hit (nxE (qG [1, 1, 1] S ?_)))))); clear S a; intro a S
  refine nxC (wp_ret (end_two S rfl (res_tmp rfl) (res_tmp rfl) ?_))
  obtain rfl : j = K := by omega
  refine ⟨?_, M.below⟩
  unfold getN getE
  rw [if_pos (by omega), if_neg (by omega), if_neg (by omega), Int.toNat_natCast, Int.toNat_natCast]
 clear S; intro h28 S
 refine st_condT S rfl (wp_skip (then_normal (wp_seq (wp_block (nxD (qG [1, 1] S ?_)))))); clear S a; intro a S
 refine nxB ?_
 have hj5 : j ≤ 5 := by omega
 obtain ⟨x, hx⟩ : ∃ x, (bs.drop A)[j]? = some x := ⟨_, List.getElem?_eq_getElem (by simp; omega)⟩
 have hx' : bs[((A : Int) + (j : Int)).toNat]? = some x := by rw [show ((A : Int) + (j : Int)).toNat = A + j by omega, ← List.getElem?_drop]; exact hx
 obtain ⟨hs1, hs2⟩ := sh_bd x j hj5
 have hx256 : x.toNat < 256 := UInt8.toNat_lt x
 have hl1 := leN_lt ((bs.drop A).take j)
 have hl2 : leN ((bs.drop A).take j) < 2 ^ 40 := Nat.lt_of_lt_of_le hl1 (by
  rw [show (256 : Nat) = 2 ^ 8 from rfl, ← Nat.pow_mul]; exact Nat.pow_le_pow_right (by omega) (by simp; omega))
 refine qY S (y_move S rfl) ?_; clear S a; intro a S
 refine qG [1, 1, 1] S ?_; clear S a; intro a S
 (first | refine qY S (y_addN S rfl rfl (by omega)) ?_ | refine qY S (y_int S rfl rfl rfl) ?_); clear S a; intro a S
 refine qY S (y_indexR (e := 5) (sz := 1) S (by kernel_rfl) rfl (M.arg hv) rfl (by first | omega | (simp; done) | (simp; omega))) ?_; clear S a; intro a S
 try simp only [Int.toNat_natCast, Nat.mul_one, Nat.zero_add] at S
 refine qY S (y_load S (by kernel_rfl) rfl ((M.arg hv).byte hx')) ?_; clear S a; intro a S
 (first | refine qY S (y_to64 S rfl (by kernel_rfl) (by kernel_rfl) (by omega)) ?_ | refine qY S (y_conv (k' := .i64) S rfl (by kernel_rfl) (by kernel_rfl)) ?_); clear S a; intro a S
 refine qG [1] S ?_; clear S a; intro a S
 (first | refine qY S (y_mulN S rfl rfl (by omega)) ?_ | refine qY S (y_int S rfl rfl rfl) ?_); clear S a; intro a S
 (first | refine qY S (y_shlN S rfl rfl (by omega) (by rw [hs1]; omega)) ?_ | refine qY S (y_shl S rfl rfl (by omega)) ?_); clear S a; intro a S
 rw [hs1] at S
 (first | refine qY S (y_orN S rfl rfl (by omega) (by omega)) ?_ | refine qY S (y_int S rfl rfl rfl) ?_); clear S a; intro a S
 refine qG [1] S ?_; clear S a; intro a S
 replace S := S.keep [0, 1, 2, 26, 27, 28, 9, 8]
 refine wpList_nil (block_normal (nxF ?_))
 (first | refine qY S (y_addN S rfl rfl (by omega)) ?_ | refine qY S (y_int S rfl rfl rfl) ?_); clear S a; intro a S
 refine qG [1] S ?_; clear S a; intro a S
 refine nxC ?_
 refine ⟨K - (j + 1), by omega, j + 1, by omega, rfl, ?_, M⟩
 rw [← leN_snoc hx]; exact S.sub _ rfl
end Go.Proofs.YtodfphphidhjbaaGreat

namespace Go.Proofs.YtodfphphidhjbaaGreat
open Go.RowKit Go.Sort
theorem sequence_any (k : Int) (w : World) : Calls Tryz.prog 167 #[.int .i64 k] w fun e w' => e = .returned (.bool (decide (1 ≤ k ∧ k ≤ 1099511627776))) ∧ Below w.heap.size w w' := by
 have M := Mem.start w
 refine calls_enter Tryz.func167 rfl _ rfl rfl ?_
 intro a S
 refine nxD (qG [1] S ?_); clear S a; intro a S
 refine nxA (qG [1, 1, 1] S ?_); clear S a; intro a S
 refine st_if (t := 5) S rfl ?_ ?_
 ·clear S; intro h5 S
  refine qG [1, 1, 1, 1] S ?_; clear S a; intro a S
  refine nxC (wp_ret (end_one S rfl (res_tmp rfl) ?_))
  refine ⟨ret_bool ?_, M.below⟩; rw [Bool.eq_iff_iff]; (first | (simp; done) | (simp; omega))
 clear S; intro h5 S
 refine qG [0, 0, 1, 1] S ?_; clear S a; intro a S
 refine nxC (wp_ret (end_one S rfl (res_tmp rfl) ?_))
 refine ⟨ret_bool ?_, M.below⟩; rw [Bool.eq_iff_iff]; (first | (simp; done) | (simp; omega))
theorem incarnation_any (k : Int) (w : World) : Calls Tryz.prog 168 #[.int .i64 k] w fun e w' => e = .returned (.bool (decide (0 ≤ k ∧ k ≤ 1048576))) ∧ Below w.heap.size w w' := by
 have M := Mem.start w
 refine calls_enter Tryz.func168 rfl _ rfl rfl ?_
 intro a S
 refine nxD (qG [1] S ?_); clear S a; intro a S
 refine nxA (qG [1, 1, 1] S ?_); clear S a; intro a S
 refine st_if (t := 5) S rfl ?_ ?_
 ·clear S; intro h5 S
  refine qG [1, 1, 1, 1] S ?_; clear S a; intro a S
  refine nxC (wp_ret (end_one S rfl (res_tmp rfl) ?_))
  refine ⟨ret_bool ?_, M.below⟩; rw [Bool.eq_iff_iff]; (first | (simp; done) | (simp; omega))
 clear S; intro h5 S
 refine qG [0, 0, 1, 1] S ?_; clear S a; intro a S
 refine nxC (wp_ret (end_one S rfl (res_tmp rfl) ?_))
 refine ⟨ret_bool ?_, M.below⟩; rw [Bool.eq_iff_iff]; (first | (simp; done) | (simp; omega))
structure Fr where
 seq : Int
 inc : Int
 part : Int
 of : Int
 mark : BitVec 32
abbrev Fr.cells (f : Fr) (lv : Value) : List Value := [.int .i64 f.seq, .int .i64 f.inc, .int .i64 f.part, .int .i64 f.of, .int .u32 (f.mark.toNat : Int), lv]
def Fr.may (f : Fr) (l : Nat) : Bool := decide ((1 ≤ f.seq ∧ f.seq ≤ 1099511627776) ∧ (0 ≤ f.inc ∧ f.inc ≤ 1048576) ∧ (1 ≤ f.of ∧ f.of ≤ 2) ∧ (0 ≤ f.part ∧ f.part < f.of) ∧ (1 ≤ l ∧ l ≤ 45) ∧ (f.part < f.of - 1 → l = 45))
theorem mayF_any (f : Fr) (ad : Option Addr) (l c : Nat) (w : World) : Calls Tryz.prog 160 #[.agg (f.cells (.slice ad l c)).toArray] w fun e w' => e = .returned (.bool (f.may l)) ∧ Below w.heap.size w w' := by
 have M := Mem.start w
 refine calls_enter Tryz.func160 rfl _ rfl rfl ?_
 intro a S
 refine nxD (st_box S M rfl rfl rfl #[_, _, _, _, _, _] rfl ?_); clear S M a; intro a w1 b1 S M hB
 refine qG [1] S ?_; clear S a; intro a S
 refine nxC (wp_scope_straight ?_)
 refine nxD (qG [1] S ?_); clear S a; intro a S
 refine nxC (wp_seq (wp_label ?_))
 refine then_normal (wp_seq (wp_block (wp_seq (nxD (qR [1, 1] S M ?_))))); clear S a; intro a S
 refine qQ (xs := [.tmp 6]) S (qE Tryz.func167) rfl (sequence_any _ _) M ?_; clear S M a; intro a w2 S hK M
 refine qG [1, 1] S ?_; clear S a; intro a S
 refine nxC (st_if (t := 4) S rfl ?_ ?_)
 ·clear S; intro h4 S
  refine st_condT S rfl (wp_skip (then_normal (st_condT S rfl (wp_exit (block_hit (nxE (qG [1, 1] S ?_))))))); clear S a; intro a S
  refine nxC (wp_ret (sc_ret ?_))
  refine end_one S rfl (res_tmp rfl) ?_
  refine ⟨ret_bool ?_, M.below⟩; rw [Bool.eq_iff_iff]; (first | (simp [Fr.may]; done) | (simp [Fr.may]; omega))
 clear S; intro h4 S
 refine st_condF S rfl (wp_region_lit (qR [2, 1] S M ?_)); clear S a; intro a S
 refine qQ (xs := [.tmp 10]) S (qE Tryz.func168) rfl (incarnation_any _ _) M ?_; clear S M a; intro a w3 S hK M
 refine qG [1, 1] S ?_; clear S a; intro a S
 refine nxC (st_if (t := 4) S rfl ?_ ?_)
 ·clear S; intro h4 S
  refine st_condT S rfl (wp_exit (block_hit (nxE (qG [1, 1] S ?_)))); clear S a; intro a S
  refine nxC (wp_ret (sc_ret ?_))
  refine end_one S rfl (res_tmp rfl) ?_
  refine ⟨ret_bool ?_, M.below⟩; rw [Bool.eq_iff_iff]; (first | (simp [Fr.may]; done) | (simp [Fr.may]; omega))
 clear S; intro h4 S
 refine st_condF S rfl (wp_seq (nxD (qR [4, 1, 1, 1] S M ?_))); clear S a; intro a S
 refine nxC (st_if (t := 13) S rfl ?_ ?_)
 ·clear S; intro h13 S
  refine st_condT S rfl (wp_skip (then_normal (st_condT S rfl (wp_exit (block_hit (nxE (qG [1, 1] S ?_))))))); clear S a; intro a S
  replace S := S.keep [0, 1, 3, 4, 13, 2]
  refine nxC (wp_ret (sc_ret ?_))
  refine end_one S rfl (res_tmp rfl) ?_
  refine ⟨ret_bool ?_, M.below⟩; rw [Bool.eq_iff_iff]; (first | (simp [Fr.may]; done) | (simp [Fr.may]; omega))
 clear S; intro h13 S
 refine st_condF S rfl (wp_region_lit (qR [4, 1, 1, 1] S M ?_)); clear S a; intro a S
 replace S := S.keep [0, 1, 2, 3, 4, 13]
 refine nxC (st_if (t := 13) S rfl ?_ ?_)
 ·clear S; intro h13 S
  refine st_condT S rfl (wp_exit (block_hit (nxE (qG [1, 1] S ?_)))); clear S a; intro a S
  refine nxC (wp_ret (sc_ret ?_))
  refine end_one S rfl (res_tmp rfl) ?_
  refine ⟨ret_bool ?_, M.below⟩; rw [Bool.eq_iff_iff]; (first | (simp [Fr.may]; done) | (simp [Fr.may]; omega))
 clear S; intro h13 S
 refine st_condF S rfl (wp_seq (nxD (qR [3, 1, 1, 1] S M ?_))); clear S a; intro a S
 refine nxC (st_if (t := 20) S rfl ?_ ?_)
 ·clear S; intro h20 S
  refine st_condT S rfl (wp_skip (then_normal (st_condT S rfl (wp_exit (block_hit (nxE (qG [1, 1] S ?_))))))); clear S a; intro a S
  refine nxC (wp_ret (sc_ret ?_))
  refine end_one S rfl (res_tmp rfl) ?_
  refine ⟨ret_bool ?_, M.below⟩; rw [Bool.eq_iff_iff]; (first | (simp [Fr.may]; done) | (simp [Fr.may]; omega))
 clear S; intro h20 S
 refine st_condF S rfl (wp_region_lit (qR [3, 1, 4, 1, 1, 1] S M ?_)); clear S a; intro a S
 refine nxC (st_if (t := 20) S rfl ?_ ?_)
 ·clear S; intro h20 S
  refine st_condT S rfl (wp_exit (block_hit (nxE (qG [1, 1] S ?_)))); clear S a; intro a S
  refine nxC (wp_ret (sc_ret ?_))
  refine end_one S rfl (res_tmp rfl) ?_
  refine ⟨ret_bool ?_, M.below⟩; rw [Bool.eq_iff_iff]; (first | (simp [Fr.may]; done) | (simp [Fr.may]; omega))
 clear S; intro h20 S
 refine st_condF S rfl (wp_seq (nxD (qR [6, 1] S M ?_))); clear S a; intro a S
 refine qY S (y_lenS (E := 5) S rfl (by kernel_rfl)) ?_; clear S a; intro a S
 refine qG [1, 1] S ?_; clear S a; intro a S
 refine nxC (st_if (t := 29) S rfl ?_ ?_)
 ·clear S; intro h29 S
  refine st_condT S rfl (wp_skip (then_normal (st_condT S rfl (wp_exit (block_hit (nxE (qG [1, 1] S ?_))))))); clear S a; intro a S
  replace S := S.keep [0, 1, 3, 4, 13, 20, 29, 2]
  refine nxC (wp_ret (sc_ret ?_))
  refine end_one S rfl (res_tmp rfl) ?_
  refine ⟨ret_bool ?_, M.below⟩; rw [Bool.eq_iff_iff]; (first | (simp [Fr.may]; done) | (simp [Fr.may]; omega))
 clear S; intro h29 S
 refine st_condF S rfl (wp_region_lit (qR [6, 1] S M ?_)); clear S a; intro a S
 refine qY S (y_lenS (E := 5) S rfl (by kernel_rfl)) ?_; clear S a; intro a S
 refine qG [1, 1] S ?_; clear S a; intro a S
 replace S := S.keep [0, 1, 2, 3, 4, 13, 20, 29]
 refine nxC (st_if (t := 29) S rfl ?_ ?_)
 ·clear S; intro h29 S
  refine st_condT S rfl (wp_exit (block_hit (nxE (qG [1, 1] S ?_)))); clear S a; intro a S
  refine nxC (wp_ret (sc_ret ?_))
  refine end_one S rfl (res_tmp rfl) ?_
  refine ⟨ret_bool ?_, M.below⟩; rw [Bool.eq_iff_iff]; (first | (simp [Fr.may]; done) | (simp [Fr.may]; omega))
 clear S; intro h29 S
 refine st_condF S rfl (nxD (qR [3, 1, 4, 1] S M ?_)); clear S a; intro a S
 (first | refine qY S (y_subN S rfl rfl (by omega)) ?_ | refine qY S (y_int S rfl rfl rfl) ?_); clear S a; intro a S
 refine qG [1, 1] S ?_; clear S a; intro a S
 refine st_fi (t := 45) S rfl ?_ ?_
 ·clear S; intro h45 S
  refine qG [0, 0, 0, 0, 1, 1] S ?_; clear S a; intro a S
  refine nxC (st_condF S rfl (wp_region_lit (qG [1] S ?_))); clear S a; intro a S
  refine wpList_nil (block_normal (nxE (qG [1, 1] S ?_))); clear S a; intro a S
  replace S := S.keep [0, 1, 4, 13, 20, 29, 38, 3, 2]
  refine nxC (wp_ret (sc_ret ?_))
  refine end_one S rfl (res_tmp rfl) ?_
  refine ⟨ret_bool ?_, M.below⟩; rw [Bool.eq_iff_iff]; (first | (simp [Fr.may]; done) | (simp [Fr.may]; omega))
 clear S; intro h45 S
 refine qR [6, 1] S M ?_; clear S a; intro a S
 refine qY S (y_lenS (E := 5) S rfl (by kernel_rfl)) ?_; clear S a; intro a S
 refine qG [1, 1, 1] S ?_; clear S a; intro a S
 refine nxC (st_if (t := 38) S rfl ?_ ?_)
 ·clear S; intro h38 S
  refine st_condT S rfl (wp_exit (block_hit (nxE (qG [1, 1] S ?_)))); clear S a; intro a S
  replace S := S.keep [0, 1, 3, 4, 13, 20, 29, 38, 2]
  refine nxC (wp_ret (sc_ret ?_))
  refine end_one S rfl (res_tmp rfl) ?_
  refine ⟨ret_bool ?_, M.below⟩; rw [Bool.eq_iff_iff]; (first | (simp [Fr.may]; done) | (simp [Fr.may]; omega))
 clear S; intro h38 S
 refine st_condF S rfl (wp_region_lit (qG [1] S ?_)); clear S a; intro a S
 refine wpList_nil (block_normal (nxE (qG [1, 1] S ?_))); clear S a; intro a S
 replace S := S.keep [0, 1, 4, 13, 20, 29, 38, 3, 2]
 refine nxC (wp_ret (sc_ret ?_))
 refine end_one S rfl (res_tmp rfl) ?_
 refine ⟨ret_bool ?_, M.below⟩; rw [Bool.eq_iff_iff]; (first | (simp [Fr.may]; done) | (simp [Fr.may]; omega))
end Go.Proofs.YtodfphphidhjbaaGreat
namespace Go.Proofs.YtodfphphidhjbaaGreat
open Go.RowKit Go.Sort
def Fr.same (f g : Fr) (bs cs : List UInt8) : Bool := f.seq == g.seq && f.inc == g.inc && f.part == g.part && f.of == g.of && f.mark == g.mark && bs == cs
theorem Fr.same_iff {f g : Fr} {bs cs : List UInt8} : f.same g bs cs = true ↔ f = g ∧ bs = cs := by
 cases f; cases g; simp [Fr.same, and_assoc]
theorem sameF_any (f g : Fr) (v u : Value) (bs cs : List UInt8) (w : World) (hv : Bs 0 w.heap.size w v bs) (hu : Bs 0 w.heap.size w u cs) : Calls Tryz.prog 162 #[.agg (f.cells v).toArray, .agg (g.cells u).toArray] w fun e w' => e = .returned (.bool (f.same g bs cs)) ∧ Below w.heap.size w w' := by
 have M := Mem.start w
 refine calls_enter Tryz.func162 rfl 45 rfl rfl ?_; intro a S
 refine nxD (st_box S M rfl rfl rfl #[_, _, _, _, _, _] rfl ?_); clear S M a; intro a w1 b1 S M hB
 refine st_box S M rfl rfl rfl #[_, _, _, _, _, _] rfl ?_; clear S M a; intro a w2 b2 S M hB
 refine qG [1] S ?_; clear S a; intro a S
 refine nxA (qR [1, 2, 1, 1, 1, 1] S M ?_); clear S a; intro a S
 refine st_fi (t := 10) S rfl ?_ ?_
 ·clear S; intro h10 S
  refine qG [0, 0, 0, 0, 0, 1, 1, 0, 0, 0, 0, 0, 1, 1, 0, 0, 0, 0, 0, 1, 1, 0, 0, 0, 0, 0, 1, 1, 0, 0, 0, 0, 0, 1, 1] S ?_; clear S a; intro a S
  replace S := S.keep [0, 1, 2, 3, 4]
  refine nxC (wp_ret (end_one S rfl (res_tmp rfl) ?_))
  exact ⟨ret_bool (by simp [Fr.same, *]), M.below⟩
 clear S; intro h10 S
 refine qR [2, 2, 2, 1, 1, 1, 1] S M ?_; clear S a; intro a S
 refine st_fi (t := 17) S rfl ?_ ?_
 ·clear S; intro h17 S
  refine qG [0, 0, 0, 0, 0, 1, 1, 0, 0, 0, 0, 0, 1, 1, 0, 0, 0, 0, 0, 1, 1, 0, 0, 0, 0, 0, 1, 1] S ?_; clear S a; intro a S
  replace S := S.keep [0, 1, 2, 3, 4]
  refine nxC (wp_ret (end_one S rfl (res_tmp rfl) ?_))
  exact ⟨ret_bool (by simp [Fr.same, *]), M.below⟩
 clear S; intro h17 S
 refine qR [3, 2, 3, 1, 1, 1, 1] S M ?_; clear S a; intro a S
 refine st_fi (t := 24) S rfl ?_ ?_
 ·clear S; intro h24 S
  refine qG [0, 0, 0, 0, 0, 1, 1, 0, 0, 0, 0, 0, 1, 1, 0, 0, 0, 0, 0, 1, 1] S ?_; clear S a; intro a S
  replace S := S.keep [0, 1, 2, 3, 4]
  refine nxC (wp_ret (end_one S rfl (res_tmp rfl) ?_))
  exact ⟨ret_bool (by simp [Fr.same, *]), M.below⟩
 clear S; intro h24 S
 refine qR [4, 2, 4, 1, 1, 1, 1] S M ?_; clear S a; intro a S
 refine st_fi (t := 31) S rfl ?_ ?_
 ·clear S; intro h31 S
  refine qG [0, 0, 0, 0, 0, 1, 1, 0, 0, 0, 0, 0, 1, 1] S ?_; clear S a; intro a S
  replace S := S.keep [0, 1, 2, 3, 4]
  refine nxC (wp_ret (end_one S rfl (res_tmp rfl) ?_))
  exact ⟨ret_bool (by simp [Fr.same, *]), M.below⟩
 clear S; intro h31 S
 refine qR [5, 2, 5, 1] S M ?_; clear S a; intro a S
 refine qY S (y_eql32 S rfl rfl) ?_; clear S a; intro a S
 refine qG [1, 1] S ?_; clear S a; intro a S
 refine st_fi (t := 38) S rfl ?_ ?_
 ·clear S; intro h38 S
  refine qG [0, 0, 0, 0, 0, 1, 1] S ?_; clear S a; intro a S
  replace S := S.keep [0, 1, 2, 3, 4]
  refine nxC (wp_ret (end_one S rfl (res_tmp rfl) ?_))
  exact ⟨ret_bool (by simp [Fr.same, *]), M.below⟩
 clear S; intro h38 S
 refine qR [6, 2, 6, 1] S M ?_; clear S a; intro a S
 refine qQ (xs := [.tmp 40, .tmp 42]) S (qE Tryz.func70) rfl (equal_any _ _ bs cs _ (M.argW hv) (M.argW hu)) M ?_; clear S M a; intro a w3 S hK M
 refine qG [1, 1] S ?_; clear S a; intro a S
 replace S := S.keep [0, 1, 2, 3, 4]
 refine nxC (wp_ret (end_one S rfl (res_tmp rfl) ?_))
 exact ⟨ret_bool (by simp [Fr.same, *]), M.below⟩
end Go.Proofs.YtodfphphidhjbaaGreat
namespace Go.Proofs.YtodfphphidhjbaaGreat
open Go.RowKit Go.Sort
def FrsC (cs : List Value) (lo hi : Nat) (w : World) (v : Value) (fs : List (Fr × List UInt8)) : Prop :=
 Rd lo hi w 6 v fs.length cs ∧ ∀ i f bs, fs[i]? = some (f, bs) → ∃ lv, (cs.drop (i * 6)).take 6 = f.cells lv ∧ Bs lo hi w lv bs
def Frs (lo hi : Nat) (w : World) (v : Value) (fs : List (Fr × List UInt8)) : Prop := ∃ cs, FrsC cs lo hi w v fs
theorem FrsC.same {cs : List Value} {lo hi : Nat} {w w' : World} {v : Value} {fs : List (Fr × List UInt8)} (h : FrsC cs lo hi w v fs) (hs : SameOn lo hi w w') : FrsC cs lo hi w' v fs :=
 ⟨h.1.same hs, fun i f bs hi => let ⟨lv, e, hb⟩ := h.2 i f bs hi; ⟨lv, e, hb.same hs⟩⟩
theorem FrsC.wide {cs : List Value} {lo hi lo' hi' : Nat} {w : World} {v : Value} {fs : List (Fr × List UInt8)} (h : FrsC cs lo hi w v fs) (h1 : lo' ≤ lo) (h2 : hi ≤ hi') : FrsC cs lo' hi' w v fs :=
 ⟨h.1.wide h1 h2, fun i f bs hi => let ⟨lv, e, hb⟩ := h.2 i f bs hi; ⟨lv, e, hb.wide h1 h2⟩⟩
theorem FrsC.row {cs : List Value} {lo hi i : Nat} {w : World} {v lv : Value} {f : Fr} {bs : List UInt8} {fs : List (Fr × List UInt8)} (h : FrsC cs lo hi w v fs) (hi' : fs[i]? = some (f, bs)) (hr : (cs.drop (i * 6)).take 6 = f.cells lv) : CellsAt w (adr v).block ((adr v).off + i * 6) (f.cells lv) ∧ Bs lo hi w lv bs := by
 obtain ⟨lv', e, hb⟩ := h.2 i f bs hi'
 have : lv' = lv := by
  rw [e] at hr
  injection hr with _ hr; injection hr with _ hr; injection hr with _ hr; injection hr with _ hr; injection hr with _ hr; injection hr
 subst this
 exact ⟨h.1.at_.row e rfl, hb⟩
theorem Mem.frs {w0 w : World} {H : List Ent} {cs : List Value} {v : Value} {fs : List (Fr × List UInt8)} (M : Mem w0 w H) (h : FrsC cs 0 w0.heap.size w0 v fs) : FrsC cs 0 w0.heap.size w v fs := h.same fun k _ h2 => M.below.block k h2
def nOf (n : Nat) : Nat := (n + 44) / 45
def frOf (bs : List UInt8) (seq inc : Int) (i : Nat) : Fr × List UInt8 := (⟨seq + i, inc, i, (nOf bs.length : Nat), sumT bs⟩, (bs.drop (i * 45)).take 45)
def cutF (bs : List UInt8) (seq inc : Int) : List (Fr × List UInt8) := (List.range (nOf bs.length)).map (frOf bs seq inc)
def cutOk (bs : List UInt8) (seq inc : Int) : Prop := bs ≠ [] ∧ (1 ≤ seq ∧ seq ≤ 1099511627776) ∧ (0 ≤ inc ∧ inc ≤ 1048576) ∧ bs.length ≤ 90 ∧ seq + (nOf bs.length : Nat) - 1 ≤ 1099511627776
open Classical in
noncomputable def cutE (bs : List UInt8) (seq inc : Int) : Int :=
 if cutOk bs seq inc then 0 else if bs ≠ [] ∧ (1 ≤ seq ∧ seq ≤ 1099511627776) ∧ (0 ≤ inc ∧ inc ≤ 1048576) ∧ 90 < bs.length then 3 else 2
open Classical in
noncomputable def cutR (bs : List UInt8) (seq inc : Int) : List (Fr × List UInt8) := if cutOk bs seq inc then cutF bs seq inc else []
def CutPost (bs : List UInt8) (seq inc : Int) (w : World) (e : Ending) (w' : World) : Prop :=
 ∃ v', e = .returned (.tuple #[v', .int .i64 (cutE bs seq inc)]) ∧ Below w.heap.size w w' ∧ Frs w.heap.size w'.heap.size w' v' (cutR bs seq inc)
theorem cutPost_no {bs : List UInt8} {seq inc : Int} {w w' : World} {H : List Ent} {x : Int} (M : Mem w w' H) (h : ¬ cutOk bs seq inc) (hx : x = cutE bs seq inc) : CutPost bs seq inc w (.returned (.tuple #[.slice none 0 0, .int .i64 x])) w' :=
 ⟨_, by rw [hx], M.below, [], by unfold cutR; rw [if_neg h]; exact ⟨Rd.nil _ _ _ _, fun i f bs hi => by simp at hi⟩⟩
theorem Mem.pushFrs {w0 w w' : World} {H : List Ent} {cs : List Value} {v : Value} {fs : List (Fr × List UInt8)} (M : Mem w0 w H) (hb : Below w.heap.size w w') (h : FrsC cs w.heap.size w'.heap.size w' v fs) : ∃ lo hi, w.heap.size ≤ lo ∧ Mem w0 w' (.own lo hi (fun w => FrsC cs lo hi w v fs) :: H) :=
 ⟨_, _, Nat.le_refl _, M.push hb (.own w.heap.size w'.heap.size fun x => FrsC cs w.heap.size w'.heap.size x v fs) (fun w'' hs => h.same hs) (Nat.le_refl _) (Nat.le_refl _)⟩
def Loads (lo hi : Nat) (bs : List UInt8) (lvs : List Value) (w : World) : Prop := ∀ i lv, lvs[i]? = some lv → Bs lo hi w lv ((bs.drop (i * 45)).take 45)
theorem loads_more {w0 w : World} {lo hi lo' hi' b n : Nat} {bs : List UInt8} {lvs : List Value} {lv : Value} {c : Array Value} {t e : TypeId} (M : Mem w0 w [rowE lo' hi' e 1 lv n (bcells ((bs.drop (lvs.length * 45)).take 45)), .own lo hi (Loads lo hi bs lvs), .blk b c t])
 (hn : ((bs.drop (lvs.length * 45)).take 45).length = n) (hb : b < lo) (h1 : lo ≤ hi) (h2 : hi ≤ lo') : Mem w0 w [.own lo w.heap.size (Loads lo w.heap.size bs (lvs ++ [lv])), .blk b c t] := by
 have f0 := M.fits _ (List.mem_of_getElem? (show _[0]? = _ from rfl))
 have f1 := M.fits _ (List.mem_of_getElem? (show _[1]? = _ from rfl))
 simp only [rowE, Ent.lo, Ent.hi] at f0 f1
 refine M.merge lo w.heap.size _ f1.1 (Nat.le_refl _) (fun f hf => ?_) (fun w' hs => ?_)
 ·simp only [List.mem_singleton] at hf; subst hf; left; simp only [Ent.hi]; omega
 ·intro i x hx
  rcases Nat.lt_or_ge i lvs.length with hi' | hi'
  ·rw [List.getElem?_append_left hi'] at hx
   exact (M.ownAll 1 rfl w' (hs.sub (Nat.le_refl _) f1.2) i x hx).wide (Nat.le_refl _) f1.2
  ·have : i = lvs.length := by
    have := (List.getElem?_eq_some_iff.1 hx).1
    simp at this; omega
   subst this
   rw [List.getElem?_append_right (Nat.le_refl _)] at hx
   simp at hx
   subst hx
   obtain ⟨h3, h4⟩ := M.ownAll 0 rfl w' (hs.sub (by omega) f0.2)
   have := Rd.of_row h3 h4 (by rw [← hn]; simp [maxLen]; omega)
   unfold Bs; rw [hn]
   exact this.wide (by omega) f0.2
theorem cut_any (v : Value) (bs : List UInt8) (seq inc : Int) (w : World) (hv : Bs 0 w.heap.size w v bs) (hseq : -9223372036854775808 ≤ seq ∧ seq ≤ 9223372036854775807) : Calls Tryz.prog 161 #[v, .int .i64 seq, .int .i64 inc] w (CutPost bs seq inc w) := by
 have M := Mem.start w
 have hl := hv.2.1
 unfold maxLen at hl
 have hcap := hv.cap
 refine calls_enter Tryz.func161 rfl 79 rfl rfl ?_; intro a S
 refine nxD (qG [1, 1] S ?_); clear S a; intro a S
 refine nxC (wp_seq (nxD (qG [1] S ?_))); clear S a; intro a S
 refine qY S (y_lenR (E := 5) S rfl (M.arg hv) (by kernel_rfl)) ?_; clear S a; intro a S
 refine qG [1, 1] S ?_; clear S a; intro a S
 refine st_if (t := 18) S rfl ?_ ?_
 ·clear S; intro h18 S
  refine qG [0, 0, 0, 1, 1, 0, 0, 0, 1] S ?_; clear S a; intro a S
  refine nxC (st_condT S rfl (nxD (qG [1, 1] S ?_))); clear S a; intro a S
  replace S := S.keep [0, 1, 2, 27, 6, 7]
  refine nxC (wp_ret (then_ret (end_two S rfl (res_tmp rfl) (res_tmp rfl) ?_)))
  exact cutPost_no M (by unfold cutOk; simp only [← List.length_pos_iff] at *; omega) (by unfold cutE cutOk; simp only [← List.length_pos_iff] at *; rw [if_neg (by omega), if_neg (by omega)])
 clear S; intro h18 S
 refine qG [1] S ?_; clear S a; intro a S
 refine qQ (xs := [.tmp 19]) S (qE Tryz.func167) rfl (sequence_any _ _) M ?_; clear S M a; intro a w1 S hK M
 refine qG [1, 1, 1] S ?_; clear S a; intro a S
 refine st_if (t := 23) S rfl ?_ ?_
 ·clear S; intro h23 S
  refine qG [0, 0, 0, 1] S ?_; clear S a; intro a S
  refine nxC (st_condT S rfl (nxD (qG [1, 1] S ?_))); clear S a; intro a S
  replace S := S.keep [0, 1, 2, 27, 6, 7]
  refine nxC (wp_ret (then_ret (end_two S rfl (res_tmp rfl) (res_tmp rfl) ?_)))
  exact cutPost_no M (by unfold cutOk; simp only [← List.length_pos_iff] at *; omega) (by unfold cutE cutOk; simp only [← List.length_pos_iff] at *; rw [if_neg (by omega), if_neg (by omega)])
 clear S; intro h23 S
 refine qG [1] S ?_; clear S a; intro a S
 refine qQ (xs := [.tmp 24]) S (qE Tryz.func168) rfl (incarnation_any _ _) M ?_; clear S M a; intro a w2 S hK M
 refine qG [1, 1] S ?_; clear S a; intro a S
 refine nxC (st_if (t := 27) S rfl ?_ ?_)
 ·clear S; intro h27 S
  refine st_condT S rfl (nxD (qG [1, 1] S ?_)); clear S a; intro a S
  replace S := S.keep [0, 1, 2, 27, 6, 7]
  refine nxC (wp_ret (then_ret (end_two S rfl (res_tmp rfl) (res_tmp rfl) ?_)))
  exact cutPost_no M (by unfold cutOk; simp only [← List.length_pos_iff] at *; omega) (by unfold cutE cutOk; simp only [← List.length_pos_iff] at *; rw [if_neg (by omega), if_neg (by omega)])
 clear S; intro h27 S
 refine st_condF S rfl (wp_skip (then_normal (wp_seq (nxD (qG [1] S ?_))))); clear S a; intro a S
 refine qY S (y_lenR (E := 5) S rfl (M.arg hv) (by kernel_rfl)) ?_; clear S a; intro a S
 refine qG [1] S ?_; clear S a; intro a S
 replace S := S.keep [0, 1, 2, 6, 7, 27, 30]
 refine nxC (st_if (t := 30) S rfl ?_ ?_)
 ·clear S; intro h30 S
  refine st_condT S rfl (nxD (qG [1, 1] S ?_)); clear S a; intro a S
  refine nxC (wp_ret (then_ret (end_two S rfl (res_tmp rfl) (res_tmp rfl) ?_)))
  exact cutPost_no M (by unfold cutOk; simp only [← List.length_pos_iff] at *; omega) (by unfold cutE cutOk; simp only [← List.length_pos_iff] at *; rw [if_neg (by omega), if_pos (by omega)])
 clear S; intro h30 S
 refine st_condF S rfl (wp_skip (nxE (qG [1] S ?_))); clear S a; intro a S
 refine qY S (y_lenR (E := 5) S rfl (M.arg hv) (by kernel_rfl)) ?_; clear S a; intro a S
 (first | refine qY S (y_addN S rfl rfl (by omega)) ?_ | refine qY S (y_int S rfl rfl rfl) ?_); clear S a; intro a S
 (first | refine qY S (y_subN S rfl rfl (by omega)) ?_ | refine qY S (y_int S rfl rfl rfl) ?_); clear S a; intro a S
 refine qY S (y_quoN S rfl rfl (by omega)) ?_; clear S a; intro a S
 refine qG [1] S ?_; clear S a; intro a S
 refine nxC (wp_seq (nxD (qG [1, 1] S ?_))); clear S a; intro a S
 (first | refine qY S (y_addN S rfl rfl (by omega)) ?_ | refine qY S (y_int S rfl rfl rfl) ?_); clear S a; intro a S
 (first | refine qY S (y_subN S rfl rfl (by omega)) ?_ | refine qY S (y_int S rfl rfl rfl) ?_); clear S a; intro a S
 refine qQ (xs := [.tmp 39]) S (qE Tryz.func167) rfl (sequence_any _ _) M ?_; clear S M a; intro a w3 S hK M
 refine qG [1] S ?_; clear S a; intro a S
 refine nxC (st_if (t := 41) S rfl ?_ ?_)
 ·clear S; intro h41 S
  refine st_condT S rfl (nxD (qG [1, 1] S ?_)); clear S a; intro a S
  refine nxC (wp_ret (then_ret (end_two S rfl (res_tmp rfl) (res_tmp rfl) ?_)))
  exact cutPost_no M (by unfold cutOk nOf; simp only [← List.length_pos_iff] at *; omega) (by unfold cutE cutOk nOf; simp only [← List.length_pos_iff] at *; rw [if_neg (by omega), if_neg (by omega)])
 clear S; intro h41 S
 refine st_condF S rfl (wp_skip (nxE (qG [1] S ?_))); clear S a; intro a S
 refine qQ (xs := [.tmp 42]) S (qE Tryz.func138) rfl (sum_any v bs _ (M.argW hv)) M ?_; clear S M a; intro a w4 S hK M
 refine qG [1] S ?_; clear S a; intro a S
 refine nxA ?_
 have e8 : ((bs.length : Int) + 45 - 1) / 45 = ((nOf bs.length : Nat) : Int) := by unfold nOf; omega
 have hn2 : nOf bs.length ≤ 2 := by unfold nOf; omega
 rw [e8] at S
 have hok : cutOk bs seq inc := by unfold cutOk; rw [← List.length_pos_iff]; omega
 refine qY S (y_move S rfl) ?_; clear S a; intro a S
 refine st_make (e := 130) (sz := 6) (by_ := 64) (zc := [.int .i64 0, .int .i64 0, .int .i64 0, .int .i64 0, .int .u32 0, .slice none 0 0]) S M rfl rfl (by kernel_rfl) rfl rfl (by omega) (by omega) (by omega) (by omega) ?_; clear S M a; intro a w5 b1 S M hB
 try simp only [Int.toNat_natCast, Int.reduceToNat, Nat.reduceMul] at S M
 refine qG [1] S ?_; clear S a; intro a S
 replace S := S.keep [0, 1, 2, 6, 7, 27, 30, 8, 41, 9, 10]
 refine nxC (wp_seq (nxD (qG [1] S ?_))); clear S a; intro a S
 refine qY S (y_lenS (E := 130) S rfl (by kernel_rfl)) ?_; clear S a; intro a S
 refine qG [1] S ?_; clear S a; intro a S
 refine nxC (wp_block (wp_loop_g (fun m a w' => ∃ (k : Nat) (l : List Value) (lo hi : Nat) (lvs : List Value), k ≤ nOf bs.length ∧ m = nOf bs.length - k ∧ Sees 79 a [(0, v), (1, .int .i64 seq), (2, .int .i64 inc), (8, .int .i64 (nOf bs.length : Nat)), (9, .int .u32 ((sumT bs).toNat : Int)), (10, .slice (some ⟨b1, 0, none⟩) (nOf bs.length) (nOf bs.length)), (47, .int .i64 (nOf bs.length : Nat)), (48, .int .i64 (k : Int))] ∧ Mem w w' [.own lo hi (Loads lo hi bs lvs), .blk b1 l.toArray 130] ∧ b1 < lo ∧ lo ≤ hi ∧ l.length = nOf bs.length * 6 ∧ lvs.length = k ∧ ∀ i lv, lvs[i]? = some lv → (l.drop (i * 6)).take 6 = (frOf bs seq inc i).1.cells lv) (nOf bs.length) ?_ ?_))
 ·skip
  have f := (M.fits _ (List.mem_of_getElem? (show _[0]? = _ from rfl))).2
  simp only [Ent.hi] at f
  exact ⟨0, _, _, _, [], Nat.zero_le _, rfl, S.sub _ rfl, M.pushTriv (Loads _ _ bs []) (fun _ i lv h => by simp at h), f, Nat.le_refl _, by simp [madeL_length], rfl, fun i lv h => by simp at h⟩
 clear S M a; intro m a wl
 rintro ⟨k, l, lo, hi, lvs, hk, rfl, S, M, hb, hlh, hll, hlv, hrow⟩
 refine nxD (qG [1] S ?_); clear S a; intro a S
 refine nxC (wp_seq (st_fi (t := 49) S rfl ?_ ?_))
 ·clear S; intro h49 S
  refine st_condF S rfl (wp_exit (then_exit (then_exit (block_hit (nxE (qG [1, 1, 1] S ?_)))))); clear S a; intro a S
  refine nxC (wp_ret (end_two S rfl (res_tmp rfl) (res_tmp rfl) ?_))
  obtain rfl : k = nOf bs.length := by omega
  have f0 := M.fits _ (List.mem_of_getElem? (show _[0]? = _ from rfl))
  have f1 := M.fits _ (List.mem_of_getElem? (show _[1]? = _ from rfl))
  simp only [Ent.lo, Ent.hi] at f0 f1
  refine ⟨_, by unfold cutE; rw [if_pos hok], M.below, ?_⟩
  unfold cutR; rw [if_pos hok]
  have hlc : (cutF bs seq inc).length = nOf bs.length := by simp [cutF]
  refine ⟨l, ?_, fun i f cs' hi' => ?_⟩
  ·rw [hlc]
   exact (Rd.of_blk (M.blk 1 rfl) hll (Nat.le_refl _) (by unfold maxLen; omega) (List.take_of_length_le (by simp; omega))).wide f1.1 f1.2
  ·have hlt := (List.getElem?_eq_some_iff.1 hi').1
   rw [hlc] at hlt
   simp only [cutF, List.getElem?_map, List.getElem?_range hlt, Option.map_some, Option.some.injEq] at hi'
   obtain ⟨lv, hlv'⟩ : ∃ lv, lvs[i]? = some lv := ⟨_, List.getElem?_eq_getElem (by omega)⟩
   refine ⟨lv, ?_, ?_⟩
   ·rw [hrow i lv hlv', hi']
   ·have := M.own 0 rfl i lv hlv'
    have e2 : (bs.drop (i * 45)).take 45 = cs' := congrArg Prod.snd hi'
    rw [← e2]
    exact this.wide f0.1 f0.2
 clear S; intro h49 S
 refine st_condT S rfl (wp_skip (then_normal (wp_seq (wp_block (nxD (qG [1, 1] S ?_)))))); clear S a; intro a S
 refine nxA ?_
 have hk' : k < nOf bs.length := by omega
 have hkn : k * 45 < bs.length := by unfold nOf at hk'; omega
 refine qY S (y_move S rfl) ?_; clear S a; intro a S
 (first | refine qY S (y_mulN S rfl rfl (by omega)) ?_ | refine qY S (y_int S rfl rfl rfl) ?_); clear S a; intro a S
 refine qG [1] S ?_; clear S a; intro a S
 (first | refine qY S (y_addN S rfl rfl (by omega)) ?_ | refine qY S (y_int S rfl rfl rfl) ?_); clear S a; intro a S
 (first | refine qY S (y_mulN S rfl rfl (by omega)) ?_ | refine qY S (y_int S rfl rfl rfl) ?_); clear S a; intro a S
 refine qG [1] S ?_; clear S a; intro a S
 refine qY S (y_lenR (E := 5) S rfl (M.arg hv) (by kernel_rfl)) ?_; clear S a; intro a S
 refine qY S (y_min S rfl rfl) ?_; clear S a; intro a S
 refine qG [1, 1] S ?_; clear S a; intro a S
 refine nxA (qG [1, 1, 1, 1] S ?_); clear S a; intro a S
 refine qY S (y_slice3R (e := 5) (sz := 1) S (by kernel_rfl) rfl (M.arg hv) rfl rfl rfl (by first | omega | (simp; done) | (simp; omega))) ?_; clear S a; intro a S
 have hB := (M.argW hv).cutB (i := ((k : Int) * 45).toNat) (j := (min (((k : Int) + 1) * 45) (bs.length : Int)).toNat) (mx := (min (((k : Int) + 1) * 45) (bs.length : Int)).toNat) (by omega) (by omega) (by omega) (by omega)
 have eB : (bs.drop ((k : Int) * 45).toNat).take ((min (((k : Int) + 1) * 45) (bs.length : Int)).toNat - ((k : Int) * 45).toNat) = (bs.drop (k * 45)).take 45 := by
  rw [show ((k : Int) * 45).toNat = k * 45 by omega]
  rcases Nat.le_total ((k + 1) * 45) bs.length with h | h
  ·congr 1; omega
  ·rw [List.take_of_length_le (by simp; omega), List.take_of_length_le (by simp; omega)]
 rw [eB] at hB
 have hfit := (M.fits _ (List.mem_of_getElem? (show _[0]? = _ from rfl))).2
 simp only [Ent.hi] at hfit
 refine qC (xs := [.tmp 63]) S (qE Tryz.func145) rfl (clone_any _ _ _ hB (by simp; omega)) ?_
 rintro _ w6 ⟨lv, rfl, hF⟩; refine ⟨_, rfl, ?_⟩; clear S a; intro a S
 obtain ⟨adL, capL, hlvE, -, -⟩ := (hF.rd (by simp [maxLen]; omega)).form
 obtain ⟨lo', hi', hlo', M⟩ := M.pushFresh hF
 subst hlvE
 refine qG [1] S ?_; clear S a; intro a S
 replace S := S.keep [0, 1, 2, 8, 9, 10, 47, 48, 49, 11, 12, 13, 14]
 refine nxB (qG [1, 1, 1, 1] S ?_); clear S a; intro a S
 (first | refine qY S (y_addN S rfl rfl (by omega)) ?_ | refine qY S (y_int S rfl rfl rfl) ?_); clear S a; intro a S
 refine qG [1, 1, 1, 1, 1] S ?_; clear S a; intro a S
 refine qY S (y_build (ps := [(0, .tmp 69), (1, .tmp 70), (2, .tmp 71), (3, .tmp 72), (4, .tmp 73), (5, .tmp 74)]) (pl := [(0, 1), (1, 1), (2, 1), (3, 1), (4, 1), (5, 1)]) (z := [.int .i64 0, .int .i64 0, .int .i64 0, .int .i64 0, .int .u32 0, .slice none 0 0]) (cs := [_, _, _, _, _, _]) S (by kernel_rfl) rfl (rfl)) ?_; clear S a; intro a S
 refine qY S (y_indexS (e := 130) (sz := 6) S (by kernel_rfl) rfl rfl (by first | omega | (simp; done) | (simp; omega))) ?_; clear S a; intro a S
 try simp only [Int.toNat_natCast, Nat.mul_one, Nat.zero_add] at S
 refine st_store (sz := 6) (us := [_, _, _, _, _, _]) S M 2 rfl (by kernel_rfl) rfl rfl rfl rfl rfl rfl (by simp; omega) ?_; clear M; intro w7 M
 simp only [List.set_cons_zero, List.set_cons_succ] at M
 refine wpList_nil (block_normal (nxF ?_))
 (first | refine qY S (y_addN S rfl rfl (by omega)) ?_ | refine qY S (y_int S rfl rfl rfl) ?_); clear S a; intro a S
 refine qG [1] S ?_; clear S a; intro a S
 replace S := S.keep [0, 1, 2, 8, 9, 10, 47, 49, 11, 12, 13, 14, 48]
 refine nxC ?_
 subst hlv
 have M2 := loads_more M rfl hb hlh (by omega)
 have hle : lvs.length * 6 + 6 ≤ l.length := by omega
 refine ⟨nOf bs.length - (lvs.length + 1), by omega, lvs.length + 1, _, lo, _, _, by omega, rfl, S.sub _ rfl, M2, hb, ?_, by rw [putL_length]; exact hll, by simp, ?_⟩
 ·have f := (M.fits _ (List.mem_of_getElem? (show _[1]? = _ from rfl))); simp only [Ent.hi, Ent.lo] at f; omega
 ·intro i lv hi'
  rcases Nat.lt_or_ge i lvs.length with h | h
  ·rw [List.getElem?_append_left h] at hi'
   rw [putL_ahead (by simpa using hle) (by omega)]
   exact hrow i lv hi'
  ·have : i = lvs.length := by
    have := (List.getElem?_eq_some_iff.1 hi').1
    simp at this; omega
   subst this
   rw [List.getElem?_append_right (Nat.le_refl _)] at hi'
   simp only [Nat.sub_self, List.getElem?_cons_zero, Option.some.injEq] at hi'
   subst hi'
   exact putL_same (us := [_, _, _, _, _, _]) hle
end Go.Proofs.YtodfphphidhjbaaGreat
namespace Go.Proofs.YtodfphphidhjbaaGreat
open Go.RowKit Go.Sort
def outF (fs : List (Fr × List UInt8)) : List UInt8 := fs.flatMap (·.2)
def joinOk (fs : List (Fr × List UInt8)) : Prop :=
 ∃ f bs r, fs = (f, bs) :: r ∧ fs.length ≤ 2 ∧ (∀ x ∈ fs, x.1.may x.2.length = true) ∧ cutOk (outF fs) f.seq f.inc ∧ cutF (outF fs) f.seq f.inc = fs
open Classical in
noncomputable def joinE (fs : List (Fr × List UInt8)) : Int := if joinOk fs then 0 else 40
def JoinPost (fs : List (Fr × List UInt8)) (w : World) (e : Ending) (w' : World) : Prop :=
 ∃ v', e = .returned (.tuple #[v', .int .i64 (joinE fs)]) ∧ Below w.heap.size w w' ∧ (joinOk fs → Fresh w w' 5 1 v' (outF fs).length (bcells (outF fs))) ∧ (¬ joinOk fs → v' = .slice none 0 0)
theorem joinPost_no {fs : List (Fr × List UInt8)} {w w' : World} {H : List Ent} (M : Mem w w' H) (h : ¬ joinOk fs) : JoinPost fs w (.returned (.tuple #[.slice none 0 0, .int .i64 40])) w' :=
 ⟨_, by unfold joinE; rw [if_neg h], M.below, fun h' => absurd h' h, fun _ => rfl⟩
theorem outF_succ {fs : List (Fr × List UInt8)} {k : Nat} {f : Fr} {bs : List UInt8} (h : fs[k]? = some (f, bs)) : outF (fs.take (k + 1)) = outF (fs.take k) ++ bs := by
 obtain ⟨hlt, he⟩ := List.getElem?_eq_some_iff.1 h
 rw [List.take_succ_eq_append_getElem hlt, outF, List.flatMap_append, he]
 simp [outF]
theorem outF_le : ∀ (fs : List (Fr × List UInt8)) (k : Nat), (∀ x ∈ fs, x.2.length ≤ 1000) → k ≤ fs.length → (outF (fs.take k)).length ≤ k * 1000
 | fs, 0, _, _ => by simp [outF]
 | fs, k + 1, h, hk => by
   have hlt : k < fs.length := by omega
   have h1 := outF_le fs k h (by omega)
   have h2 := h fs[k] (List.getElem_mem hlt)
   rw [outF_succ (f := fs[k].1) (bs := fs[k].2) (List.getElem?_eq_getElem hlt), List.length_append]
   omega
theorem join_any (v : Value) (cs : List Value) (fs : List (Fr × List UInt8)) (w : World) (hv : FrsC cs 0 w.heap.size w v fs) (hbig : ∀ x ∈ fs, x.2.length ≤ 1000) (hseq : ∀ x ∈ fs, -9223372036854775808 ≤ x.1.seq ∧ x.1.seq ≤ 9223372036854775807) : Calls Tryz.prog 142 #[v] w (JoinPost fs w) := by
 have M := Mem.start w
 have hl := hv.1.2.1
 unfold maxLen at hl
 refine calls_enter Tryz.func142 rfl 71 rfl rfl ?_; intro a S
 refine nxD (qG [1, 1] S ?_); clear S a; intro a S
 refine nxC (wp_seq (nxD (qG [1] S ?_))); clear S a; intro a S
 refine qY S (y_lenR (E := 130) S rfl ((M.frs hv).1) (by kernel_rfl)) ?_; clear S a; intro a S
 refine qG [1, 1] S ?_; clear S a; intro a S
 refine st_if (t := 14) S rfl ?_ ?_
 ·clear S; intro h14 S
  refine qG [0, 0, 0, 1] S ?_; clear S a; intro a S
  refine nxC (st_condT S rfl (nxD (qG [1, 1] S ?_))); clear S a; intro a S
  refine nxC (wp_ret (then_ret (end_two S rfl (res_tmp rfl) (res_tmp rfl) ?_)))
  exact joinPost_no M (by rintro ⟨f, bs, r, rfl, h2, _⟩; simp at *; omega)
 clear S; intro h14 S
 refine qG [1] S ?_; clear S a; intro a S
 refine qY S (y_lenR (E := 130) S rfl ((M.frs hv).1) (by kernel_rfl)) ?_; clear S a; intro a S
 refine qG [1, 1] S ?_; clear S a; intro a S
 refine nxC (st_if (t := 18) S rfl ?_ ?_)
 ·clear S; intro h18 S
  refine st_condT S rfl (nxD (qG [1, 1] S ?_)); clear S a; intro a S
  refine nxC (wp_ret (then_ret (end_two S rfl (res_tmp rfl) (res_tmp rfl) ?_)))
  exact joinPost_no M (by rintro ⟨f, bs, r, rfl, h2, _⟩; simp at *; omega)
 clear S; intro h18 S
 refine st_condF S rfl (wp_skip (nxE (qG [1] S ?_))); clear S a; intro a S
 refine nxC (wp_seq (nxD (qG [1] S ?_))); clear S a; intro a S
 refine qY S (y_lenR (E := 130) S rfl ((M.frs hv).1) (by kernel_rfl)) ?_; clear S a; intro a S
 refine qG [1] S ?_; clear S a; intro a S
 refine nxC (wp_block (wp_loop_g (fun m a w' => ∃ (k lo hi : Nat) (v' : Value), k ≤ fs.length ∧ m = fs.length - k ∧ Sees 71 a [(0, v), (4, v'), (19, v), (20, .int .i64 (fs.length : Nat)), (21, .int .i64 (k : Int))] ∧ Mem w w' [rowE lo hi 5 1 v' (outF (fs.take k)).length (bcells (outF (fs.take k)))] ∧ ∀ x ∈ fs.take k, x.1.may x.2.length = true) (fs.length) ?_ ?_))
 ·skip
  exact ⟨0, _, _, _, Nat.zero_le _, rfl, S.sub _ rfl, M.rowNil _ _, by simp⟩
 clear S M a; intro m a wl
 rintro ⟨k, lo, hi, v', hk, rfl, S, M, hmay⟩
 refine nxD (qG [1] S ?_); clear S a; intro a S
 refine nxC (wp_seq (st_if (t := 22) S rfl ?_ ?_))
 ·clear S; intro h22 S
  refine st_condT S rfl (wp_skip (then_normal (wp_seq (wp_block (nxD ?_)))))
  have hk' : k < fs.length := by omega
  obtain ⟨⟨f, bs⟩, hx⟩ : ∃ x, fs[k]? = some x := ⟨fs[k], List.getElem?_eq_getElem hk'⟩
  obtain ⟨lv, hrow, hlv⟩ := hv.2 k f bs hx
  obtain ⟨ad, cap, hlvE, -, -⟩ := hlv.form
  subst hlvE
  refine qY S (y_indexR (e := 130) (sz := 6) S (by kernel_rfl) rfl ((M.frs hv).1) rfl (by first | omega | (simp; done) | (simp; omega))) ?_; clear S a; intro a S
  try simp only [Int.toNat_natCast, Nat.mul_one, Nat.zero_add] at S
  refine qY S (y_loadAgg S (by kernel_rfl) rfl rfl (((M.frs hv).row hx hrow).1)) ?_; clear S a; intro a S
  refine st_alloc S M rfl rfl #[.int .i64 0, .int .i64 0, .int .i64 0, .int .i64 0, .int .u32 0, .slice none 0 0] (by kernel_rfl) ?_; clear S M a; intro a w1 b1 S M hB
  refine qS (sz := 6) (us := [_, _, _, _, _, _]) S M 0 ?_; clear M; intro w2 M
  refine nxC (wp_seq (nxD (qY S (y_loadAgg (cs := [_, _, _, _, _, _]) S (by kernel_rfl) rfl rfl (M.cellsAt (k := 6) 0 rfl rfl)) ?_))); clear S a; intro a S
  refine qQ (xs := [.tmp 25]) S (qE Tryz.func160) rfl (mayF_any f ad bs.length cap _) M ?_; clear S M a; intro a w3 S hK M
  refine qG [1] S ?_; clear S a; intro a S
  refine nxC (st_split (t := 27) S rfl ?_ ?_)
  ·clear S; intro h27 S
   refine st_condT S rfl (nxD (qG [1, 1] S ?_)); clear S a; intro a S
   refine nxC (wp_ret (then_ret (block_ret (then_ret (then_ret (block_ret (then_ret (end_two S rfl (res_tmp rfl) (res_tmp rfl) ?_))))))))
   exact joinPost_no M (by
    rintro ⟨f', bs', r, e, h2, h3, _⟩
    have := h3 (f, bs) (List.mem_of_getElem? hx)
    simp only [this] at h27
    simp at h27)
  clear S; intro h27 S
  refine st_condF S rfl (wp_skip (nxF (qR [1, 6, 1] S M ?_))); clear S a; intro a S
  have hob := outF_le fs k hbig hk
  have hbs : bs.length ≤ 1000 := hbig _ (List.mem_of_getElem? hx)
  refine st_append (e := 5) (sz := 1) (by_ := 1) (zc := [.int .u8 0]) S M 1 rfl rfl (by kernel_rfl) rfl (by decide) rfl rfl rfl (((M.frs hv).row hx hrow).2) (allOne_bcells _) (by omega) (by unfold maxLen; omega) ?_; clear S M a; intro a w4 vA loA hiA S M
  refine qG [1] S ?_; clear S a; intro a S
  refine wpList_nil (block_normal (nxF ?_))
  (first | refine qY S (y_addN S rfl rfl (by omega)) ?_ | refine qY S (y_int S rfl rfl rfl) ?_); clear S a; intro a S
  refine qG [1] S ?_; clear S a; intro a S
  refine nxC ?_
  refine ⟨fs.length - (k + 1), by omega, k + 1, loA, hiA, vA, by omega, rfl, S.sub _ rfl, ?_, ?_⟩
  ·have M' := M.drop 1
   rw [outF_succ hx, List.length_append, bcells_append]
   exact M'
  ·intro x hx'
   rw [List.take_succ_eq_append_getElem hk', List.mem_append] at hx'
   rcases hx' with h | h
   ·exact hmay x h
   ·simp only [List.mem_singleton] at h
    rw [List.getElem?_eq_getElem hk'] at hx
    rw [h, Option.some.inj hx]
    simpa using h27
 clear S; intro h22 S
 refine st_condF S rfl (wp_exit (then_exit (then_exit (block_hit (then_normal (wp_seq ?_))))))
 obtain rfl : k = fs.length := by omega
 rw [List.take_length] at M hmay
 obtain ⟨⟨f0, bs0⟩, hx0⟩ : ∃ x, fs[0]? = some x := ⟨fs[0], List.getElem?_eq_getElem (by omega)⟩
 obtain ⟨lv0, hrow0, hlv0⟩ := hv.2 0 f0 bs0 hx0
 have hob := outF_le fs fs.length hbig (Nat.le_refl _)
 rw [List.take_length] at hob
 refine wp_regionK [] #[false, false, false, false, false, false, false, false, false, false, false, false, false, false, false] rfl M (by kernel_rfl) ?_; clear M; intro w5 M
 refine k_pure 0 S rfl (fun w => y_move S rfl) ?_; clear S a; intro a S
 refine k_pure 1 S rfl (fun w => y_move S rfl) ?_; clear S a; intro a S
 refine k_read 2 S rfl (fun w hW => have M := M.grow hW; y_indexR (e := 130) (sz := 6) S (by kernel_rfl) rfl ((M.frs hv).1) rfl (by first | omega | (simp; done) | (simp; omega))) ?_; clear S a; intro a S
 refine k_pure 3 S rfl (fun w => y_fieldAddr (k := 0) S (by kernel_rfl) rfl) ?_; clear S a; intro a S
 refine k_read 4 S rfl (fun w hW => have M := M.grow hW; y_load S (by kernel_rfl) rfl (((M.frs hv).row hx0 hrow0).1.one 0 rfl)) ?_; clear S a; intro a S
 refine k_pure 5 S rfl (fun w => y_move S rfl) ?_; clear S a; intro a S
 refine k_read 6 S rfl (fun w hW => have M := M.grow hW; y_indexR (e := 130) (sz := 6) S (by kernel_rfl) rfl ((M.frs hv).1) rfl (by first | omega | (simp; done) | (simp; omega))) ?_; clear S a; intro a S
 refine k_pure 7 S rfl (fun w => y_fieldAddr (k := 1) S (by kernel_rfl) rfl) ?_; clear S a; intro a S
 refine k_read 8 S rfl (fun w hW => have M := M.grow hW; y_load S (by kernel_rfl) rfl (((M.frs hv).row hx0 hrow0).1.one 1 rfl)) ?_; clear S a; intro a S
 refine k_one 9 rfl (by kernel_rfl) ?_
 refine qC (xs := [.tmp 34, .tmp 38, .tmp 42]) S (qE Tryz.func161) rfl (cut_any v' (outF fs) f0.seq f0.inc _ ((M.readRow 0 rfl (by unfold maxLen; omega)).wide (Nat.zero_le _) (M.fits _ (List.mem_of_getElem? (show _[0]? = _ from rfl))).2) (hseq _ (List.mem_of_getElem? hx0))) ?_
 rintro _ w6 ⟨v2, rfl, hK, cs2, hF⟩; refine ⟨_, rfl, ?_⟩; clear S a; intro a S
 obtain ⟨lo2, hi2, hlo2, M⟩ := M.pushFrs hK hF
 refine wpList_nil ?_; refine then_normal ?_; refine ⟨fun _ => hK, ?_⟩
 refine k_pure 10 S rfl (fun w => y_move S rfl) ?_; clear S a; intro a S
 refine k_pure 11 S rfl (fun w => y_extract S rfl rfl) ?_; clear S a; intro a S
 refine k_pure 12 S rfl (fun w => y_extract S rfl rfl) ?_; clear S a; intro a S
 refine k_pure 13 S rfl (fun w => y_assign S rfl) ?_; clear S a; intro a S
 refine k_pure 14 S rfl (fun w => y_assign S rfl) ?_; clear S a; intro a S
 refine k_end (by kernel_rfl) ?_
 refine then_normal (wp_seq (nxD (qG [1, 1, 1] S ?_))); clear S a; intro a S
 refine st_if (t := 48) S rfl ?_ ?_
 ·clear S; intro h48 S
  refine qG [0, 0, 0, 0, 0, 1] S ?_; clear S a; intro a S
  replace S := S.keep [0, 4, 19, 20, 21, 22, 7, 8, 54]
  refine nxC (st_condT S rfl (nxD (qG [1, 1] S ?_))); clear S a; intro a S
  refine nxC (wp_ret (then_ret (end_two S rfl (res_tmp rfl) (res_tmp rfl) ?_)))
  exact joinPost_no M (by
   rintro ⟨f', bs', r, e, h2, h3, h4, h5⟩
   have e1 : f' = f0 := by rw [e] at hx0; simp at hx0; exact hx0.1
   subst e1
   first
    | (apply h48; unfold cutE; rw [if_pos h4])
    | (apply h54; unfold cutR; rw [if_pos h4, h5]))
 clear S; intro h48 S
 refine qG [1] S ?_; clear S a; intro a S
 refine qY S (y_lenR (E := 130) S rfl ((M.own 0 rfl).1) (by kernel_rfl)) ?_; clear S a; intro a S
 refine qG [1] S ?_; clear S a; intro a S
 refine qY S (y_lenR (E := 130) S rfl ((M.frs hv).1) (by kernel_rfl)) ?_; clear S a; intro a S
 refine qG [1, 1] S ?_; clear S a; intro a S
 replace S := S.keep [0, 4, 19, 20, 21, 22, 7, 8, 54]
 refine nxC (st_if (t := 54) S rfl ?_ ?_)
 ·clear S; intro h54 S
  refine st_condT S rfl (nxD (qG [1, 1] S ?_)); clear S a; intro a S
  refine nxC (wp_ret (then_ret (end_two S rfl (res_tmp rfl) (res_tmp rfl) ?_)))
  exact joinPost_no M (by
   rintro ⟨f', bs', r, e, h2, h3, h4, h5⟩
   have e1 : f' = f0 := by rw [e] at hx0; simp at hx0; exact hx0.1
   subst e1
   first
    | (apply h48; unfold cutE; rw [if_pos h4])
    | (apply h54; unfold cutR; rw [if_pos h4, h5]))
 clear S; intro h54 S
 refine st_condF S rfl (wp_skip (then_normal (wp_seq (nxD ?_))))
 have hc0 : cutOk (outF fs) f0.seq f0.inc := by
  by_cases h : cutOk (outF fs) f0.seq f0.inc
  ·exact h
  ·unfold cutE at h48; rw [if_neg h] at h48; split at h48 <;> omega
 have hlen : (cutR (outF fs) f0.seq f0.inc).length = fs.length := by omega
 refine qY S (y_move S rfl) ?_; clear S a; intro a S
 refine qY S (y_lenR (E := 130) S rfl ((M.frs hv).1) (by kernel_rfl)) ?_; clear S a; intro a S
 refine qG [1] S ?_; clear S a; intro a S
 refine nxC (wp_block (wp_loop_g (fun m a w' => ∃ (k : Nat), k ≤ fs.length ∧ m = fs.length - k ∧ Sees 71 a [(0, v), (4, v'), (7, v2), (55, v), (56, .int .i64 (fs.length : Nat)), (57, .int .i64 (k : Int))] ∧ Mem w w' [.own lo2 hi2 (fun w => FrsC cs2 lo2 hi2 w v2 (cutR (outF fs) f0.seq f0.inc)), rowE lo hi 5 1 v' (outF fs).length (bcells (outF fs))] ∧ ∀ i, i < k → fs[i]? = (cutR (outF fs) f0.seq f0.inc)[i]?) (fs.length) ?_ ?_))
 ·skip
  exact ⟨0, Nat.zero_le _, rfl, S.sub _ rfl, M, fun i hi => by omega⟩
 clear S M a; intro m a wl
 rintro ⟨k, hk, rfl, S, M, hsame⟩
 refine nxD (qG [1] S ?_); clear S a; intro a S
 refine nxC (wp_seq (st_fi (t := 58) S rfl ?_ ?_))
 ·clear S; intro h58 S
  refine st_condF S rfl (wp_exit (then_exit (then_exit (block_hit (nxE (qG [1, 1, 1] S ?_)))))); clear S a; intro a S
  refine nxC (wp_ret (end_two S rfl (res_tmp rfl) (res_tmp rfl) ?_))
  obtain rfl : k = fs.length := by omega
  have hjo : joinOk fs := by
   obtain ⟨x, r, e⟩ : ∃ x r, fs = x :: r := by cases fs with | nil => simp at hx0 | cons x r => exact ⟨x, r, rfl⟩
   have e0 : x = (f0, bs0) := by rw [e] at hx0; simpa using hx0
   refine ⟨f0, bs0, r, by rw [e, e0], by omega, hmay, hc0, ?_⟩
   unfold cutR at hsame hlen
   rw [if_pos hc0] at hsame hlen
   apply List.ext_getElem?
   intro i
   rcases Nat.lt_or_ge i fs.length with h | h
   ·exact (hsame i h).symm
   ·rw [List.getElem?_eq_none h, List.getElem?_eq_none (by omega)]
  exact ⟨_, by unfold joinE; rw [if_pos hjo], M.below, fun _ => M.fresh 1 rfl, fun h => absurd hjo h⟩
 clear S; intro h58 S
 refine st_condT S rfl (wp_skip (then_normal (wp_seq (wp_block (nxD ?_)))))
 have hk' : k < fs.length := by omega
 obtain ⟨⟨f, bs⟩, hx⟩ : ∃ x, fs[k]? = some x := ⟨fs[k], List.getElem?_eq_getElem hk'⟩
 obtain ⟨lv, hrow, hlv⟩ := hv.2 k f bs hx
 obtain ⟨ad, cap, hlvE, -, -⟩ := hlv.form
 subst hlvE
 obtain ⟨⟨g, gs⟩, hx2⟩ : ∃ x, (cutR (outF fs) f0.seq f0.inc)[k]? = some x := ⟨_, List.getElem?_eq_getElem (by omega)⟩
 obtain ⟨lv2, hrow2, hlv2⟩ := (M.own 0 rfl).2 k g gs hx2
 refine qY S (y_move S rfl) ?_; clear S a; intro a S
 refine qY S (y_indexR (e := 130) (sz := 6) S (by kernel_rfl) rfl ((M.frs hv).1) rfl (by first | omega | (simp; done) | (simp; omega))) ?_; clear S a; intro a S
 try simp only [Int.toNat_natCast, Nat.mul_one, Nat.zero_add] at S
 refine qY S (y_loadAgg S (by kernel_rfl) rfl rfl (((M.frs hv).row hx hrow).1)) ?_; clear S a; intro a S
 refine st_alloc S M rfl rfl #[.int .i64 0, .int .i64 0, .int .i64 0, .int .i64 0, .int .u32 0, .slice none 0 0] (by kernel_rfl) ?_; clear S M a; intro a w7 b2 S M hB
 refine qG [1] S ?_; clear S a; intro a S
 refine qS (sz := 6) (us := [_, _, _, _, _, _]) S M 0 ?_; clear M; intro w8 M
 refine nxC (wp_seq (wp_quiet M (by kernel_rfl) (by kernel_rfl) ?_))
 refine qt_y S rfl rfl rfl (fun w M => y_loadAgg (cs := [_, _, _, _, _, _]) S (by kernel_rfl) rfl rfl (M.cellsAt (k := 6) 0 rfl rfl)) ?_; clear S a; intro a S
 refine qt_y S rfl rfl rfl (fun w M => y_move S rfl) ?_; clear S a; intro a S
 refine qt_y S rfl rfl rfl (fun w M => y_move S rfl) ?_; clear S a; intro a S
 refine qt_y S rfl rfl rfl (fun w M => y_indexR (e := 130) (sz := 6) S (by kernel_rfl) rfl ((M.own 1 rfl).1) rfl (by first | omega | (simp; done) | (simp; omega))) ?_; clear S a; intro a S
 try simp only [Int.toNat_natCast, Nat.mul_one, Nat.zero_add] at S
 refine qt_y S rfl rfl rfl (fun w M => y_loadAgg S (by kernel_rfl) rfl rfl (((M.own 1 rfl).row hx2 hrow2).1)) ?_; clear S a; intro a S
 refine qt_call (xs := [.tmp 62, .tmp 66]) S (enters_of Tryz.func162 (by decide) rfl) rfl rfl rfl (quiet_of fun w M => sameF_any f g _ _ bs gs w (((M.frs hv).row hx hrow).2.wide (Nat.le_refl _) M.below.size) (((M.own 1 rfl).row hx2 hrow2).2.wide (Nat.zero_le _) (M.fits _ (List.mem_of_getElem? (show _[1]? = _ from rfl))).2)) ?_; clear S a; intro a S
 refine qt_y S rfl rfl rfl (fun w M => y_not S rfl) ?_; clear S a; intro a S
 refine wpQuiet_nil ?_; clear M; intro w10 M
 refine then_normal (st_fi (t := 68) S rfl ?_ ?_)
 ·clear S; intro h68 S
  refine st_condF S rfl (wp_skip (block_normal (nxF ?_)))
  (first | refine qY S (y_addN S rfl rfl (by omega)) ?_ | refine qY S (y_int S rfl rfl rfl) ?_); clear S a; intro a S
  refine qG [1] S ?_; clear S a; intro a S
  refine nxC ?_
  refine ⟨fs.length - (k + 1), by omega, k + 1, by omega, rfl, S.sub _ rfl, M.drop 0, ?_⟩
  intro i hi'
  rcases Nat.lt_or_ge i k with h | h
  ·exact hsame i h
  ·have : i = k := by omega
   subst this
   have h68' : f.same g bs gs = true := by simpa using h68
   obtain ⟨rfl, rfl⟩ := Fr.same_iff.1 h68'
   rw [hx, hx2]
 clear S; intro h68 S
 refine st_condT S rfl (nxD (qG [1, 1] S ?_)); clear S a; intro a S
 refine nxC (wp_ret (block_ret (then_ret (then_ret (block_ret (then_ret (end_two S rfl (res_tmp rfl) (res_tmp rfl) ?_)))))))
 exact joinPost_no M (by
  rintro ⟨f', bs', r, e, h2, h3, h4, h5⟩
  have e1 : f' = f0 := by rw [e] at hx0; simp at hx0; exact hx0.1
  subst e1
  unfold cutR at hx2
  rw [if_pos h4, h5, hx] at hx2
  have e2 := Option.some.inj hx2
  have : f.same g bs gs = true := Fr.same_iff.2 ⟨congrArg Prod.fst e2, congrArg Prod.snd e2⟩
  rw [this] at h68; simp at h68)
end Go.Proofs.YtodfphphidhjbaaGreat
namespace Go.Proofs.YtodfphphidhjbaaGreat
open Go.RowKit Go.Sort
theorem number_any (v : Value) (bs : List UInt8) (at_ k : Int) (w : World) (hv : Bs 0 w.heap.size w v bs) (hk : -9223372036854775808 ≤ k) : Calls Tryz.prog 144 #[v, .int .i64 at_, .int .i64 k] w fun e w' => e = .returned (.int .i64 (getN bs at_ k)) ∧ Below w.heap.size w w' := by
 have M := Mem.start w
 refine calls_enter Tryz.func144 rfl 17 rfl rfl ?_; intro a S
 refine nxD (qG [1] S ?_); clear S a; intro a S
 refine nxA (qG [1, 1, 1] S ?_); clear S a; intro a S
 refine qQ (xs := [.tmp 10, .tmp 11, .tmp 12]) S (qE Tryz.func97) rfl (get_any v bs at_ k _ (M.argW hv) hk) M ?_; clear S M a; intro a w1 S hK M
 refine qG [1, 1, 1, 1, 1] S ?_; clear S a; intro a S
 refine nxA (qG [1, 1] S ?_); clear S a; intro a S
 refine nxC (wp_ret (end_one S rfl (res_tmp rfl) ?_))
 exact ⟨rfl, M.below⟩
def fiveN (f : Fr) (l : Nat) : List (Int × Nat) := [(f.seq, 6), (f.inc, 3), (16 * f.part + f.of, 1), ((l : Int), 1), ((f.mark.toNat : Int), 4)]
def five (f : Fr) (l : Nat) (k : Nat) : List UInt8 := ((fiveN f l).take k).flatMap fun x => leB x.1 x.2
def padL (ld : List UInt8) : List UInt8 := ld ++ List.replicate (45 - ld.length) 0
def bytesF (f : Fr) (ld : List UInt8) : List UInt8 := sealB (five f ld.length 5 ++ padL ld)
def arr5 (f : Fr) (l : Nat) : List Value := [.int .i64 f.seq, .int .i64 6, .int .i64 f.inc, .int .i64 3, .int .i64 (16 * f.part + f.of), .int .i64 1, .int .i64 (l : Int), .int .i64 1, .int .i64 (f.mark.toNat : Int), .int .i64 4]
def BytesPost (f : Fr) (ld : List UInt8) (w : World) (e : Ending) (w' : World) : Prop :=
 ∃ v', e = .returned (.tuple #[v', .int .i64 (if f.may ld.length then 0 else 2)]) ∧ Below w.heap.size w w' ∧ (f.may ld.length = true → Fresh w w' 5 1 v' (bytesF f ld).length (bcells (bytesF f ld))) ∧ (f.may ld.length = false → v' = .slice none 0 0)
theorem pad_cells (ld : List UInt8) : (List.replicate 45 (Value.int .u8 0)).take 0 ++ bcells ld ++ (List.replicate 45 (Value.int .u8 0)).drop (0 + ld.length) = bcells (padL ld) := by
 rw [List.take_zero, List.nil_append, Nat.zero_add, List.drop_replicate, padL, bcells_append]
 congr 1
 unfold bcells; rw [List.map_replicate]; rfl
theorem padL_length {ld : List UInt8} (h : ld.length ≤ 45) : (padL ld).length = 45 := by rw [padL, List.length_append, List.length_replicate]; omega
theorem five_elem (f : Fr) (l k : Nat) (h : k < 5) : ∃ x, (fiveN f l)[k]? = some x ∧ cutL (arr5 f l) (k * 2) 2 = some [.int .i64 x.1, .int .i64 (x.2 : Int)] := by
 match k, h with
 | 0, _ => exact ⟨_, rfl, rfl⟩
 | 1, _ => exact ⟨_, rfl, rfl⟩
 | 2, _ => exact ⟨_, rfl, rfl⟩
 | 3, _ => exact ⟨_, rfl, rfl⟩
 | 4, _ => exact ⟨_, rfl, rfl⟩
theorem five_fits {f : Fr} {l k : Nat} {x : Int × Nat} (hm : f.may l = true) (h : (fiveN f l)[k]? = some x) : fitsP x.1 (x.2 : Int) := by
 simp only [Fr.may, decide_eq_true_eq] at hm
 have hmk := f.mark.isLt
 match k, h with
 | 0, h => simp [fiveN] at h; subst h; simp [fitsP]; omega
 | 1, h => simp [fiveN] at h; subst h; simp [fitsP]; omega
 | 2, h => simp [fiveN] at h; subst h; simp [fitsP]; omega
 | 3, h => simp [fiveN] at h; subst h; simp [fitsP]; omega
 | 4, h => simp [fiveN] at h; subst h; simp [fitsP]; omega
 | k + 5, h => simp [fiveN] at h
theorem five_succ {f : Fr} {l k : Nat} {x : Int × Nat} (h : (fiveN f l)[k]? = some x) : five f l (k + 1) = five f l k ++ leB x.1 x.2 := by
 obtain ⟨hlt, he⟩ := List.getElem?_eq_some_iff.1 h
 unfold five
 rw [List.take_succ_eq_append_getElem hlt, List.flatMap_append, he]; simp
theorem five_len (f : Fr) (l k : Nat) : (five f l k).length ≤ 15 := by
 unfold five
 match k with
 | 0 => simp
 | 1 => simp [fiveN, leB_length]
 | 2 => simp [fiveN, leB_length]
 | 3 => simp [fiveN, leB_length]
 | 4 => simp [fiveN, leB_length]
 | k + 5 => simp [fiveN, leB_length]
set_option maxHeartbeats 1000000 in
theorem bytes_any (f : Fr) (lv : Value) (ld : List UInt8) (w : World) (hv : Bs 0 w.heap.size w lv ld) : Calls Tryz.prog 146 #[.agg (f.cells lv).toArray] w (BytesPost f ld w) := by
 obtain ⟨ad, cap, rfl, -, -⟩ := hv.form
 have M := Mem.start w
 refine calls_enter Tryz.func146 rfl 59 rfl rfl ?_; intro a S
 refine nxD (st_box S M rfl rfl rfl #[_, _, _, _, _, _] rfl ?_); clear S M a; intro a w1 b1 S M hB
 refine qG [1, 1] S ?_; clear S a; intro a S
 refine nxC (wp_seq (nxD (qY S (y_loadAgg (cs := [_, _, _, _, _, _]) S (by kernel_rfl) rfl rfl (M.cellsAt (k := 6) 0 rfl rfl)) ?_))); clear S a; intro a S
 refine qQ (xs := [.tmp 11]) S (qE Tryz.func160) rfl (mayF_any f ad ld.length cap _) M ?_; clear S M a; intro a w2 S hK M
 refine qG [1] S ?_; clear S a; intro a S
 refine nxC (st_split (t := 13) S rfl ?_ ?_)
 ·clear S; intro h13 S
  refine st_condT S rfl (nxD (qG [1, 1] S ?_)); clear S a; intro a S
  refine nxC (wp_ret (then_ret (end_two S rfl (res_tmp rfl) (res_tmp rfl) ?_)))
  have hm : f.may ld.length = false := by simpa using h13
  exact ⟨_, by rw [hm]; rfl, M.below, fun h => absurd h (by simp [hm]), fun _ => rfl⟩
 clear S; intro h13 S
 refine st_condF S rfl (wp_skip (nxE ?_))
 have hm : f.may ld.length = true := by simpa using h13
 have hm' := hm
 simp only [Fr.may, decide_eq_true_eq] at hm'
 refine st_alloc S M rfl rfl #[.int .u8 0, .int .u8 0, .int .u8 0, .int .u8 0, .int .u8 0, .int .u8 0, .int .u8 0, .int .u8 0, .int .u8 0, .int .u8 0, .int .u8 0, .int .u8 0, .int .u8 0, .int .u8 0, .int .u8 0, .int .u8 0, .int .u8 0, .int .u8 0, .int .u8 0, .int .u8 0, .int .u8 0, .int .u8 0, .int .u8 0, .int .u8 0, .int .u8 0, .int .u8 0, .int .u8 0, .int .u8 0, .int .u8 0, .int .u8 0, .int .u8 0, .int .u8 0, .int .u8 0, .int .u8 0, .int .u8 0, .int .u8 0, .int .u8 0, .int .u8 0, .int .u8 0, .int .u8 0, .int .u8 0, .int .u8 0, .int .u8 0, .int .u8 0, .int .u8 0] (by kernel_rfl) ?_; clear S M a; intro a w3 b2 S M hB
 refine nxC (wp_seq (wp_regionK [3] #[false, false, false, false, false] rfl M (by kernel_rfl) ?_)); clear M; intro w4 M
 refine k_pure 0 S rfl (fun w => y_sliceA (m := 45) (sz := 1) S (by kernel_rfl) rfl) ?_; clear S a; intro a S
 refine k_pure 1 S rfl (fun w => y_fieldAddr (k := 5) S (by kernel_rfl) rfl) ?_; clear S a; intro a S
 refine k_read 2 S rfl (fun w hW => have M := M.grow hW; y_load S (by kernel_rfl) rfl (M.cell 1 rfl rfl)) ?_; clear S a; intro a S
 refine k_one 3 rfl (by kernel_rfl) ?_
 refine st_copy (e := 5) (us := bcells ld) S M 0 rfl rfl (by kernel_rfl) rfl rfl rfl (M.arg hv) (List.take_of_length_le (by simp [bcells]; omega)) (allOne_bcells _) (by simp [bcells]; omega) ?_; clear S M a; intro a w5 S M
 simp only [List.set_cons_zero, List.set_cons_succ] at M
 refine wpList_nil ?_; refine then_normal ?_; refine ⟨fun h => absurd h (by decide), ?_⟩
 refine k_pure 4 S rfl (fun w => y_assign S rfl) ?_; clear S a; intro a S
 refine k_end (by kernel_rfl) ?_
 refine nxE ?_
 rw [bcells_length] at S M
 have M0 := M
 replace M : Mem w w5 [.blk b2 (bcells (padL ld)).toArray 213, .blk b1 (f.cells (.slice ad ld.length cap)).toArray 130] := by rw [← pad_cells]; exact M0
 clear M0
 refine st_make (e := 5) (sz := 1) (by_ := 1) (zc := [.int .u8 0]) S M rfl rfl (by kernel_rfl) rfl rfl (by omega) (by omega) (by omega) (by omega) ?_; clear S M a; intro a w6 b3 S M hB
 try simp only [Int.toNat_natCast, Int.reduceToNat, Nat.reduceMul] at S M
 refine qG [1] S ?_; clear S a; intro a S
 refine nxC (wp_seq (nxD ?_))
 replace M := M.toRow (sz := 1) (m := 0) (cap := 60) (xs := []) 0 rfl rfl (by omega) (by unfold maxLen; omega) (by simp [madeL_length]) (by simp)
 have hmk := f.mark.isLt
 refine qY S (y_fieldAddr (k := 0) S (by kernel_rfl) rfl) ?_; clear S a; intro a S
 refine qR [3] S M ?_; clear S a; intro a S
 refine qY S (y_build (ps := [(0, .tmp 20), (1, .const (.int .i64 6))]) (pl := [(0, 1), (1, 1)]) (z := [.int .i64 0, .int .i64 0]) (cs := [_, _]) S (by kernel_rfl) rfl (rfl)) ?_; clear S a; intro a S
 refine qR [2, 3] S M ?_; clear S a; intro a S
 refine qY S (y_build (ps := [(0, .tmp 23), (1, .const (.int .i64 3))]) (pl := [(0, 1), (1, 1)]) (z := [.int .i64 0, .int .i64 0]) (cs := [_, _]) S (by kernel_rfl) rfl (rfl)) ?_; clear S a; intro a S
 refine qR [3, 3] S M ?_; clear S a; intro a S
 (first | refine qY S (y_mulN S rfl rfl (by omega)) ?_ | refine qY S (y_int S rfl rfl rfl) ?_); clear S a; intro a S
 refine qR [4, 3] S M ?_; clear S a; intro a S
 (first | refine qY S (y_addN S rfl rfl (by omega)) ?_ | refine qY S (y_int S rfl rfl rfl) ?_); clear S a; intro a S
 refine qY S (y_build (ps := [(0, .tmp 30), (1, .const (.int .i64 1))]) (pl := [(0, 1), (1, 1)]) (z := [.int .i64 0, .int .i64 0]) (cs := [_, _]) S (by kernel_rfl) rfl (rfl)) ?_; clear S a; intro a S
 refine qG [1] S ?_; clear S a; intro a S
 refine qY S (y_build (ps := [(0, .tmp 32), (1, .const (.int .i64 1))]) (pl := [(0, 1), (1, 1)]) (z := [.int .i64 0, .int .i64 0]) (cs := [_, _]) S (by kernel_rfl) rfl (rfl)) ?_; clear S a; intro a S
 refine qR [5, 3] S M ?_; clear S a; intro a S
 (first | refine qY S (y_to64 S rfl (by kernel_rfl) (by kernel_rfl) (by omega)) ?_ | refine qY S (y_conv (k' := .i64) S rfl (by kernel_rfl) (by kernel_rfl)) ?_); clear S a; intro a S
 refine qY S (y_build (ps := [(0, .tmp 36), (1, .const (.int .i64 4))]) (pl := [(0, 1), (1, 1)]) (z := [.int .i64 0, .int .i64 0]) (cs := [_, _]) S (by kernel_rfl) rfl (rfl)) ?_; clear S a; intro a S
 refine qY S (y_buildA (ps := [(0, .tmp 21), (1, .tmp 24), (2, .tmp 31), (3, .tmp 33), (4, .tmp 37)]) (sz := 2) (z := [.int .i64 0, .int .i64 0, .int .i64 0, .int .i64 0, .int .i64 0, .int .i64 0, .int .i64 0, .int .i64 0, .int .i64 0, .int .i64 0]) (cs := [_, _, _, _, _, _, _, _, _, _]) S (by kernel_rfl) rfl rfl) ?_; clear S a; intro a S
 refine qG [1] S ?_; clear S a; intro a S
 replace S := S.keep [0, 1, 2, 3, 13, 4, 5, 6, 38, 39]
 refine nxC (wp_block (wp_loop_g (fun m a w' => ∃ (k lo hi : Nat) (v' : Value), k ≤ 5 ∧ m = 5 - k ∧ Sees 59 a [(4, .pointer (some ⟨b2, 0, none⟩)), (6, v'), (38, .agg (arr5 f ld.length).toArray), (39, .int .i64 (k : Int))] ∧ Mem w w' [rowE lo hi 5 1 v' (five f ld.length k).length (bcells (five f ld.length k)), .blk b2 (bcells (padL ld)).toArray 213]) (5) ?_ ?_))
 ·skip
  exact ⟨0, _, _, _, Nat.zero_le _, rfl, S.sub _ rfl, M.drop 2⟩
 clear S M a; intro m a wl
 rintro ⟨k, lo, hi, v', hk, rfl, S, M⟩
 refine nxD (qG [1] S ?_); clear S a; intro a S
 refine nxC (wp_seq (st_fi (t := 40) S rfl ?_ ?_))
 ·clear S; intro h40 S
  refine st_condF S rfl (wp_exit (then_exit (then_exit (block_hit (nxE ?_)))))
  obtain rfl : k = 5 := by omega
  have hlen15 := five_len f ld.length 5
  refine qY S (y_move S rfl) ?_; clear S a; intro a S
  refine qY S (y_sliceA (m := 45) (sz := 1) S (by kernel_rfl) rfl) ?_; clear S a; intro a S
  have hp : Rd b2 (b2 + 1) wl 1 (.slice (some ⟨b2, 0, none⟩) 45 45) (padL ld).length (bcells (padL ld)) := by
   rw [padL_length (by omega)]
   exact Rd.of_blk (M.blk 1 rfl) (by rw [bcells_length, padL_length (by omega)]) (Nat.le_refl _) (by unfold maxLen; omega) (List.take_of_length_le (by simp [bcells_length, padL_length (show ld.length ≤ 45 by omega)]))
  have hpl := padL_length (show ld.length ≤ 45 by omega)
  refine st_append (e := 5) (sz := 1) (by_ := 1) (zc := [.int .u8 0]) S M 0 rfl rfl (by kernel_rfl) rfl (by decide) rfl rfl rfl (hp) (allOne_bcells _) (by omega) (by unfold maxLen; omega) ?_; clear S M a; intro a w10 vA loA hiA S M
  refine qC (xs := [.tmp 57]) S (qE Tryz.func163) rfl (seal_any vA (five f ld.length 5 ++ padL ld) _ (by have := (M.readRow 0 rfl (by unfold maxLen; omega)).wide (Nat.zero_le _) (M.fits _ (List.mem_of_getElem? (show _[0]? = _ from rfl))).2; unfold Bs; rw [bcells_append, List.length_append]; exact this) (by rw [List.length_append]; omega)) ?_
  rintro _ w11 ⟨v3, rfl, hF⟩; refine ⟨_, rfl, ?_⟩; clear S a; intro a S
  obtain ⟨lo3, hi3, -, M⟩ := M.pushFresh hF
  refine qG [1, 1] S ?_; clear S a; intro a S
  refine nxC (wp_ret (end_two S rfl (res_tmp rfl) (res_tmp rfl) ?_))
  exact ⟨_, by rw [hm]; rfl, M.below, fun _ => M.fresh 0 rfl, fun h => absurd hm (by simp [h])⟩
 clear S; intro h40 S
 refine st_condT S rfl (wp_skip (then_normal (wp_seq (wp_block (nxD ?_)))))
 have hk5 : k < 5 := by omega
 obtain ⟨⟨xn, xk⟩, hx, hxc⟩ := five_elem f ld.length k hk5
 have hfit := five_fits hm hx
 have hlen15 := five_len f ld.length k
 refine qY S (y_indexV (m := 5) (sz := 2) (k := 2) (es := [_, _]) S (by kernel_rfl) (fun e he => by cases he.symm.trans (show _ = some (.array 5 214) by kernel_rfl); kernel_rfl) rfl rfl (by first | omega | (simp; done) | (simp; omega)) (hxc)) ?_; clear S a; intro a S
 refine st_alloc S M rfl rfl #[.int .i64 0, .int .i64 0] (by kernel_rfl) ?_; clear S M a; intro a w7 b4 S M hB
 refine qS (sz := 2) (us := [_, _]) S M 0 ?_; clear M; intro w8 M
 refine nxA (qR [1, 1, 1, 2, 1] S M ?_); clear S a; intro a S
 refine qC (xs := [.tmp 43, .tmp 45, .tmp 47]) S (qE Tryz.func156) rfl (put_any v' (five f ld.length k) xn (xk : Int) _ ((M.readRow 1 rfl (by unfold maxLen; omega)).wide (Nat.zero_le _) (M.fits _ (List.mem_of_getElem? (show _[1]? = _ from rfl))).2) (by omega)) ?_
 rintro _ w9 ⟨v2, rfl, hK, hF, -⟩; refine ⟨_, rfl, ?_⟩; clear S a; intro a S
 replace hF := hF hfit
 obtain ⟨lo2, hi2, -, M⟩ := M.pushFresh hF
 rw [show putE xn (xk : Int) = 0 from by unfold putE; rw [if_pos hfit]] at S
 refine qG [1, 1, 1, 1, 1] S ?_; clear S a; intro a S
 refine nxC (wp_seq (nxD (qG [1, 1] S ?_))); clear S a; intro a S
 refine nxC (st_if (t := 52) S rfl ?_ ?_)
 ·clear S; intro h52 S
  exact absurd rfl h52
 clear S; intro h52 S
 refine st_condF S rfl (wp_skip (nxF (qG [1, 1] S ?_))); clear S a; intro a S
 refine wpList_nil (block_normal (nxF ?_))
 (first | refine qY S (y_addN S rfl rfl (by omega)) ?_ | refine qY S (y_int S rfl rfl rfl) ?_); clear S a; intro a S
 refine qG [1] S ?_; clear S a; intro a S
 replace S := S.keep [4, 38, 40, 8, 9, 10, 52, 6, 39]
 refine nxC ?_
 replace M := M.drop 1
 simp only [List.eraseIdx_cons_succ, List.eraseIdx_cons_zero] at M
 replace M := M.drop 1
 simp only [List.eraseIdx_cons_succ, List.eraseIdx_cons_zero] at M
 refine ⟨5 - (k + 1), by omega, k + 1, lo2, hi2, v2, by omega, rfl, S.sub _ rfl, ?_⟩
 rw [five_succ hx]
 rw [Int.toNat_natCast] at M
 exact M
end Go.Proofs.YtodfphphidhjbaaGreat
namespace Go.Proofs.YtodfphphidhjbaaGreat
open Go.RowKit Go.Sort
def frIn (x : List UInt8) : Fr := ⟨getN x 0 6, getN x 6 3, getN x 9 1 / 16, getN x 9 1 % 16, BitVec.ofInt 32 (getN x 11 4)⟩
def ldIn (x : List UInt8) : List UInt8 := (x.drop 15).take (getN x 10 1).toNat
open Classical in
noncomputable def readF (bs : List UInt8) : Option (Fr × List UInt8) :=
 if bs.length = 64 ∧ openOk bs ∧ getN (bs.take 60) 10 1 ≤ 45 ∧ (frIn (bs.take 60)).may (ldIn (bs.take 60)).length = true ∧ bytesF (frIn (bs.take 60)) (ldIn (bs.take 60)) = bs then some (frIn (bs.take 60), ldIn (bs.take 60)) else none
def zeroFr : Fr := ⟨0, 0, 0, 0, 0#32⟩
theorem getN_bd (x : List UInt8) (i k : Int) (hk : k ≤ 6) : 0 ≤ getN x i k ∧ getN x i k ≤ 281474976710655 := by
 unfold getN
 split
 ·rename_i h
  have h1 := leN_lt ((x.drop i.toNat).take k.toNat)
  have h2 : 256 ^ ((x.drop i.toNat).take k.toNat).length ≤ 256 ^ 6 := Nat.pow_le_pow_right (by omega) (by rw [List.length_take]; omega)
  omega
 ·omega
theorem getN_bd1 (x : List UInt8) (i : Int) : getN x i 1 ≤ 255 := by
 unfold getN
 split
 ·have h1 := leN_lt ((x.drop i.toNat).take (1 : Int).toNat)
  have h2 : 256 ^ ((x.drop i.toNat).take (1 : Int).toNat).length ≤ 256 ^ 1 := Nat.pow_le_pow_right (by omega) (by rw [List.length_take]; exact Nat.min_le_left _ _)
  omega
 ·omega
theorem five5_length (f : Fr) (l : Nat) : (five f l 5).length = 15 := by simp [five, fiveN, leB_length]
theorem bytesF_length {f : Fr} {ld : List UInt8} (h : f.may ld.length = true) : (bytesF f ld).length = 64 := by
 simp only [Fr.may, decide_eq_true_eq] at h
 simp only [bytesF, sealB, List.length_append, five5_length, padL_length (show ld.length ≤ 45 by omega), sum4, List.length_cons, List.length_nil]
def ReadPost (bs : List UInt8) (w : World) (e : Ending) (w' : World) : Prop :=
 ∃ f lv E, e = .returned (.tuple #[.agg (Fr.cells f lv).toArray, .int .i64 E]) ∧ Below w.heap.size w w' ∧ (∀ g ld, readF bs = some (g, ld) → f = g ∧ E = 0 ∧ Fresh w w' 5 1 lv ld.length (bcells ld)) ∧ (readF bs = none → f = zeroFr ∧ lv = .slice none 0 0 ∧ E = 40)
theorem readPost_no {bs : List UInt8} {w w' : World} {H : List Ent} (M : Mem w w' H) (h : readF bs = none) : ReadPost bs w (.returned (.tuple #[.agg (zeroFr.cells (.slice none 0 0)).toArray, .int .i64 40])) w' :=
 ⟨zeroFr, _, _, rfl, M.below, (fun g ld h' => by rw [h] at h'; cases h'), fun _ => ⟨rfl, rfl, rfl⟩⟩
set_option maxHeartbeats 2000000 in
theorem read_any (v : Value) (bs : List UInt8) (w : World) (hv : Bs 0 w.heap.size w v bs) (hb : bs.length ≤ 1000) : Calls Tryz.prog 104 #[v] w (ReadPost bs w) := by
 have M := Mem.start w
 refine calls_enter Tryz.func104 rfl 64 rfl rfl ?_; intro a S
 refine nxD (st_alloc S M rfl rfl #[.int .i64 0, .int .i64 0, .int .i64 0, .int .i64 0, .int .u32 0, .slice none 0 0] (by kernel_rfl) ?_); clear S M a; intro a w1 b1 S M hB
 refine qG [1] S ?_; clear S a; intro a S
 refine nxC (wp_seq (nxD (qG [1] S ?_))); clear S a; intro a S
 refine qY S (y_lenR (E := 5) S rfl (M.arg hv) (by kernel_rfl)) ?_; clear S a; intro a S
 refine qG [1] S ?_; clear S a; intro a S
 refine nxC (st_if (t := 13) S rfl ?_ ?_)
 ·clear S; intro h13 S
  refine st_condT S rfl (nxD (qY S (y_build (ps := []) (pl := [(0, 1), (1, 1), (2, 1), (3, 1), (4, 1), (5, 1)]) (z := [.int .i64 0, .int .i64 0, .int .i64 0, .int .i64 0, .int .u32 0, .slice none 0 0]) (cs := [_, _, _, _, _, _]) S (by kernel_rfl) rfl (rfl)) ?_)); clear S a; intro a S
  refine qS (sz := 6) (us := [_, _, _, _, _, _]) S M 0 ?_; clear M; intro w2 M
  refine qG [1] S ?_; clear S a; intro a S
  refine nxC (wp_ret (then_ret (end_two S rfl (res_agg (cs := [_, _, _, _, _, _]) (by kernel_rfl) rfl rfl (M.cellsAt (k := 6) 0 rfl rfl)) (res_tmp rfl) ?_)))
  exact readPost_no M (by unfold readF; rw [if_neg]; rintro ⟨h, _⟩; omega)
 clear S; intro h13 S
 refine st_condF S rfl (wp_skip (nxE (qG [1] S ?_))); clear S a; intro a S
 refine qC (xs := [.tmp 16]) S (qE Tryz.func99) rfl (open_any v bs _ (M.argW hv) (by omega)) ?_
 rintro _ w3 ⟨v4, rfl, hK, hO, hN⟩; refine ⟨_, rfl, ?_⟩; clear S a; intro a S
 obtain ⟨loI, hiI, -, M⟩ := M.pushFresh (fresh_if hK hO hN)
 refine qG [1, 1, 1, 1, 1] S ?_; clear S a; intro a S
 refine nxC (wp_seq (nxD (qG [1, 1] S ?_))); clear S a; intro a S
 refine nxC (st_split (t := 21) S rfl ?_ ?_)
 ·clear S; intro h21 S
  refine st_condT S rfl (nxD (qY S (y_build (ps := []) (pl := [(0, 1), (1, 1), (2, 1), (3, 1), (4, 1), (5, 1)]) (z := [.int .i64 0, .int .i64 0, .int .i64 0, .int .i64 0, .int .u32 0, .slice none 0 0]) (cs := [_, _, _, _, _, _]) S (by kernel_rfl) rfl (rfl)) ?_)); clear S a; intro a S
  refine qS (sz := 6) (us := [_, _, _, _, _, _]) S M 1 ?_; clear M; intro w4 M
  refine qG [1] S ?_; clear S a; intro a S
  refine nxC (wp_ret (then_ret (end_two S rfl (res_agg (cs := [_, _, _, _, _, _]) (by kernel_rfl) rfl rfl (M.cellsAt (k := 6) 1 rfl rfl)) (res_tmp rfl) ?_)))
  exact readPost_no M (by unfold readF; rw [if_neg]; rintro ⟨_, h, _⟩; rw [openB_true h] at h21; simp at h21)
 clear S; intro h21 S
 refine st_condF S rfl (wp_skip (nxE ?_))
 have hok : openOk bs := by
  by_cases h : openOk bs
  ·exact h
  ·rw [openB_false h] at h21; simp at h21
 have h64 : bs.length = 64 := by omega
 rw [ifL_pos hok, show bs.length - 4 = 60 by omega] at M
 have hx60 : (bs.take 60).length = 60 := by rw [List.length_take]; omega
 generalize hX : bs.take 60 = X at *
 have hm60 : X.length ≤ maxLen := by rw [hx60]; unfold maxLen; omega
 have hb10 := getN_bd X 10 1 (by omega)
 have hb9 := getN_bd X 9 1 (by omega)
 have hb9' := getN_bd1 X 9
 have hl10 : (ldIn X).length = (getN X 10 1).toNat ∨ 45 < getN X 10 1 := by
  rcases Int.lt_or_le 45 (getN X 10 1) with h | h
  ·exact .inr h
  ·left; simp only [ldIn, List.length_take, List.length_drop]; omega
 refine qY S (y_move S rfl) ?_; clear S a; intro a S
 refine qQ (xs := [.tmp 23, .const (.int .i64 10), .const (.int .i64 1)]) S (qE Tryz.func144) rfl (number_any v4 X _ _ _ ((M.readRow 0 rfl hm60).wide (Nat.zero_le _) (M.fits _ (List.mem_of_getElem? (show _[0]? = _ from rfl))).2) (by omega)) M ?_; clear S M a; intro a w5 S hK M
 refine qG [1] S ?_; clear S a; intro a S
 refine nxC (wp_seq (nxD (qG [1, 1] S ?_))); clear S a; intro a S
 refine nxC (st_if (t := 26) S rfl ?_ ?_)
 ·clear S; intro h26 S
  refine st_condT S rfl (nxD (qY S (y_build (ps := []) (pl := [(0, 1), (1, 1), (2, 1), (3, 1), (4, 1), (5, 1)]) (z := [.int .i64 0, .int .i64 0, .int .i64 0, .int .i64 0, .int .u32 0, .slice none 0 0]) (cs := [_, _, _, _, _, _]) S (by kernel_rfl) rfl (rfl)) ?_)); clear S a; intro a S
  refine qS (sz := 6) (us := [_, _, _, _, _, _]) S M 1 ?_; clear M; intro w6 M
  refine qG [1] S ?_; clear S a; intro a S
  refine nxC (wp_ret (then_ret (end_two S rfl (res_agg (cs := [_, _, _, _, _, _]) (by kernel_rfl) rfl rfl (M.cellsAt (k := 6) 1 rfl rfl)) (res_tmp rfl) ?_)))
  exact readPost_no M (by unfold readF; rw [if_neg]; rintro ⟨_, _, h, _⟩; rw [hX] at h; omega)
 clear S; intro h26 S
 refine st_condF S rfl (wp_skip (nxE (qG [1] S ?_))); clear S a; intro a S
 refine qQ (xs := [.tmp 28, .const (.int .i64 9), .const (.int .i64 1)]) S (qE Tryz.func144) rfl (number_any v4 X _ _ _ ((M.readRow 0 rfl hm60).wide (Nat.zero_le _) (M.fits _ (List.mem_of_getElem? (show _[0]? = _ from rfl))).2) (by omega)) M ?_; clear S M a; intro a w7 S hK M
 refine qG [1] S ?_; clear S a; intro a S
 refine nxC (wp_cut (fun a w' => ∃ (lvv : Value) (b8 lo hi : Nat), Sees 64 a [(0, v), (2, .pointer (some ⟨b1, 0, none⟩)), (8, .pointer (some ⟨b8, 0, none⟩))] ∧ Mem w w' [.blk b8 ((frIn X).cells lvv).toArray 130, rowE lo hi 5 1 lvv (ldIn X).length (bcells (ldIn X)), .blk b1 (zeroFr.cells (.slice none 0 0)).toArray 130]) ?_ ?_)
 ·skip
  refine wp_regionK [20] #[false, false, false, false, false, false, false, false, false, false, false, false, false, false, false, false, false, false, false, false, false] rfl M (by kernel_rfl) ?_; clear M; intro w8 M
  refine k_pure 0 S rfl (fun w => y_move S rfl) ?_; clear S a; intro a S
  refine k_pure 2 S rfl (fun w => y_move S rfl) ?_; clear S a; intro a S
  refine k_pure 4 S rfl (fun w => y_move S rfl) ?_; clear S a; intro a S
  refine k_pure 5 S rfl (fun w => y_quoN S rfl rfl (by omega)) ?_; clear S a; intro a S
  refine k_pure 6 S rfl (fun w => y_move S rfl) ?_; clear S a; intro a S
  (first | refine k_pure 7 S rfl (fun w => y_remN S rfl rfl (by omega)) ?_ | refine k_pure 7 S rfl (fun w => y_remZ S rfl rfl (by omega)) ?_); clear S a; intro a S
  refine k_pure 8 S rfl (fun w => y_move S rfl) ?_; clear S a; intro a S
  refine k_pure 11 S rfl (fun w => y_move S rfl) ?_; clear S a; intro a S
  refine k_pure 12 S rfl (fun w => y_move S rfl) ?_; clear S a; intro a S
  (first | refine k_pure 13 S rfl (fun w => y_addN S rfl rfl (by omega)) ?_ | refine k_pure 13 S rfl (fun w => y_int S rfl rfl rfl) ?_); clear S a; intro a S
  refine k_pure 14 S rfl (fun w => y_move S rfl) ?_; clear S a; intro a S
  (first | refine k_pure 15 S rfl (fun w => y_addN S rfl rfl (by omega)) ?_ | refine k_pure 15 S rfl (fun w => y_int S rfl rfl rfl) ?_); clear S a; intro a S
  refine k_read 16 S rfl (fun w hW => have M := M.grow hW; y_slice3R (e := 5) (sz := 1) S (by kernel_rfl) rfl ((M.readRow 0 rfl hm60)) rfl rfl rfl (by first | omega | (simp; done) | (simp; omega))) ?_; clear S a; intro a S
  refine k_two 1 19 rfl rfl (by kernel_rfl) ?_ ?_
  ·skip
   refine qQ (xs := [.tmp 30, .const (.int .i64 0), .const (.int .i64 6)]) S (qE Tryz.func144) rfl (number_any v4 X _ _ _ ((M.readRow 0 rfl hm60).wide (Nat.zero_le _) (M.fits _ (List.mem_of_getElem? (show _[0]? = _ from rfl))).2) (by omega)) M ?_; clear S M a; intro a w9 S hK M
   refine wpList_nil ?_; refine then_normal ?_; refine ⟨fun _ => hK, ?_⟩
   refine k_two 3 19 rfl rfl (by kernel_rfl) ?_ ?_
   ·skip
    refine qQ (xs := [.tmp 32, .const (.int .i64 6), .const (.int .i64 3)]) S (qE Tryz.func144) rfl (number_any v4 X _ _ _ ((M.readRow 0 rfl hm60).wide (Nat.zero_le _) (M.fits _ (List.mem_of_getElem? (show _[0]? = _ from rfl))).2) (by omega)) M ?_; clear S M a; intro a w10 S hK M
    refine wpList_nil ?_; refine then_normal ?_; refine ⟨fun _ => hK, ?_⟩
    refine k_two 9 19 rfl rfl (by kernel_rfl) ?_ ?_
    ·skip
     refine qQ (xs := [.tmp 38, .const (.int .i64 11), .const (.int .i64 4)]) S (qE Tryz.func144) rfl (number_any v4 X _ _ _ ((M.readRow 0 rfl hm60).wide (Nat.zero_le _) (M.fits _ (List.mem_of_getElem? (show _[0]? = _ from rfl))).2) (by omega)) M ?_; clear S M a; intro a w11 S hK M
     refine wpList_nil ?_; refine then_normal ?_; refine ⟨fun _ => hK, ?_⟩
     refine k_pure 10 S rfl (fun w => y_to32 S rfl (by kernel_rfl) (by kernel_rfl)) ?_; clear S a; intro a S
     refine k_two 17 19 rfl rfl (by kernel_rfl) ?_ ?_
     ·skip
      have hC := ((M.readRow 0 rfl hm60).wide (Nat.zero_le _) (M.fits _ (List.mem_of_getElem? (show _[0]? = _ from rfl))).2).cutB (i := (15 : Int).toNat) (j := ((15 : Int) + getN X 10 1).toNat) (mx := ((15 : Int) + getN X 10 1).toNat) (by omega) (by omega) (by omega) (by have := (M.readRow 0 rfl hm60).cap; omega)
      rw [show (X.drop (15 : Int).toNat).take (((15 : Int) + getN X 10 1).toNat - (15 : Int).toNat) = ldIn X from by unfold ldIn; congr 1; omega] at hC
      refine qC (xs := [.tmp 46]) S (qE Tryz.func145) rfl (clone_any _ (ldIn X) _ hC (by omega)) ?_
      rintro _ w12 ⟨lv, rfl, hF2⟩; refine ⟨_, rfl, ?_⟩; clear S a; intro a S
      obtain ⟨adL, capL, hlvE, -, -⟩ := (hF2.rd (by unfold maxLen; omega)).form
      have hK := hF2.below
      obtain ⟨loL, hiL, -, M⟩ := M.pushFresh hF2
      subst hlvE
      refine wpList_nil ?_; refine then_normal ?_; refine ⟨fun _ => hK, ?_⟩
      refine k_pure 18 S rfl (fun w => y_build (ps := [(0, .tmp 31), (1, .tmp 33), (2, .tmp 35), (3, .tmp 37), (4, .tmp 40), (5, .tmp 47)]) (pl := [(0, 1), (1, 1), (2, 1), (3, 1), (4, 1), (5, 1)]) (z := [.int .i64 0, .int .i64 0, .int .i64 0, .int .i64 0, .int .u32 0, .slice none 0 0]) (cs := [_, _, _, _, _, _]) S (by kernel_rfl) rfl (rfl)) ?_; clear S a; intro a S
      refine k_one 19 rfl (by kernel_rfl) ?_
      refine st_alloc S M rfl rfl #[.int .i64 0, .int .i64 0, .int .i64 0, .int .i64 0, .int .u32 0, .slice none 0 0] (by kernel_rfl) ?_; clear S M a; intro a w13 bF S M hB
      refine wpList_nil ?_; refine then_normal ?_; refine ⟨fun _ => hB, ?_⟩
      refine k_one 20 rfl (by kernel_rfl) ?_
      refine qS (sz := 6) (us := [_, _, _, _, _, _]) S M 0 ?_; clear M; intro w14 M
      refine wpList_nil ?_; refine then_normal ?_; refine ⟨fun h => absurd h (by decide), ?_⟩
      refine k_end (by kernel_rfl) ?_
      replace S := S.keep [0, 2, 3, 13, 4, 5, 21, 6, 26, 7, 8]
      refine then_normal ?_
      replace M := M.ord [3, 2, 2] (by simp only [ordO, oG, oS, oE, oZ, oB] <;> rfl)
      replace M := M.sub (H' := _ :: _ :: [_]) (List.Sublist.cons_cons _ (List.Sublist.cons_cons _ (List.Sublist.cons_cons _ (List.nil_sublist _))))
      exact ⟨_, _, _, _, S.sub _ rfl, M⟩
     ·skip
      refine st_alloc S M rfl rfl #[.int .i64 0, .int .i64 0, .int .i64 0, .int .i64 0, .int .u32 0, .slice none 0 0] (by kernel_rfl) ?_; clear S M a; intro a w15 bF S M hB
      refine wpList_nil ?_; refine then_normal ?_; refine ⟨fun _ => hB, ?_⟩
      refine k_one 17 rfl (by kernel_rfl) ?_
      have hC := ((M.readRow 1 rfl hm60).wide (Nat.zero_le _) (M.fits _ (List.mem_of_getElem? (show _[1]? = _ from rfl))).2).cutB (i := (15 : Int).toNat) (j := ((15 : Int) + getN X 10 1).toNat) (mx := ((15 : Int) + getN X 10 1).toNat) (by omega) (by omega) (by omega) (by have := (M.readRow 1 rfl hm60).cap; omega)
      rw [show (X.drop (15 : Int).toNat).take (((15 : Int) + getN X 10 1).toNat - (15 : Int).toNat) = ldIn X from by unfold ldIn; congr 1; omega] at hC
      refine qC (xs := [.tmp 46]) S (qE Tryz.func145) rfl (clone_any _ (ldIn X) _ hC (by omega)) ?_
      rintro _ w16 ⟨lv, rfl, hF2⟩; refine ⟨_, rfl, ?_⟩; clear S a; intro a S
      obtain ⟨adL, capL, hlvE, -, -⟩ := (hF2.rd (by unfold maxLen; omega)).form
      have hK := hF2.below
      obtain ⟨loL, hiL, -, M⟩ := M.pushFresh hF2
      subst hlvE
      refine wpList_nil ?_; refine then_normal ?_; refine ⟨fun _ => hK, ?_⟩
      refine k_pure 18 S rfl (fun w => y_build (ps := [(0, .tmp 31), (1, .tmp 33), (2, .tmp 35), (3, .tmp 37), (4, .tmp 40), (5, .tmp 47)]) (pl := [(0, 1), (1, 1), (2, 1), (3, 1), (4, 1), (5, 1)]) (z := [.int .i64 0, .int .i64 0, .int .i64 0, .int .i64 0, .int .u32 0, .slice none 0 0]) (cs := [_, _, _, _, _, _]) S (by kernel_rfl) rfl (rfl)) ?_; clear S a; intro a S
      refine k_one 20 rfl (by kernel_rfl) ?_
      refine qS (sz := 6) (us := [_, _, _, _, _, _]) S M 1 ?_; clear M; intro w17 M
      refine wpList_nil ?_; refine then_normal ?_; refine ⟨fun h => absurd h (by decide), ?_⟩
      refine k_end (by kernel_rfl) ?_
      replace S := S.keep [0, 2, 3, 13, 4, 5, 21, 6, 26, 7, 8]
      refine then_normal ?_
      replace M := M.ord [3, 1, 2] (by simp only [ordO, oG, oS, oE, oZ, oB] <;> rfl)
      replace M := M.sub (H' := _ :: _ :: [_]) (List.Sublist.cons_cons _ (List.Sublist.cons_cons _ (List.Sublist.cons_cons _ (List.nil_sublist _))))
      exact ⟨_, _, _, _, S.sub _ rfl, M⟩
    ·skip
     refine st_alloc S M rfl rfl #[.int .i64 0, .int .i64 0, .int .i64 0, .int .i64 0, .int .u32 0, .slice none 0 0] (by kernel_rfl) ?_; clear S M a; intro a w18 bF S M hB
     refine wpList_nil ?_; refine then_normal ?_; refine ⟨fun _ => hB, ?_⟩
     refine k_one 9 rfl (by kernel_rfl) ?_
     refine qQ (xs := [.tmp 38, .const (.int .i64 11), .const (.int .i64 4)]) S (qE Tryz.func144) rfl (number_any v4 X _ _ _ ((M.readRow 1 rfl hm60).wide (Nat.zero_le _) (M.fits _ (List.mem_of_getElem? (show _[1]? = _ from rfl))).2) (by omega)) M ?_; clear S M a; intro a w19 S hK M
     refine wpList_nil ?_; refine then_normal ?_; refine ⟨fun _ => hK, ?_⟩
     refine k_pure 10 S rfl (fun w => y_to32 S rfl (by kernel_rfl) (by kernel_rfl)) ?_; clear S a; intro a S
     refine k_one 17 rfl (by kernel_rfl) ?_
     have hC := ((M.readRow 1 rfl hm60).wide (Nat.zero_le _) (M.fits _ (List.mem_of_getElem? (show _[1]? = _ from rfl))).2).cutB (i := (15 : Int).toNat) (j := ((15 : Int) + getN X 10 1).toNat) (mx := ((15 : Int) + getN X 10 1).toNat) (by omega) (by omega) (by omega) (by have := (M.readRow 1 rfl hm60).cap; omega)
     rw [show (X.drop (15 : Int).toNat).take (((15 : Int) + getN X 10 1).toNat - (15 : Int).toNat) = ldIn X from by unfold ldIn; congr 1; omega] at hC
     refine qC (xs := [.tmp 46]) S (qE Tryz.func145) rfl (clone_any _ (ldIn X) _ hC (by omega)) ?_
     rintro _ w20 ⟨lv, rfl, hF2⟩; refine ⟨_, rfl, ?_⟩; clear S a; intro a S
     obtain ⟨adL, capL, hlvE, -, -⟩ := (hF2.rd (by unfold maxLen; omega)).form
     have hK := hF2.below
     obtain ⟨loL, hiL, -, M⟩ := M.pushFresh hF2
     subst hlvE
     refine wpList_nil ?_; refine then_normal ?_; refine ⟨fun _ => hK, ?_⟩
     refine k_pure 18 S rfl (fun w => y_build (ps := [(0, .tmp 31), (1, .tmp 33), (2, .tmp 35), (3, .tmp 37), (4, .tmp 40), (5, .tmp 47)]) (pl := [(0, 1), (1, 1), (2, 1), (3, 1), (4, 1), (5, 1)]) (z := [.int .i64 0, .int .i64 0, .int .i64 0, .int .i64 0, .int .u32 0, .slice none 0 0]) (cs := [_, _, _, _, _, _]) S (by kernel_rfl) rfl (rfl)) ?_; clear S a; intro a S
     refine k_one 20 rfl (by kernel_rfl) ?_
     refine qS (sz := 6) (us := [_, _, _, _, _, _]) S M 1 ?_; clear M; intro w21 M
     refine wpList_nil ?_; refine then_normal ?_; refine ⟨fun h => absurd h (by decide), ?_⟩
     refine k_end (by kernel_rfl) ?_
     replace S := S.keep [0, 2, 3, 13, 4, 5, 21, 6, 26, 7, 8]
     refine then_normal ?_
     replace M := M.ord [3, 1, 2] (by simp only [ordO, oG, oS, oE, oZ, oB] <;> rfl)
     replace M := M.sub (H' := _ :: _ :: [_]) (List.Sublist.cons_cons _ (List.Sublist.cons_cons _ (List.Sublist.cons_cons _ (List.nil_sublist _))))
     exact ⟨_, _, _, _, S.sub _ rfl, M⟩
   ·skip
    refine st_alloc S M rfl rfl #[.int .i64 0, .int .i64 0, .int .i64 0, .int .i64 0, .int .u32 0, .slice none 0 0] (by kernel_rfl) ?_; clear S M a; intro a w22 bF S M hB
    refine wpList_nil ?_; refine then_normal ?_; refine ⟨fun _ => hB, ?_⟩
    refine k_one 3 rfl (by kernel_rfl) ?_
    refine qQ (xs := [.tmp 32, .const (.int .i64 6), .const (.int .i64 3)]) S (qE Tryz.func144) rfl (number_any v4 X _ _ _ ((M.readRow 1 rfl hm60).wide (Nat.zero_le _) (M.fits _ (List.mem_of_getElem? (show _[1]? = _ from rfl))).2) (by omega)) M ?_; clear S M a; intro a w23 S hK M
    refine wpList_nil ?_; refine then_normal ?_; refine ⟨fun _ => hK, ?_⟩
    refine k_one 9 rfl (by kernel_rfl) ?_
    refine qQ (xs := [.tmp 38, .const (.int .i64 11), .const (.int .i64 4)]) S (qE Tryz.func144) rfl (number_any v4 X _ _ _ ((M.readRow 1 rfl hm60).wide (Nat.zero_le _) (M.fits _ (List.mem_of_getElem? (show _[1]? = _ from rfl))).2) (by omega)) M ?_; clear S M a; intro a w24 S hK M
    refine wpList_nil ?_; refine then_normal ?_; refine ⟨fun _ => hK, ?_⟩
    refine k_pure 10 S rfl (fun w => y_to32 S rfl (by kernel_rfl) (by kernel_rfl)) ?_; clear S a; intro a S
    refine k_one 17 rfl (by kernel_rfl) ?_
    have hC := ((M.readRow 1 rfl hm60).wide (Nat.zero_le _) (M.fits _ (List.mem_of_getElem? (show _[1]? = _ from rfl))).2).cutB (i := (15 : Int).toNat) (j := ((15 : Int) + getN X 10 1).toNat) (mx := ((15 : Int) + getN X 10 1).toNat) (by omega) (by omega) (by omega) (by have := (M.readRow 1 rfl hm60).cap; omega)
    rw [show (X.drop (15 : Int).toNat).take (((15 : Int) + getN X 10 1).toNat - (15 : Int).toNat) = ldIn X from by unfold ldIn; congr 1; omega] at hC
    refine qC (xs := [.tmp 46]) S (qE Tryz.func145) rfl (clone_any _ (ldIn X) _ hC (by omega)) ?_
    rintro _ w25 ⟨lv, rfl, hF2⟩; refine ⟨_, rfl, ?_⟩; clear S a; intro a S
    obtain ⟨adL, capL, hlvE, -, -⟩ := (hF2.rd (by unfold maxLen; omega)).form
    have hK := hF2.below
    obtain ⟨loL, hiL, -, M⟩ := M.pushFresh hF2
    subst hlvE
    refine wpList_nil ?_; refine then_normal ?_; refine ⟨fun _ => hK, ?_⟩
    refine k_pure 18 S rfl (fun w => y_build (ps := [(0, .tmp 31), (1, .tmp 33), (2, .tmp 35), (3, .tmp 37), (4, .tmp 40), (5, .tmp 47)]) (pl := [(0, 1), (1, 1), (2, 1), (3, 1), (4, 1), (5, 1)]) (z := [.int .i64 0, .int .i64 0, .int .i64 0, .int .i64 0, .int .u32 0, .slice none 0 0]) (cs := [_, _, _, _, _, _]) S (by kernel_rfl) rfl (rfl)) ?_; clear S a; intro a S
    refine k_one 20 rfl (by kernel_rfl) ?_
    refine qS (sz := 6) (us := [_, _, _, _, _, _]) S M 1 ?_; clear M; intro w26 M
    refine wpList_nil ?_; refine then_normal ?_; refine ⟨fun h => absurd h (by decide), ?_⟩
    refine k_end (by kernel_rfl) ?_
    replace S := S.keep [0, 2, 3, 13, 4, 5, 21, 6, 26, 7, 8]
    refine then_normal ?_
    replace M := M.ord [3, 1, 2] (by simp only [ordO, oG, oS, oE, oZ, oB] <;> rfl)
    replace M := M.sub (H' := _ :: _ :: [_]) (List.Sublist.cons_cons _ (List.Sublist.cons_cons _ (List.Sublist.cons_cons _ (List.nil_sublist _))))
    exact ⟨_, _, _, _, S.sub _ rfl, M⟩
  ·skip
   refine st_alloc S M rfl rfl #[.int .i64 0, .int .i64 0, .int .i64 0, .int .i64 0, .int .u32 0, .slice none 0 0] (by kernel_rfl) ?_; clear S M a; intro a w27 bF S M hB
   refine wpList_nil ?_; refine then_normal ?_; refine ⟨fun _ => hB, ?_⟩
   refine k_one 1 rfl (by kernel_rfl) ?_
   refine qQ (xs := [.tmp 30, .const (.int .i64 0), .const (.int .i64 6)]) S (qE Tryz.func144) rfl (number_any v4 X _ _ _ ((M.readRow 1 rfl hm60).wide (Nat.zero_le _) (M.fits _ (List.mem_of_getElem? (show _[1]? = _ from rfl))).2) (by omega)) M ?_; clear S M a; intro a w28 S hK M
   refine wpList_nil ?_; refine then_normal ?_; refine ⟨fun _ => hK, ?_⟩
   refine k_one 3 rfl (by kernel_rfl) ?_
   refine qQ (xs := [.tmp 32, .const (.int .i64 6), .const (.int .i64 3)]) S (qE Tryz.func144) rfl (number_any v4 X _ _ _ ((M.readRow 1 rfl hm60).wide (Nat.zero_le _) (M.fits _ (List.mem_of_getElem? (show _[1]? = _ from rfl))).2) (by omega)) M ?_; clear S M a; intro a w29 S hK M
   refine wpList_nil ?_; refine then_normal ?_; refine ⟨fun _ => hK, ?_⟩
   refine k_one 9 rfl (by kernel_rfl) ?_
   refine qQ (xs := [.tmp 38, .const (.int .i64 11), .const (.int .i64 4)]) S (qE Tryz.func144) rfl (number_any v4 X _ _ _ ((M.readRow 1 rfl hm60).wide (Nat.zero_le _) (M.fits _ (List.mem_of_getElem? (show _[1]? = _ from rfl))).2) (by omega)) M ?_; clear S M a; intro a w30 S hK M
   refine wpList_nil ?_; refine then_normal ?_; refine ⟨fun _ => hK, ?_⟩
   refine k_pure 10 S rfl (fun w => y_to32 S rfl (by kernel_rfl) (by kernel_rfl)) ?_; clear S a; intro a S
   refine k_one 17 rfl (by kernel_rfl) ?_
   have hC := ((M.readRow 1 rfl hm60).wide (Nat.zero_le _) (M.fits _ (List.mem_of_getElem? (show _[1]? = _ from rfl))).2).cutB (i := (15 : Int).toNat) (j := ((15 : Int) + getN X 10 1).toNat) (mx := ((15 : Int) + getN X 10 1).toNat) (by omega) (by omega) (by omega) (by have := (M.readRow 1 rfl hm60).cap; omega)
   rw [show (X.drop (15 : Int).toNat).take (((15 : Int) + getN X 10 1).toNat - (15 : Int).toNat) = ldIn X from by unfold ldIn; congr 1; omega] at hC
   refine qC (xs := [.tmp 46]) S (qE Tryz.func145) rfl (clone_any _ (ldIn X) _ hC (by omega)) ?_
   rintro _ w31 ⟨lv, rfl, hF2⟩; refine ⟨_, rfl, ?_⟩; clear S a; intro a S
   obtain ⟨adL, capL, hlvE, -, -⟩ := (hF2.rd (by unfold maxLen; omega)).form
   have hK := hF2.below
   obtain ⟨loL, hiL, -, M⟩ := M.pushFresh hF2
   subst hlvE
   refine wpList_nil ?_; refine then_normal ?_; refine ⟨fun _ => hK, ?_⟩
   refine k_pure 18 S rfl (fun w => y_build (ps := [(0, .tmp 31), (1, .tmp 33), (2, .tmp 35), (3, .tmp 37), (4, .tmp 40), (5, .tmp 47)]) (pl := [(0, 1), (1, 1), (2, 1), (3, 1), (4, 1), (5, 1)]) (z := [.int .i64 0, .int .i64 0, .int .i64 0, .int .i64 0, .int .u32 0, .slice none 0 0]) (cs := [_, _, _, _, _, _]) S (by kernel_rfl) rfl (rfl)) ?_; clear S a; intro a S
   refine k_one 20 rfl (by kernel_rfl) ?_
   refine qS (sz := 6) (us := [_, _, _, _, _, _]) S M 1 ?_; clear M; intro w32 M
   refine wpList_nil ?_; refine then_normal ?_; refine ⟨fun h => absurd h (by decide), ?_⟩
   refine k_end (by kernel_rfl) ?_
   replace S := S.keep [0, 2, 3, 13, 4, 5, 21, 6, 26, 7, 8]
   refine then_normal ?_
   replace M := M.ord [3, 1, 2] (by simp only [ordO, oG, oS, oE, oZ, oB] <;> rfl)
   replace M := M.sub (H' := _ :: _ :: [_]) (List.Sublist.cons_cons _ (List.Sublist.cons_cons _ (List.Sublist.cons_cons _ (List.nil_sublist _))))
   exact ⟨_, _, _, _, S.sub _ rfl, M⟩
 clear S a M; intro a wc
 rintro ⟨lvv, b8, lo, hi, S, M⟩
 obtain ⟨adV, cpV, hE, -, -⟩ := (M.readRow 1 rfl (by unfold maxLen; omega)).form
 subst hE
 refine nxD (qY S (y_loadAgg (cs := [_, _, _, _, _, _]) S (by kernel_rfl) rfl rfl (M.cellsAt (k := 6) 0 rfl rfl)) ?_); clear S a; intro a S
 have hlv := (M.readRow 1 rfl (by unfold maxLen; omega)).wide (Nat.zero_le _) (M.fits _ (List.mem_of_getElem? (show _[1]? = _ from rfl))).2
 refine qC (xs := [.tmp 50]) S (qE Tryz.func146) rfl (bytes_any (frIn X) _ (ldIn X) _ hlv) ?_
 rintro _ w33 ⟨v9, rfl, hK, hF3, hN3⟩; refine ⟨_, rfl, ?_⟩; clear S a; intro a S
 obtain ⟨lo9, hi9, -, M⟩ := M.pushFresh (fresh_if (p := (frIn X).may (ldIn X).length = true) hK hF3 (fun h => hN3 (by simpa using h)))
 refine qG [1, 1, 1, 1, 1] S ?_; clear S a; intro a S
 refine nxC (wp_seq (nxD (qG [1, 1, 1] S ?_))); clear S a; intro a S
 refine st_if (t := 56) S rfl ?_ ?_
 ·clear S; intro h56 S
  refine qG [0, 0] S ?_; clear S a; intro a S
  refine st_no S rfl rfl rfl ?_; clear S a; intro a S
  refine qG [0, 1] S ?_; clear S a; intro a S
  refine nxC (st_condT S rfl (nxD ?_))
  have hno : readF bs = none := by
   unfold readF; rw [if_neg]; rw [hX]; rintro ⟨_, _, _, h4, h5⟩
   first
    | (rw [h4] at h56; simp at h56; done)
    | (rw [h5] at h61; simp at h61)
  refine qY S (y_build (ps := []) (pl := [(0, 1), (1, 1), (2, 1), (3, 1), (4, 1), (5, 1)]) (z := [.int .i64 0, .int .i64 0, .int .i64 0, .int .i64 0, .int .u32 0, .slice none 0 0]) (cs := [_, _, _, _, _, _]) S (by kernel_rfl) rfl (rfl)) ?_; clear S a; intro a S
  refine qS (sz := 6) (us := [_, _, _, _, _, _]) S M 3 ?_; clear M; intro w34 M
  refine qG [1] S ?_; clear S a; intro a S
  refine nxC (wp_ret (then_ret (end_two S rfl (res_agg (cs := [_, _, _, _, _, _]) (by kernel_rfl) rfl rfl (M.cellsAt (k := 6) 3 rfl rfl)) (res_tmp rfl) ?_)))
  exact readPost_no M hno
 clear S; intro h56 S
 refine qG [1, 1] S ?_; clear S a; intro a S
 have hmay : (frIn X).may (ldIn X).length = true := by
  cases h : (frIn X).may (ldIn X).length
  ·rw [h] at h56; simp at h56
  ·rfl
 rw [ifL_pos hmay] at M
 refine qQ (xs := [.tmp 57, .tmp 58]) S (qE Tryz.func70) rfl (equal_any v9 v (bytesF (frIn X) (ldIn X)) bs _ ((M.readRow 0 rfl (by rw [bytesF_length hmay]; unfold maxLen; omega)).wide (Nat.zero_le _) (M.fits _ (List.mem_of_getElem? (show _[0]? = _ from rfl))).2) (M.argW hv)) M ?_; clear S M a; intro a w35 S hK M
 refine qG [1, 1] S ?_; clear S a; intro a S
 refine nxC (st_split (t := 61) S rfl ?_ ?_)
 ·clear S; intro h61 S
  refine st_condT S rfl (nxD ?_)
  have hno : readF bs = none := by
   unfold readF; rw [if_neg]; rw [hX]; rintro ⟨_, _, _, h4, h5⟩
   first
    | (rw [h4] at h56; simp at h56; done)
    | (rw [h5] at h61; simp at h61)
  refine qY S (y_build (ps := []) (pl := [(0, 1), (1, 1), (2, 1), (3, 1), (4, 1), (5, 1)]) (z := [.int .i64 0, .int .i64 0, .int .i64 0, .int .i64 0, .int .u32 0, .slice none 0 0]) (cs := [_, _, _, _, _, _]) S (by kernel_rfl) rfl (rfl)) ?_; clear S a; intro a S
  refine qS (sz := 6) (us := [_, _, _, _, _, _]) S M 3 ?_; clear M; intro w36 M
  refine qG [1] S ?_; clear S a; intro a S
  refine nxC (wp_ret (then_ret (end_two S rfl (res_agg (cs := [_, _, _, _, _, _]) (by kernel_rfl) rfl rfl (M.cellsAt (k := 6) 3 rfl rfl)) (res_tmp rfl) ?_)))
  exact readPost_no M hno
 clear S; intro h61 S
 refine st_condF S rfl (wp_skip (nxE ?_))
 have hyes : readF bs = some (frIn X, ldIn X) := by
  unfold readF; rw [hX, if_pos]
  exact ⟨h64, hok, h26, hmay, by simpa using h61⟩
 replace M := M.drop 0
 simp only [List.eraseIdx_cons_succ, List.eraseIdx_cons_zero] at M
 refine qY S (y_loadAgg (cs := [_, _, _, _, _, _]) S (by kernel_rfl) rfl rfl (M.cellsAt (k := 6) 0 rfl rfl)) ?_; clear S a; intro a S
 refine qS (sz := 6) (us := [_, _, _, _, _, _]) S M 2 ?_; clear M; intro w37 M
 refine qG [1] S ?_; clear S a; intro a S
 refine nxC (wp_ret (end_two S rfl (res_agg (cs := [_, _, _, _, _, _]) (by kernel_rfl) rfl rfl (M.cellsAt (k := 6) 2 rfl rfl)) (res_tmp rfl) ?_))
 exact ⟨frIn X, _, 0, rfl, M.below, (fun g ld' h => by
  rw [hyes] at h
  obtain ⟨rfl, rfl⟩ := Prod.mk.inj (Option.some.inj h)
  exact ⟨rfl, rfl, M.fresh 1 rfl⟩), fun h => by rw [hyes] at h; cases h⟩
end Go.Proofs.YtodfphphidhjbaaGreat

namespace Go.Proofs.YtodfphphidhjbaaGreat
open Go.RowKit Go.Sort
theorem byteOf_mod (i : Int) : byteOf (i % 256) = byteOf i := by unfold byteOf; rw [Int.emod_emod]
theorem leB_succ (n : Int) (k : Nat) : leB n (k + 1) = leB n k ++ [byteOf (n / 256 ^ k)] := by
 unfold leB; rw [List.range_succ, List.map_append]; rfl
theorem low_any {wc w : World} {H : List Ent} {lo hi : Nat} {v : Value} {xs : List UInt8} (M : Mem wc w (rowE lo hi 5 1 v xs.length (bcells xs) :: H)) (n : Int) (k : Nat) (hn : 0 ≤ n ∧ n ≤ 18446744073709551615) (hx : xs.length + k ≤ 1000000) :
 Calls Tryz.prog 94 #[v, .int .u64 n, .int .i64 (k : Int)] w fun e w' => ∃ v' lo' hi', e = .returned v' ∧ Mem wc w' (rowE lo' hi' 5 1 v' (xs ++ leB n k).length (bcells (xs ++ leB n k)) :: H) := by
 refine calls_enter Tryz.func94 rfl 22 rfl rfl ?_; intro a S
 refine wp_seq ?_
 skip
 refine wp_region_lit (qG [1] S ?_); clear S a; intro a S
 refine nxC (wp_seq (nxD (qG [1] S ?_))); clear S a; intro a S
 refine nxC (wp_block (wp_loop_g (fun m a w' => ∃ (j lo hi : Nat) (v' : Value), j ≤ k ∧ m = k - j ∧ Sees 22 a [(0, v'), (1, .int .u64 (n / 256 ^ j)), (2, .int .i64 (k : Int)), (7, .int .i64 (j : Int))] ∧ Mem wc w' (rowE lo hi 5 1 v' (xs ++ leB n j).length (bcells (xs ++ leB n j)) :: H)) (k) ?_ ?_))
 ·skip
  exact ⟨0, lo, hi, v, Nat.zero_le _, rfl, by simpa using S.sub _ rfl, by simpa [leB] using M⟩
 clear S M a; intro m a wl
 rintro ⟨j, lo, hi, v', hj, rfl, S, M⟩
 refine wp_seq (nxD (qG [1, 1, 1] S ?_)); clear S a; intro a S
 refine nxC (st_fi (t := 10) S rfl ?_ ?_)
 ·clear S; intro h10 S
  refine st_condF S rfl (wp_exit (then_exit (then_exit (block_hit (nxE (qG [1, 1] S ?_)))))); clear S a; intro a S
  refine nxC (wp_ret (end_one S rfl (res_tmp rfl) ?_))
  obtain rfl : j = k := by omega
  exact ⟨_, _, _, rfl, M⟩
 clear S; intro h10 S
 refine st_condT S rfl (wp_skip (then_normal (wp_seq (wp_block (nxD ?_)))))
 have hp : (0 : Int) < 256 ^ j := Int.pow_pos (by omega)
 have hd : 0 ≤ n / 256 ^ j ∧ n / 256 ^ j ≤ 18446744073709551615 := ⟨Int.ediv_nonneg hn.1 (by omega), Int.le_trans (Int.ediv_le_self _ hn.1) hn.2⟩
 have hlen : (xs ++ leB n j).length = xs.length + j := by rw [List.length_append, leB_length]
 refine qY S (y_move S rfl) ?_; clear S a; intro a S
 refine qG [1] S ?_; clear S a; intro a S
 refine qY S (y_andU255 S rfl rfl (by omega)) ?_; clear S a; intro a S
 refine qY S (y_to8 S rfl (by kernel_rfl) (by kernel_rfl)) ?_; clear S a; intro a S
 refine st_lit (ps := [(0, .tmp 16)]) (e := 5) (sz := 1) (zl := [.int .u8 0]) (cs := [_]) S M rfl rfl (by kernel_rfl) rfl (rfl) ?_; clear S M a; intro a w1 bD S M hB
 refine st_append (e := 5) (sz := 1) (by_ := 1) (zc := [.int .u8 0]) S M 1 rfl rfl (by kernel_rfl) rfl (by decide) rfl rfl rfl (Rd.of_blk (sz := 1) (xs := bcells [byteOf (n / 256 ^ j % 256)]) (M.blk 0 rfl) rfl (Nat.le_refl _) (by unfold maxLen; omega) rfl) (allOne_bcells _) (by omega) (by unfold maxLen; omega) ?_; clear S M a; intro a w2 vA loA hiA S M
 refine qG [1] S ?_; clear S a; intro a S
 refine nxB (qG [1] S ?_); clear S a; intro a S
 refine qY S (y_shrU (k := 8) S rfl rfl (by omega)) ?_; clear S a; intro a S
 refine qG [1] S ?_; clear S a; intro a S
 refine wpList_nil (block_normal (nxF (qG [1] S ?_))); clear S a; intro a S
 (first | refine qY S (y_addN S rfl rfl (by omega)) ?_ | refine qY S (y_int S rfl rfl rfl) ?_); clear S a; intro a S
 refine qG [1] S ?_; clear S a; intro a S
 replace S := S.keep [2, 10, 0, 1, 7]
 refine nxC ?_
 replace M := M.drop 1
 simp only [List.eraseIdx_cons_succ, List.eraseIdx_cons_zero] at M
 refine ⟨k - (j + 1), by omega, j + 1, loA, hiA, vA, by omega, rfl, ?_, ?_⟩
 ·have e : n / 256 ^ j / 2 ^ 8 = n / 256 ^ (j + 1) := by rw [Int.ediv_ediv_of_nonneg (by omega), Int.pow_succ]; rfl
  rw [← e]; exact S.sub _ rfl
 ·rw [leB_succ, ← List.append_assoc, bcells_append (xs ++ leB n j), show ∀ y, ((xs ++ leB n j) ++ [byteOf y]).length = (xs ++ leB n j).length + 1 from fun y => by rw [List.length_append]; rfl, ← byteOf_mod]
  exact M
theorem leN_cons_or {b : UInt8} {m : Nat} : m * 2 ^ 8 ||| b.toNat = b.toNat + 256 * m := by
 rw [Nat.or_comm, or_add (show b.toNat < 2 ^ 8 from UInt8.toNat_lt b)]; omega
theorem refNumber_any (v : Value) (bs : List UInt8) (w : World) (hv : Bs 0 w.heap.size w v bs) (hl : bs.length ≤ 7) : Calls Tryz.prog 117 #[v] w fun e w' => e = .returned (.int .u64 ((leN bs : Nat) : Int)) ∧ Below w.heap.size w w' := by
 have M := Mem.start w
 have hbd : ∀ j, leN (bs.drop j) < 2 ^ 56 := fun j => Nat.lt_of_lt_of_le (leN_lt _) (by rw [show (256 : Nat) = 2 ^ 8 from rfl, ← Nat.pow_mul]; exact Nat.pow_le_pow_right (by omega) (by rw [List.length_drop]; omega))
 refine calls_enter Tryz.func117 rfl 21 rfl rfl ?_; intro a S
 refine nxD (qG [1] S ?_); clear S a; intro a S
 refine nxA (qG [1] S ?_); clear S a; intro a S
 refine nxC (wp_seq (nxD (qG [1] S ?_))); clear S a; intro a S
 refine qY S (y_lenR (E := 5) S rfl (M.arg hv) (by kernel_rfl)) ?_; clear S a; intro a S
 (first | refine qY S (y_subN S rfl rfl (by omega)) ?_ | refine qY S (y_int S rfl rfl rfl) ?_); clear S a; intro a S
 refine qG [1] S ?_; clear S a; intro a S
 refine nxC (wp_block (wp_loop_g (fun m a w' => ∃ (j : Nat), j ≤ bs.length ∧ m = j ∧ Sees 21 a [(0, v), (3, .int .u64 ((leN (bs.drop j) : Nat) : Int)), (4, .int .i64 ((j : Int) - 1))] ∧ Mem w w' []) (bs.length) ?_ ?_))
 ·skip
  refine ⟨bs.length, Nat.le_refl _, rfl, ?_, M⟩
  rw [List.drop_length]; exact S.sub _ rfl
 clear S M a; intro m a wl
 rintro ⟨j, hj, rfl, S, M⟩
 refine wp_seq (nxD (qG [1, 1] S ?_)); clear S a; intro a S
 refine nxC (st_fi (t := 9) S rfl ?_ ?_)
 ·clear S; intro h9 S
  refine st_condF S rfl (wp_exit (then_exit (then_exit (block_hit (nxE (qG [1, 1] S ?_)))))); clear S a; intro a S
  refine nxC (wp_ret (end_one S rfl (res_tmp rfl) ?_))
  obtain rfl : m = 0 := by omega
  exact ⟨rfl, M.below⟩
 clear S; intro h9 S
 refine st_condT S rfl (wp_skip (then_normal (wp_seq (wp_block (wp_region_lit ?_)))))
 obtain ⟨i, rfl⟩ : ∃ i, m = i + 1 := ⟨m - 1, by omega⟩
 obtain ⟨x, hx⟩ : ∃ x, bs[i]? = some x := ⟨_, List.getElem?_eq_getElem (by omega)⟩
 have hx' : bs[(((i + 1 : Nat) : Int) - 1).toNat]? = some x := by rw [show (((i + 1 : Nat) : Int) - 1).toNat = i by omega]; exact hx
 have hx256 : x.toNat < 256 := UInt8.toNat_lt x
 have hb1 := hbd (i + 1)
 refine qY S (y_move S rfl) ?_; clear S a; intro a S
 refine qY S (y_shlU (k := 8) S rfl rfl (by omega) (by omega)) ?_; clear S a; intro a S
 refine qG [1, 1] S ?_; clear S a; intro a S
 refine qY S (y_indexR (e := 5) (sz := 1) S (by kernel_rfl) rfl (M.arg hv) rfl (by first | omega | (simp; done) | (simp; omega))) ?_; clear S a; intro a S
 try simp only [Int.toNat_natCast, Nat.mul_one, Nat.zero_add] at S
 refine qY S (y_load S (by kernel_rfl) rfl ((M.arg hv).byte hx')) ?_; clear S a; intro a S
 refine qY S (y_toU64 S rfl (by kernel_rfl) (by kernel_rfl) (by omega)) ?_; clear S a; intro a S
 rw [show ((leN (bs.drop (i + 1)) : Nat) : Int) * 2 ^ 8 = ((leN (bs.drop (i + 1)) * 2 ^ 8 : Nat) : Int) by omega] at S
 refine qY S (y_orU S rfl rfl (by omega) (by omega)) ?_; clear S a; intro a S
 refine qG [1] S ?_; clear S a; intro a S
 refine wpList_nil (block_normal (nxF (qG [1] S ?_))); clear S a; intro a S
 (first | refine qY S (y_subN S rfl rfl (by omega)) ?_ | refine qY S (y_int S rfl rfl rfl) ?_); clear S a; intro a S
 refine qG [1] S ?_; clear S a; intro a S
 refine nxC ?_
 refine ⟨i, by omega, i, by omega, rfl, ?_, M⟩
 have e : leN (bs.drop i) = leN (bs.drop (i + 1)) * 2 ^ 8 ||| x.toNat := by
  obtain ⟨hlt, he⟩ := List.getElem?_eq_some_iff.1 hx
  rw [leN_cons_or, List.drop_eq_getElem_cons hlt, he]; rfl
 rw [e, show ((i : Int) - 1) = ((i + 1 : Nat) : Int) - 1 - 1 by omega]
 exact S.sub _ rfl
theorem refMay_any (f : Fr) (ad : Option Addr) (l c : Nat) (w : World) : Calls Tryz.prog 93 #[.agg (f.cells (.slice ad l c)).toArray] w fun e w' => e = .returned (.bool (f.may l)) ∧ Below w.heap.size w w' := by
 have M := Mem.start w
 refine calls_enter Tryz.func93 rfl 67 rfl rfl ?_; intro a S
 refine nxD (st_box S M rfl rfl rfl #[_, _, _, _, _, _] rfl ?_); clear S M a; intro a w1 b1 S M hB
 refine qG [1] S ?_; clear S a; intro a S
 refine nxC (wp_seq (nxD (qR [1, 1, 1, 1] S M ?_))); clear S a; intro a S
 refine st_if (t := 6) S rfl ?_ ?_
 ·clear S; intro h6 S
  refine qG [0, 0, 0, 1, 1, 0, 0, 0, 1, 1, 0, 0, 0, 1, 1, 0, 0, 0, 1, 1, 0, 0, 0, 1, 1, 0, 0, 0, 1, 1, 0, 0, 0, 0, 0, 1] S ?_; clear S a; intro a S
  replace S := S.keep [0, 1, 2, 42]
  refine nxC (st_condT S rfl (nxD (qG [1] S ?_))); clear S a; intro a S
  refine nxC (wp_ret (then_ret (end_one S rfl (res_tmp rfl) ?_)))
  refine ⟨ret_bool ?_, M.below⟩; rw [Bool.eq_iff_iff]; (first | (simp [Fr.may]; done) | (simp [Fr.may]; omega))
 clear S; intro h6 S
 refine qR [1, 1, 1, 1, 1] S M ?_; clear S a; intro a S
 refine st_if (t := 11) S rfl ?_ ?_
 ·clear S; intro h11 S
  refine qG [0, 0, 0, 1, 1, 0, 0, 0, 1, 1, 0, 0, 0, 1, 1, 0, 0, 0, 1, 1, 0, 0, 0, 1, 1, 0, 0, 0, 0, 0, 1] S ?_; clear S a; intro a S
  replace S := S.keep [0, 1, 2, 42]
  refine nxC (st_condT S rfl (nxD (qG [1] S ?_))); clear S a; intro a S
  refine nxC (wp_ret (then_ret (end_one S rfl (res_tmp rfl) ?_)))
  refine ⟨ret_bool ?_, M.below⟩; rw [Bool.eq_iff_iff]; (first | (simp [Fr.may]; done) | (simp [Fr.may]; omega))
 clear S; intro h11 S
 refine qR [2, 1, 1, 1, 1] S M ?_; clear S a; intro a S
 refine st_if (t := 16) S rfl ?_ ?_
 ·clear S; intro h16 S
  refine qG [0, 0, 0, 1, 1, 0, 0, 0, 1, 1, 0, 0, 0, 1, 1, 0, 0, 0, 1, 1, 0, 0, 0, 0, 0, 1] S ?_; clear S a; intro a S
  replace S := S.keep [0, 1, 2, 42]
  refine nxC (st_condT S rfl (nxD (qG [1] S ?_))); clear S a; intro a S
  refine nxC (wp_ret (then_ret (end_one S rfl (res_tmp rfl) ?_)))
  refine ⟨ret_bool ?_, M.below⟩; rw [Bool.eq_iff_iff]; (first | (simp [Fr.may]; done) | (simp [Fr.may]; omega))
 clear S; intro h16 S
 refine qR [2, 1, 1, 1, 1] S M ?_; clear S a; intro a S
 refine st_if (t := 21) S rfl ?_ ?_
 ·clear S; intro h21 S
  refine qG [0, 0, 0, 1, 1, 0, 0, 0, 1, 1, 0, 0, 0, 1, 1, 0, 0, 0, 0, 0, 1] S ?_; clear S a; intro a S
  replace S := S.keep [0, 1, 2, 42]
  refine nxC (st_condT S rfl (nxD (qG [1] S ?_))); clear S a; intro a S
  refine nxC (wp_ret (then_ret (end_one S rfl (res_tmp rfl) ?_)))
  refine ⟨ret_bool ?_, M.below⟩; rw [Bool.eq_iff_iff]; (first | (simp [Fr.may]; done) | (simp [Fr.may]; omega))
 clear S; intro h21 S
 refine qR [4, 1, 1, 1, 1] S M ?_; clear S a; intro a S
 refine st_if (t := 26) S rfl ?_ ?_
 ·clear S; intro h26 S
  refine qG [0, 0, 0, 1, 1, 0, 0, 0, 1, 1, 0, 0, 0, 0, 0, 1] S ?_; clear S a; intro a S
  replace S := S.keep [0, 1, 2, 42]
  refine nxC (st_condT S rfl (nxD (qG [1] S ?_))); clear S a; intro a S
  refine nxC (wp_ret (then_ret (end_one S rfl (res_tmp rfl) ?_)))
  refine ⟨ret_bool ?_, M.below⟩; rw [Bool.eq_iff_iff]; (first | (simp [Fr.may]; done) | (simp [Fr.may]; omega))
 clear S; intro h26 S
 refine qR [4, 1, 1, 1, 1] S M ?_; clear S a; intro a S
 refine st_if (t := 31) S rfl ?_ ?_
 ·clear S; intro h31 S
  refine qG [0, 0, 0, 1, 1, 0, 0, 0, 0, 0, 1] S ?_; clear S a; intro a S
  replace S := S.keep [0, 1, 2, 42]
  refine nxC (st_condT S rfl (nxD (qG [1] S ?_))); clear S a; intro a S
  refine nxC (wp_ret (then_ret (end_one S rfl (res_tmp rfl) ?_)))
  refine ⟨ret_bool ?_, M.below⟩; rw [Bool.eq_iff_iff]; (first | (simp [Fr.may]; done) | (simp [Fr.may]; omega))
 clear S; intro h31 S
 refine qR [3, 1, 1, 1, 1] S M ?_; clear S a; intro a S
 refine st_if (t := 36) S rfl ?_ ?_
 ·clear S; intro h36 S
  refine qG [0, 0, 0, 0, 0, 1] S ?_; clear S a; intro a S
  replace S := S.keep [0, 1, 2, 42]
  refine nxC (st_condT S rfl (nxD (qG [1] S ?_))); clear S a; intro a S
  refine nxC (wp_ret (then_ret (end_one S rfl (res_tmp rfl) ?_)))
  refine ⟨ret_bool ?_, M.below⟩; rw [Bool.eq_iff_iff]; (first | (simp [Fr.may]; done) | (simp [Fr.may]; omega))
 clear S; intro h36 S
 refine qR [3, 1, 4, 1, 1, 1] S M ?_; clear S a; intro a S
 replace S := S.keep [0, 1, 2, 42]
 refine nxC (st_if (t := 42) S rfl ?_ ?_)
 ·clear S; intro h42 S
  refine st_condT S rfl (nxD (qG [1] S ?_)); clear S a; intro a S
  refine nxC (wp_ret (then_ret (end_one S rfl (res_tmp rfl) ?_)))
  refine ⟨ret_bool ?_, M.below⟩; rw [Bool.eq_iff_iff]; (first | (simp [Fr.may]; done) | (simp [Fr.may]; omega))
 clear S; intro h42 S
 refine st_condF S rfl (wp_skip (nxE (qR [6, 1] S M ?_))); clear S a; intro a S
 refine qY S (y_lenS (E := 5) S rfl (by kernel_rfl)) ?_; clear S a; intro a S
 refine qG [1, 1] S ?_; clear S a; intro a S
 refine st_fi (t := 47) S rfl ?_ ?_
 ·clear S; intro h47 S
  refine qG [0, 0, 0, 0, 1, 1, 0, 0, 0, 0, 0, 0, 0, 0, 0, 0, 0, 0, 1, 1] S ?_; clear S a; intro a S
  replace S := S.keep [0, 1, 42, 2]
  refine nxC (wp_ret (end_one S rfl (res_tmp rfl) ?_))
  refine ⟨ret_bool ?_, M.below⟩; rw [Bool.eq_iff_iff]; (first | (simp [Fr.may]; done) | (simp [Fr.may]; omega))
 clear S; intro h47 S
 refine qR [6, 1] S M ?_; clear S a; intro a S
 refine qY S (y_lenS (E := 5) S rfl (by kernel_rfl)) ?_; clear S a; intro a S
 refine qG [1, 1, 1] S ?_; clear S a; intro a S
 refine st_fi (t := 53) S rfl ?_ ?_
 ·clear S; intro h53 S
  refine qG [0, 0, 0, 0, 0, 0, 0, 0, 0, 0, 0, 0, 1, 1] S ?_; clear S a; intro a S
  replace S := S.keep [0, 1, 42, 2]
  refine nxC (wp_ret (end_one S rfl (res_tmp rfl) ?_))
  refine ⟨ret_bool ?_, M.below⟩; rw [Bool.eq_iff_iff]; (first | (simp [Fr.may]; done) | (simp [Fr.may]; omega))
 clear S; intro h53 S
 refine qR [3, 1, 4, 1] S M ?_; clear S a; intro a S
 (first | refine qY S (y_subN S rfl rfl (by omega)) ?_ | refine qY S (y_int S rfl rfl rfl) ?_); clear S a; intro a S
 refine qG [1, 1] S ?_; clear S a; intro a S
 refine st_if (t := 60) S rfl ?_ ?_
 ·clear S; intro h60 S
  refine qG [0, 0, 0, 0, 1, 1, 1] S ?_; clear S a; intro a S
  replace S := S.keep [0, 1, 42, 2]
  refine nxC (wp_ret (end_one S rfl (res_tmp rfl) ?_))
  refine ⟨ret_bool ?_, M.below⟩; rw [Bool.eq_iff_iff]; (first | (simp [Fr.may]; done) | (simp [Fr.may]; omega))
 clear S; intro h60 S
 refine qR [6, 1] S M ?_; clear S a; intro a S
 refine qY S (y_lenS (E := 5) S rfl (by kernel_rfl)) ?_; clear S a; intro a S
 refine qG [1, 1, 1, 1] S ?_; clear S a; intro a S
 replace S := S.keep [0, 1, 42, 2]
 refine nxC (wp_ret (end_one S rfl (res_tmp rfl) ?_))
 refine ⟨ret_bool ?_, M.below⟩; rw [Bool.eq_iff_iff]; (first | (simp [Fr.may]; done) | (simp [Fr.may]; omega))
theorem refSameF_any (f g : Fr) (v u : Value) (bs cs : List UInt8) (w : World) (hv : Bs 0 w.heap.size w v bs) (hu : Bs 0 w.heap.size w u cs) : Calls Tryz.prog 157 #[.agg (f.cells v).toArray, .agg (g.cells u).toArray] w fun e w' => e = .returned (.bool (f.same g bs cs)) ∧ Below w.heap.size w w' := by
 have M := Mem.start w
 refine calls_enter Tryz.func157 rfl 47 rfl rfl ?_; intro a S
 refine nxD (st_box S M rfl rfl rfl #[_, _, _, _, _, _] rfl ?_); clear S M a; intro a w1 b1 S M hB
 refine st_box S M rfl rfl rfl #[_, _, _, _, _, _] rfl ?_; clear S M a; intro a w2 b2 S M hB
 refine qG [1] S ?_; clear S a; intro a S
 refine nxA (qR [1, 2, 1, 1, 1, 1] S M ?_); clear S a; intro a S
 refine st_fi (t := 10) S rfl ?_ ?_
 ·clear S; intro h10 S
  refine qG [0, 0, 0, 0, 0, 1, 1, 0, 0, 0, 0, 0, 1, 1, 0, 0, 0, 0, 0, 1, 1, 0, 0, 0, 0, 0, 1, 1, 0, 0, 0, 0, 0, 0, 0, 1, 1] S ?_; clear S a; intro a S
  replace S := S.keep [0, 1, 2, 3, 4]
  refine nxC (wp_ret (end_one S rfl (res_tmp rfl) ?_))
  exact ⟨ret_bool (by (try rw [strEq]); simp [Fr.same, *]), M.below⟩
 clear S; intro h10 S
 refine qR [2, 2, 2, 1, 1, 1, 1] S M ?_; clear S a; intro a S
 refine st_fi (t := 17) S rfl ?_ ?_
 ·clear S; intro h17 S
  refine qG [0, 0, 0, 0, 0, 1, 1, 0, 0, 0, 0, 0, 1, 1, 0, 0, 0, 0, 0, 1, 1, 0, 0, 0, 0, 0, 0, 0, 1, 1] S ?_; clear S a; intro a S
  replace S := S.keep [0, 1, 2, 3, 4]
  refine nxC (wp_ret (end_one S rfl (res_tmp rfl) ?_))
  exact ⟨ret_bool (by (try rw [strEq]); simp [Fr.same, *]), M.below⟩
 clear S; intro h17 S
 refine qR [3, 2, 3, 1, 1, 1, 1] S M ?_; clear S a; intro a S
 refine st_fi (t := 24) S rfl ?_ ?_
 ·clear S; intro h24 S
  refine qG [0, 0, 0, 0, 0, 1, 1, 0, 0, 0, 0, 0, 1, 1, 0, 0, 0, 0, 0, 0, 0, 1, 1] S ?_; clear S a; intro a S
  replace S := S.keep [0, 1, 2, 3, 4]
  refine nxC (wp_ret (end_one S rfl (res_tmp rfl) ?_))
  exact ⟨ret_bool (by (try rw [strEq]); simp [Fr.same, *]), M.below⟩
 clear S; intro h24 S
 refine qR [4, 2, 4, 1, 1, 1, 1] S M ?_; clear S a; intro a S
 refine st_fi (t := 31) S rfl ?_ ?_
 ·clear S; intro h31 S
  refine qG [0, 0, 0, 0, 0, 1, 1, 0, 0, 0, 0, 0, 0, 0, 1, 1] S ?_; clear S a; intro a S
  replace S := S.keep [0, 1, 2, 3, 4]
  refine nxC (wp_ret (end_one S rfl (res_tmp rfl) ?_))
  exact ⟨ret_bool (by (try rw [strEq]); simp [Fr.same, *]), M.below⟩
 clear S; intro h31 S
 refine qR [5, 2, 5, 1] S M ?_; clear S a; intro a S
 refine qY S (y_eql32 S rfl rfl) ?_; clear S a; intro a S
 refine qG [1, 1] S ?_; clear S a; intro a S
 refine st_fi (t := 38) S rfl ?_ ?_
 ·clear S; intro h38 S
  refine qG [0, 0, 0, 0, 0, 0, 0, 1, 1] S ?_; clear S a; intro a S
  replace S := S.keep [0, 1, 2, 3, 4]
  refine nxC (wp_ret (end_one S rfl (res_tmp rfl) ?_))
  exact ⟨ret_bool (by (try rw [strEq]); simp [Fr.same, *]), M.below⟩
 clear S; intro h38 S
 refine qR [6, 2] S M ?_; clear S a; intro a S
 refine qY S (y_bytesStr (e := 5) S rfl (by kernel_rfl) (by kernel_rfl) (by kernel_rfl) (by first | exact M.arg hv | exact M.arg hu)) ?_; clear S a; intro a S
 refine qR [6, 1] S M ?_; clear S a; intro a S
 refine qY S (y_bytesStr (e := 5) S rfl (by kernel_rfl) (by kernel_rfl) (by kernel_rfl) (by first | exact M.arg hv | exact M.arg hu)) ?_; clear S a; intro a S
 refine qY S (y_eqlStr S rfl rfl) ?_; clear S a; intro a S
 refine qG [1, 1] S ?_; clear S a; intro a S
 replace S := S.keep [0, 1, 2, 3, 4]
 refine nxC (wp_ret (end_one S rfl (res_tmp rfl) ?_))
 exact ⟨ret_bool (by (try rw [strEq]); simp [Fr.same, *]), M.below⟩
end Go.Proofs.YtodfphphidhjbaaGreat

namespace Go.Proofs.YtodfphphidhjbaaGreat
open Go.RowKit Go.Sort
theorem five5 (f : Fr) (l : Nat) : five f l 5 = leB f.seq 6 ++ leB f.inc 3 ++ [byteOf (16 * f.part + f.of), byteOf (l : Int)] ++ leB (f.mark.toNat : Int) 4 := by
 have e : ∀ n, leB n 1 = [byteOf n] := fun n => by simp [leB]
 simp [five, fiveN, e]
theorem Mem.wide {w0 w : World} {H : List Ent} (M : Mem w0 w H) {k lo hi : Nat} {t : TypeId} {sz n : Nat} {v : Value} {cs : List Value} (h : H[k]? = some (rowE lo hi t sz v n cs)) (hm : n ≤ maxLen) : Rd 0 w.heap.size w sz v n cs :=
 (M.readRow k h hm).wide (Nat.zero_le _) (M.fits _ (List.mem_of_getElem? h)).2
theorem Mem.rowB {w0 w : World} {H : List Ent} {lo hi n : Nat} {t : TypeId} {v : Value} {xs ys : List UInt8} (M : Mem w0 w (rowE lo hi t 1 v (xs.length + n) (bcells xs ++ bcells ys) :: H)) (h : ys.length = n) : Mem w0 w (rowE lo hi t 1 v (xs ++ ys).length (bcells (xs ++ ys)) :: H) := by
 rw [bcells_append, List.length_append, h]; exact M
set_option maxHeartbeats 1000000 in
theorem refBytes_any (f : Fr) (lv : Value) (ld : List UInt8) (w : World) (hv : Bs 0 w.heap.size w lv ld) : Calls Tryz.prog 55 #[.agg (f.cells lv).toArray] w (BytesPost f ld w) := by
 obtain ⟨ad, cap, rfl, -, -⟩ := hv.form
 have M := Mem.start w
 refine calls_enter Tryz.func55 rfl 48 rfl rfl ?_; intro a S
 refine nxD (st_box S M rfl rfl rfl #[_, _, _, _, _, _] rfl ?_); clear S M a; intro a w1 b1 S M hB
 refine qG [1, 1] S ?_; clear S a; intro a S
 refine nxC (wp_seq (nxD (qY S (y_loadAgg (cs := [_, _, _, _, _, _]) S (by kernel_rfl) rfl rfl (M.cellsAt (k := 6) 0 rfl rfl)) ?_))); clear S a; intro a S
 refine qQ (xs := [.tmp 5]) S (qE Tryz.func93) rfl (refMay_any f ad ld.length cap _) M ?_; clear S M a; intro a w2 S hK M
 refine qG [1] S ?_; clear S a; intro a S
 refine nxC (st_split (t := 7) S rfl ?_ ?_)
 ·clear S; intro h7 S
  refine st_condT S rfl (nxD (qG [1, 1] S ?_)); clear S a; intro a S
  refine nxC (wp_ret (then_ret (end_two S rfl (res_tmp rfl) (res_tmp rfl) ?_)))
  have hm : f.may ld.length = false := by simpa using h7
  exact ⟨_, by rw [hm]; rfl, M.below, fun h => absurd h (by simp [hm]), fun _ => rfl⟩
 clear S; intro h7 S
 refine st_condF S rfl (wp_skip (nxE ?_))
 have hm : f.may ld.length = true := by simpa using h7
 have hm' := hm
 simp only [Fr.may, decide_eq_true_eq] at hm'
 have hmk := f.mark.isLt
 refine qY S (y_fieldAddr (k := 0) S (by kernel_rfl) rfl) ?_; clear S a; intro a S
 refine qR [1] S M ?_; clear S a; intro a S
 refine qY S (y_toU64 S rfl (by kernel_rfl) (by kernel_rfl) (by omega)) ?_; clear S a; intro a S
 replace M := M.rowNil 5 1
 refine qC (xs := [.const (.slice none 0 0), .tmp 10, .const (.int .i64 6)]) S (qE Tryz.func94) rfl (low_any (xs := []) M f.seq 6 (by omega) (by simp)) ?_
 rintro _ w3 ⟨v1, lo1, hi1, rfl, M1⟩; refine ⟨_, rfl, ?_⟩; clear S a M; intro a S
 have M := M1
 clear M1
 refine qG [1] S ?_; clear S a; intro a S
 refine nxA (qR [1, 2, 2] S M ?_); clear S a; intro a S
 refine qY S (y_toU64 S rfl (by kernel_rfl) (by kernel_rfl) (by omega)) ?_; clear S a; intro a S
 refine qC (xs := [.tmp 12, .tmp 15, .const (.int .i64 3)]) S (qE Tryz.func94) rfl (low_any M f.inc 3 (by omega) (by simp [leB_length])) ?_
 rintro _ w4 ⟨v2, lo2, hi2, rfl, M1⟩; refine ⟨_, rfl, ?_⟩; clear S a M; intro a S
 have M := M1
 clear M1
 refine qG [1] S ?_; clear S a; intro a S
 refine nxA (qR [1, 3, 2] S M ?_); clear S a; intro a S
 (first | refine qY S (y_mulN S rfl rfl (by omega)) ?_ | refine qY S (y_int S rfl rfl rfl) ?_); clear S a; intro a S
 refine qR [4, 2] S M ?_; clear S a; intro a S
 (first | refine qY S (y_addN S rfl rfl (by omega)) ?_ | refine qY S (y_int S rfl rfl rfl) ?_); clear S a; intro a S
 refine qY S (y_to8 S rfl (by kernel_rfl) (by kernel_rfl)) ?_; clear S a; intro a S
 refine qR [6, 2] S M ?_; clear S a; intro a S
 refine qY S (y_lenS (E := 5) S rfl (by kernel_rfl)) ?_; clear S a; intro a S
 refine qY S (y_to8 S rfl (by kernel_rfl) (by kernel_rfl)) ?_; clear S a; intro a S
 refine st_lit (ps := [(0, .tmp 24), (1, .tmp 28)]) (e := 5) (sz := 1) (zl := [.int .u8 0, .int .u8 0]) (cs := [_, _]) S M rfl rfl (by kernel_rfl) rfl (rfl) ?_; clear S M a; intro a w5 bD S M hB
 have hl9 : ([] ++ leB f.seq 6 ++ leB f.inc 3).length = 9 := by simp [leB_length]
 refine st_append (e := 5) (sz := 1) (by_ := 1) (zc := [.int .u8 0]) S M 1 rfl rfl (by kernel_rfl) rfl (by decide) rfl rfl rfl (Rd.of_blk (sz := 1) (xs := bcells [byteOf (16 * f.part + f.of), byteOf (ld.length : Int)]) (M.blk 0 rfl) rfl (Nat.le_refl _) (by unfold maxLen; omega) rfl) (allOne_bcells _) (by omega) (by unfold maxLen; omega) ?_; clear S M a; intro a w6 vA loA hiA S M
 replace M := M.rowB rfl
 refine qY S (y_assign S rfl) ?_; clear S a; intro a S
 replace S := S.keep [0, 1, 2, 3, 7, 4]
 refine nxA (qR [1, 5, 3] S M ?_); clear S a; intro a S
 refine qY S (y_toU64 S rfl (by kernel_rfl) (by kernel_rfl) (by omega)) ?_; clear S a; intro a S
 refine qC (xs := [.tmp 31, .tmp 34, .const (.int .i64 4)]) S (qE Tryz.func94) rfl (low_any M (f.mark.toNat : Int) 4 (by omega) (by simp [leB_length])) ?_
 rintro _ w7 ⟨v3, lo3, hi3, rfl, M1⟩; refine ⟨_, rfl, ?_⟩; clear S a M; intro a S
 have M := M1
 clear M1
 rw [List.nil_append, ← five5] at M
 refine qG [1] S ?_; clear S a; intro a S
 refine nxA (qR [1, 6, 3] S M ?_); clear S a; intro a S
 have h15 := five5_length f ld.length
 refine st_append (e := 5) (sz := 1) (by_ := 1) (zc := [.int .u8 0]) S M 0 rfl rfl (by kernel_rfl) rfl (by decide) rfl rfl rfl (M.arg hv) (allOne_bcells _) (by omega) (by unfold maxLen; omega) ?_; clear S M a; intro a w8 vA loA hiA S M
 replace M := M.rowB rfl
 refine qY S (y_assign S rfl) ?_; clear S a; intro a S
 refine nxC (wp_seq (wp_block (wp_loop_g (fun m a w' => ∃ (j lo hi : Nat) (v' : Value), j ≤ 45 - ld.length ∧ m = 45 - ld.length - j ∧ Sees 48 a [(4, v')] ∧ Mem w w' [rowE lo hi 5 1 v' (five f ld.length 5 ++ ld ++ List.replicate j 0).length (bcells (five f ld.length 5 ++ ld ++ List.replicate j 0))]) (45 - ld.length) ?_ ?_)))
 ·skip
  replace M := M.drop 1
  simp only [List.eraseIdx_cons_succ, List.eraseIdx_cons_zero] at M
  replace M := M.drop 1
  simp only [List.eraseIdx_cons_succ, List.eraseIdx_cons_zero] at M
  exact ⟨0, _, _, _, Nat.zero_le _, rfl, S.sub _ rfl, by simpa only [List.replicate_zero, List.append_nil] using M⟩
 clear S M a; intro m a wl
 rintro ⟨j, lo, hi, v', hj, rfl, S, M⟩
 have hlj : (five f ld.length 5 ++ ld ++ List.replicate j 0).length = 15 + ld.length + j := by rw [List.length_append, List.length_append, List.length_replicate, h15]
 refine wp_seq (nxD (qG [1] S ?_)); clear S a; intro a S
 refine qY S (y_lenR (E := 5) S rfl ((M.readRow 0 rfl (by unfold maxLen; omega))) (by kernel_rfl)) ?_; clear S a; intro a S
 refine qG [1] S ?_; clear S a; intro a S
 refine nxC (st_if (t := 42) S rfl ?_ ?_)
 ·clear S; intro h42 S
  refine st_condT S rfl (wp_skip (then_normal (wp_block (wp_region_lit (qG [1] S ?_))))); clear S a; intro a S
  refine st_lit (ps := [(0, .const (.int .u8 0))]) (e := 5) (sz := 1) (zl := [.int .u8 0]) (cs := [_]) S M rfl rfl (by kernel_rfl) rfl (rfl) ?_; clear S M a; intro a w9 bZ S M hB
  refine st_append (e := 5) (sz := 1) (by_ := 1) (zc := [.int .u8 0]) S M 1 rfl rfl (by kernel_rfl) rfl (by decide) rfl rfl rfl (Rd.of_blk (sz := 1) (xs := bcells [0]) (M.blk 0 rfl) rfl (Nat.le_refl _) (by unfold maxLen; omega) rfl) (allOne_bcells _) (by omega) (by unfold maxLen; omega) ?_; clear S M a; intro a w10 vA loA hiA S M
  refine qG [1] S ?_; clear S a; intro a S
  refine wpList_nil (block_normal (then_normal ?_))
  replace M := M.drop 1
  simp only [List.eraseIdx_cons_succ, List.eraseIdx_cons_zero] at M
  refine ⟨45 - ld.length - (j + 1), by omega, j + 1, loA, hiA, vA, by omega, rfl, S.sub _ rfl, ?_⟩
  rw [List.replicate_succ', ← List.append_assoc]
  exact M.rowB (ys := [0]) rfl
 clear S; intro h42 S
 refine st_condF S rfl (wp_exit (then_exit (then_exit (block_hit (nxE ?_)))))
 obtain rfl : j = 45 - ld.length := by omega
 rw [List.append_assoc, show ld ++ List.replicate (45 - ld.length) 0 = padL ld from rfl] at M
 have hl60 : (five f ld.length 5 ++ padL ld).length = 60 := by rw [List.length_append, padL_length (by omega), h15]
 refine qY S (y_move S rfl) ?_; clear S a; intro a S
 refine qC (xs := [.tmp 46]) S (qE Tryz.func50) rfl (refSeal_any v' (five f ld.length 5 ++ padL ld) _ (M.wide (k := 0) rfl (by unfold maxLen; omega)) (by omega)) ?_
 rintro _ w11 ⟨v4, rfl, hF⟩; refine ⟨_, rfl, ?_⟩; clear S a; intro a S
 obtain ⟨lo4, hi4, -, M⟩ := M.pushFresh hF
 refine qG [1, 1] S ?_; clear S a; intro a S
 refine nxC (wp_ret (end_two S rfl (res_tmp rfl) (res_tmp rfl) ?_))
 exact ⟨_, by rw [hm]; rfl, M.below, fun _ => M.fresh 0 rfl, fun h => absurd hm (by simp [h])⟩
end Go.Proofs.YtodfphphidhjbaaGreat

namespace Go.Proofs.YtodfphphidhjbaaGreat
open Go.RowKit Go.Sort
theorem getN_take {X : List UInt8} {i k : Nat} (hk : 1 ≤ k ∧ k ≤ 6) (h : i + k ≤ X.length) : getN X (i : Int) (k : Int) = (leN ((X.drop i).take k) : Int) := by
 unfold getN; rw [if_pos (by omega)]; rfl
theorem getN_one {X : List UInt8} {i : Nat} {x : UInt8} (h : X[i]? = some x) : getN X (i : Int) 1 = (x.toNat : Int) := by
 obtain ⟨hlt, he⟩ := List.getElem?_eq_some_iff.1 h
 rw [show (1 : Int) = ((1 : Nat) : Int) from rfl, getN_take (by omega) (by omega), List.drop_eq_getElem_cons hlt, he]
 simp [leN]
theorem Mem.cutW {w0 w : World} {H : List Ent} (M : Mem w0 w H) {k lo hi : Nat} {t : TypeId} {v : Value} {X : List UInt8} (h : H[k]? = some (rowE lo hi t 1 v X.length (bcells X))) (hm : X.length ≤ maxLen) (i j : Nat) (h1 : i ≤ j) (h2 : j ≤ X.length) :
 Bs 0 w.heap.size w (cutV v i j (capV v) 1) ((X.drop i).take (j - i)) :=
 (M.wide h hm).cutB h1 h2 (by have := (M.readRow k h hm).cap; omega) (Nat.le_refl _)
set_option maxHeartbeats 2000000 in
theorem refRead_any (v : Value) (bs : List UInt8) (w : World) (hv : Bs 0 w.heap.size w v bs) (hb : bs.length ≤ 1000) : Calls Tryz.prog 74 #[v] w (ReadPost bs w) := by
 have M := Mem.start w
 refine calls_enter Tryz.func74 rfl 77 rfl rfl ?_; intro a S
 refine nxD (st_alloc S M rfl rfl #[.int .i64 0, .int .i64 0, .int .i64 0, .int .i64 0, .int .u32 0, .slice none 0 0] (by kernel_rfl) ?_); clear S M a; intro a w1 b1 S M hB
 refine qG [1] S ?_; clear S a; intro a S
 refine nxA (qG [1] S ?_); clear S a; intro a S
 refine qC (xs := [.tmp 11]) S (qE Tryz.func116) rfl (refOpen_any v bs _ (M.argW hv) (by omega)) ?_
 rintro _ w2 ⟨v4, rfl, hK, hO, hN⟩; refine ⟨_, rfl, ?_⟩; clear S a; intro a S
 obtain ⟨loI, hiI, -, M⟩ := M.pushFresh (fresh_if hK hO hN)
 refine qG [1, 1, 1, 1, 1] S ?_; clear S a; intro a S
 refine nxC (wp_seq (nxD (qG [1, 1, 1] S ?_))); clear S a; intro a S
 refine st_split (t := 17) S rfl ?_ ?_
 ·clear S; intro h17 S
  refine qG [0, 0, 0, 1] S ?_; clear S a; intro a S
  refine nxC (st_condT S rfl (nxD (qY S (y_build (ps := []) (pl := [(0, 1), (1, 1), (2, 1), (3, 1), (4, 1), (5, 1)]) (z := [.int .i64 0, .int .i64 0, .int .i64 0, .int .i64 0, .int .u32 0, .slice none 0 0]) (cs := [_, _, _, _, _, _]) S (by kernel_rfl) rfl (rfl)) ?_))); clear S a; intro a S
  refine qS (sz := 6) (us := [_, _, _, _, _, _]) S M 1 ?_; clear M; intro w3 M
  refine qG [1] S ?_; clear S a; intro a S
  refine nxC (wp_ret (then_ret (end_two S rfl (res_agg (cs := [_, _, _, _, _, _]) (by kernel_rfl) rfl rfl (M.cellsAt (k := 6) 1 rfl rfl)) (res_tmp rfl) ?_)))
  exact readPost_no M (by
   unfold readF; rw [if_neg]; rintro ⟨hl, h, _⟩
   first
    | (rw [openB_true h] at h17; simp at h17; done)
    | omega)
 clear S; intro h17 S
 refine qG [1] S ?_; clear S a; intro a S
 refine qY S (y_lenR (E := 5) S rfl (M.arg hv) (by kernel_rfl)) ?_; clear S a; intro a S
 refine qG [1, 1] S ?_; clear S a; intro a S
 refine nxC (st_if (t := 21) S rfl ?_ ?_)
 ·clear S; intro h21 S
  refine st_condT S rfl (nxD (qY S (y_build (ps := []) (pl := [(0, 1), (1, 1), (2, 1), (3, 1), (4, 1), (5, 1)]) (z := [.int .i64 0, .int .i64 0, .int .i64 0, .int .i64 0, .int .u32 0, .slice none 0 0]) (cs := [_, _, _, _, _, _]) S (by kernel_rfl) rfl (rfl)) ?_)); clear S a; intro a S
  refine qS (sz := 6) (us := [_, _, _, _, _, _]) S M 1 ?_; clear M; intro w4 M
  refine qG [1] S ?_; clear S a; intro a S
  refine nxC (wp_ret (then_ret (end_two S rfl (res_agg (cs := [_, _, _, _, _, _]) (by kernel_rfl) rfl rfl (M.cellsAt (k := 6) 1 rfl rfl)) (res_tmp rfl) ?_)))
  exact readPost_no M (by
   unfold readF; rw [if_neg]; rintro ⟨hl, h, _⟩
   first
    | (rw [openB_true h] at h17; simp at h17; done)
    | omega)
 clear S; intro h21 S
 refine st_condF S rfl (wp_skip (nxE ?_))
 have hok : openOk bs := by
  by_cases h : openOk bs
  ·exact h
  ·rw [openB_false h] at h17; simp at h17
 have h64 : bs.length = 64 := by omega
 rw [ifL_pos hok, show bs.length - 4 = 60 by omega] at M
 have hx60 : (bs.take 60).length = 60 := by rw [List.length_take]; omega
 generalize hX : bs.take 60 = X at *
 have hm60 : X.length ≤ maxLen := by rw [hx60]; unfold maxLen; omega
 obtain ⟨x9, hx9⟩ : ∃ x, X[9]? = some x := ⟨_, List.getElem?_eq_getElem (by omega)⟩
 obtain ⟨x10, hx10⟩ : ∃ x, X[10]? = some x := ⟨_, List.getElem?_eq_getElem (by omega)⟩
 have hg9 : getN X 9 1 = (x9.toNat : Int) := getN_one hx9
 have hg10 : getN X 10 1 = (x10.toNat : Int) := getN_one hx10
 have hq9 : x9.toNat < 256 := UInt8.toNat_lt x9
 have hq10 : x10.toNat < 256 := UInt8.toNat_lt x10
 have hn0 : getN X 0 6 = (leN ((X.drop 0).take 6) : Int) := getN_take (i := 0) (k := 6) (by omega) (by omega)
 have hn6 : getN X 6 3 = (leN ((X.drop 6).take 3) : Int) := getN_take (i := 6) (k := 3) (by omega) (by omega)
 have hn11 : getN X 11 4 = (leN ((X.drop 11).take 4) : Int) := getN_take (i := 11) (k := 4) (by omega) (by omega)
 have hd0 : (leN ((X.drop 0).take (6 - 0)) : Int) ≤ 281474976710655 := by have := getN_bd X 0 6 (by omega); rw [hn0] at this; exact this.2
 have hd6 : (leN ((X.drop 6).take (9 - 6)) : Int) ≤ 281474976710655 := by have := getN_bd X 6 3 (by omega); rw [hn6] at this; exact this.2
 have hl10 : (ldIn X).length = x10.toNat ∨ 45 < x10.toNat := by
  rcases Nat.lt_or_ge 45 x10.toNat with h | h
  ·exact .inr h
  ·left; simp only [ldIn, List.length_take, List.length_drop]; omega
 refine qY S (y_move S rfl) ?_; clear S a; intro a S
 refine qY S (y_indexR (e := 5) (sz := 1) S (by kernel_rfl) rfl ((M.readRow 0 rfl hm60)) rfl (by first | omega | (simp; done) | (simp; omega))) ?_; clear S a; intro a S
 refine qY S (y_load S (by kernel_rfl) rfl ((M.readRow 0 rfl hm60).byte hx10)) ?_; clear S a; intro a S
 (first | refine qY S (y_to64 S rfl (by kernel_rfl) (by kernel_rfl) (by omega)) ?_ | refine qY S (y_conv (k' := .i64) S rfl (by kernel_rfl) (by kernel_rfl)) ?_); clear S a; intro a S
 refine qG [1] S ?_; clear S a; intro a S
 replace S := S.keep [0, 2, 3, 4, 5, 21, 6]
 refine nxC (wp_seq (nxD (qG [1, 1] S ?_))); clear S a; intro a S
 refine nxC (st_if (t := 28) S rfl ?_ ?_)
 ·clear S; intro h28 S
  refine st_condT S rfl (nxD (qY S (y_build (ps := []) (pl := [(0, 1), (1, 1), (2, 1), (3, 1), (4, 1), (5, 1)]) (z := [.int .i64 0, .int .i64 0, .int .i64 0, .int .i64 0, .int .u32 0, .slice none 0 0]) (cs := [_, _, _, _, _, _]) S (by kernel_rfl) rfl (rfl)) ?_)); clear S a; intro a S
  refine qS (sz := 6) (us := [_, _, _, _, _, _]) S M 1 ?_; clear M; intro w5 M
  refine qG [1] S ?_; clear S a; intro a S
  refine nxC (wp_ret (then_ret (end_two S rfl (res_agg (cs := [_, _, _, _, _, _]) (by kernel_rfl) rfl rfl (M.cellsAt (k := 6) 1 rfl rfl)) (res_tmp rfl) ?_)))
  exact readPost_no M (by unfold readF; rw [if_neg]; rintro ⟨_, _, h, _⟩; rw [hX] at h; omega)
 clear S; intro h28 S
 refine st_condF S rfl (wp_skip (then_normal (wp_cut (fun a w' => ∃ (b8 lo hi : Nat), Sees 77 a [(0, v), (2, .pointer (some ⟨b1, 0, none⟩)), (4, v4), (6, .int .i64 (x10.toNat : Int)), (7, .pointer (some ⟨b8, 0, none⟩))] ∧ Mem w w' [.blk b8 ((frIn X).cells (.slice none 0 0)).toArray 130, rowE lo hi 5 1 v4 X.length (bcells X), .blk b1 (zeroFr.cells (.slice none 0 0)).toArray 130]) ?_ ?_)))
 ·skip
  refine wp_regionK [24] #[false, false, false, false, false, false, false, false, false, false, false, false, false, false, false, false, false, false, false, false, false, false, false, false, false] rfl M (by kernel_rfl) ?_; clear M; intro w6 M
  refine k_pure 0 S rfl (fun w => y_move S rfl) ?_; clear S a; intro a S
  refine k_read 1 S rfl (fun w hW => have M := M.grow hW; y_slice2R (e := 5) (sz := 1) S (by kernel_rfl) rfl ((M.readRow 0 rfl hm60)) rfl rfl (by first | omega | (simp; done) | (simp; omega))) ?_; clear S a; intro a S
  refine k_pure 4 S rfl (fun w => y_move S rfl) ?_; clear S a; intro a S
  refine k_read 5 S rfl (fun w hW => have M := M.grow hW; y_slice2R (e := 5) (sz := 1) S (by kernel_rfl) rfl ((M.readRow 0 rfl hm60)) rfl rfl (by first | omega | (simp; done) | (simp; omega))) ?_; clear S a; intro a S
  refine k_pure 8 S rfl (fun w => y_move S rfl) ?_; clear S a; intro a S
  refine k_read 9 S rfl (fun w hW => have M := M.grow hW; y_indexR (e := 5) (sz := 1) S (by kernel_rfl) rfl ((M.readRow 0 rfl hm60)) rfl (by first | omega | (simp; done) | (simp; omega))) ?_; clear S a; intro a S
  refine k_read 10 S rfl (fun w hW => have M := M.grow hW; y_load S (by kernel_rfl) rfl ((M.readRow 0 rfl hm60).byte hx9)) ?_; clear S a; intro a S
  refine k_pure 11 S rfl (fun w => y_quo8 S rfl rfl (by omega)) ?_; clear S a; intro a S
  (first | refine k_pure 12 S rfl (fun w => y_to64 S rfl (by kernel_rfl) (by kernel_rfl) (by omega)) ?_ | refine k_pure 12 S rfl (fun w => y_conv (k' := .i64) S rfl (by kernel_rfl) (by kernel_rfl)) ?_); clear S a; intro a S
  refine k_pure 13 S rfl (fun w => y_move S rfl) ?_; clear S a; intro a S
  refine k_read 14 S rfl (fun w hW => have M := M.grow hW; y_indexR (e := 5) (sz := 1) S (by kernel_rfl) rfl ((M.readRow 0 rfl hm60)) rfl (by first | omega | (simp; done) | (simp; omega))) ?_; clear S a; intro a S
  refine k_read 15 S rfl (fun w hW => have M := M.grow hW; y_load S (by kernel_rfl) rfl ((M.readRow 0 rfl hm60).byte hx9)) ?_; clear S a; intro a S
  refine k_pure 16 S rfl (fun w => y_rem8 S rfl rfl (by omega)) ?_; clear S a; intro a S
  (first | refine k_pure 17 S rfl (fun w => y_to64 S rfl (by kernel_rfl) (by kernel_rfl) (by omega)) ?_ | refine k_pure 17 S rfl (fun w => y_conv (k' := .i64) S rfl (by kernel_rfl) (by kernel_rfl)) ?_); clear S a; intro a S
  refine k_pure 18 S rfl (fun w => y_move S rfl) ?_; clear S a; intro a S
  refine k_read 19 S rfl (fun w hW => have M := M.grow hW; y_slice2R (e := 5) (sz := 1) S (by kernel_rfl) rfl ((M.readRow 0 rfl hm60)) rfl rfl (by first | omega | (simp; done) | (simp; omega))) ?_; clear S a; intro a S
  refine k_two 2 23 rfl rfl (by kernel_rfl) ?_ ?_
  ·skip
   refine qQ (xs := [.tmp 31]) S (qE Tryz.func117) rfl (refNumber_any _ _ _ (M.cutW (k := 0) rfl hm60 0 6 (by omega) (by omega)) (by rw [List.length_take]; omega)) M ?_; clear S M a; intro a w7 S hK M
   refine wpList_nil ?_; refine then_normal ?_; refine ⟨fun _ => hK, ?_⟩
   (first | refine k_pure 3 S rfl (fun w => y_to64 S rfl (by kernel_rfl) (by kernel_rfl) (by omega)) ?_ | refine k_pure 3 S rfl (fun w => y_conv (k' := .i64) S rfl (by kernel_rfl) (by kernel_rfl)) ?_); clear S a; intro a S
   refine k_two 6 23 rfl rfl (by kernel_rfl) ?_ ?_
   ·skip
    refine qQ (xs := [.tmp 35]) S (qE Tryz.func117) rfl (refNumber_any _ _ _ (M.cutW (k := 0) rfl hm60 6 9 (by omega) (by omega)) (by rw [List.length_take]; omega)) M ?_; clear S M a; intro a w8 S hK M
    refine wpList_nil ?_; refine then_normal ?_; refine ⟨fun _ => hK, ?_⟩
    (first | refine k_pure 7 S rfl (fun w => y_to64 S rfl (by kernel_rfl) (by kernel_rfl) (by omega)) ?_ | refine k_pure 7 S rfl (fun w => y_conv (k' := .i64) S rfl (by kernel_rfl) (by kernel_rfl)) ?_); clear S a; intro a S
    refine k_two 20 23 rfl rfl (by kernel_rfl) ?_ ?_
    ·skip
     refine qQ (xs := [.tmp 49]) S (qE Tryz.func117) rfl (refNumber_any _ _ _ (M.cutW (k := 0) rfl hm60 11 15 (by omega) (by omega)) (by rw [List.length_take]; omega)) M ?_; clear S M a; intro a w9 S hK M
     refine wpList_nil ?_; refine then_normal ?_; refine ⟨fun _ => hK, ?_⟩
     refine k_pure 21 S rfl (fun w => y_to32 S rfl (by kernel_rfl) (by kernel_rfl)) ?_; clear S a; intro a S
     refine k_pure 22 S rfl (fun w => y_build (ps := [(0, .tmp 33), (1, .tmp 37), (2, .tmp 42), (3, .tmp 47), (4, .tmp 51)]) (pl := [(0, 1), (1, 1), (2, 1), (3, 1), (4, 1), (5, 1)]) (z := [.int .i64 0, .int .i64 0, .int .i64 0, .int .i64 0, .int .u32 0, .slice none 0 0]) (cs := [_, _, _, _, _, _]) S (by kernel_rfl) rfl (rfl)) ?_; clear S a; intro a S
     refine k_one 23 rfl (by kernel_rfl) ?_
     refine st_alloc S M rfl rfl #[.int .i64 0, .int .i64 0, .int .i64 0, .int .i64 0, .int .u32 0, .slice none 0 0] (by kernel_rfl) ?_; clear S M a; intro a w10 bF S M hB
     refine wpList_nil ?_; refine then_normal ?_; refine ⟨fun _ => hB, ?_⟩
     refine k_one 24 rfl (by kernel_rfl) ?_
     refine qS (sz := 6) (us := [_, _, _, _, _, _]) S M 0 ?_; clear M; intro w11 M
     refine wpList_nil ?_; refine then_normal ?_; refine ⟨fun h => absurd h (by decide), ?_⟩
     refine k_end (by kernel_rfl) ?_
     replace S := S.keep [0, 2, 3, 4, 5, 21, 6, 28, 7]
     refine then_normal ?_
     replace M := M.ord [2, 2, 2] (by simp only [ordO, oG, oS, oE, oZ, oB] <;> rfl)
     refine ⟨_, loI, hiI, S.sub _ rfl, ?_⟩
     unfold frIn; rw [hn0, hn6, hg9, hn11]
     exact M
    ·skip
     refine st_alloc S M rfl rfl #[.int .i64 0, .int .i64 0, .int .i64 0, .int .i64 0, .int .u32 0, .slice none 0 0] (by kernel_rfl) ?_; clear S M a; intro a w12 bF S M hB
     refine wpList_nil ?_; refine then_normal ?_; refine ⟨fun _ => hB, ?_⟩
     refine k_one 20 rfl (by kernel_rfl) ?_
     refine qQ (xs := [.tmp 49]) S (qE Tryz.func117) rfl (refNumber_any _ _ _ (M.cutW (k := 1) rfl hm60 11 15 (by omega) (by omega)) (by rw [List.length_take]; omega)) M ?_; clear S M a; intro a w13 S hK M
     refine wpList_nil ?_; refine then_normal ?_; refine ⟨fun _ => hK, ?_⟩
     refine k_pure 21 S rfl (fun w => y_to32 S rfl (by kernel_rfl) (by kernel_rfl)) ?_; clear S a; intro a S
     refine k_pure 22 S rfl (fun w => y_build (ps := [(0, .tmp 33), (1, .tmp 37), (2, .tmp 42), (3, .tmp 47), (4, .tmp 51)]) (pl := [(0, 1), (1, 1), (2, 1), (3, 1), (4, 1), (5, 1)]) (z := [.int .i64 0, .int .i64 0, .int .i64 0, .int .i64 0, .int .u32 0, .slice none 0 0]) (cs := [_, _, _, _, _, _]) S (by kernel_rfl) rfl (rfl)) ?_; clear S a; intro a S
     refine k_one 24 rfl (by kernel_rfl) ?_
     refine qS (sz := 6) (us := [_, _, _, _, _, _]) S M 0 ?_; clear M; intro w14 M
     refine wpList_nil ?_; refine then_normal ?_; refine ⟨fun h => absurd h (by decide), ?_⟩
     refine k_end (by kernel_rfl) ?_
     replace S := S.keep [0, 2, 3, 4, 5, 21, 6, 28, 7]
     refine then_normal ?_
     replace M := M.ord [2, 2, 2] (by simp only [ordO, oG, oS, oE, oZ, oB] <;> rfl)
     refine ⟨_, loI, hiI, S.sub _ rfl, ?_⟩
     unfold frIn; rw [hn0, hn6, hg9, hn11]
     exact M
   ·skip
    refine st_alloc S M rfl rfl #[.int .i64 0, .int .i64 0, .int .i64 0, .int .i64 0, .int .u32 0, .slice none 0 0] (by kernel_rfl) ?_; clear S M a; intro a w15 bF S M hB
    refine wpList_nil ?_; refine then_normal ?_; refine ⟨fun _ => hB, ?_⟩
    refine k_one 6 rfl (by kernel_rfl) ?_
    refine qQ (xs := [.tmp 35]) S (qE Tryz.func117) rfl (refNumber_any _ _ _ (M.cutW (k := 1) rfl hm60 6 9 (by omega) (by omega)) (by rw [List.length_take]; omega)) M ?_; clear S M a; intro a w16 S hK M
    refine wpList_nil ?_; refine then_normal ?_; refine ⟨fun _ => hK, ?_⟩
    (first | refine k_pure 7 S rfl (fun w => y_to64 S rfl (by kernel_rfl) (by kernel_rfl) (by omega)) ?_ | refine k_pure 7 S rfl (fun w => y_conv (k' := .i64) S rfl (by kernel_rfl) (by kernel_rfl)) ?_); clear S a; intro a S
    refine k_one 20 rfl (by kernel_rfl) ?_
    refine qQ (xs := [.tmp 49]) S (qE Tryz.func117) rfl (refNumber_any _ _ _ (M.cutW (k := 1) rfl hm60 11 15 (by omega) (by omega)) (by rw [List.length_take]; omega)) M ?_; clear S M a; intro a w17 S hK M
    refine wpList_nil ?_; refine then_normal ?_; refine ⟨fun _ => hK, ?_⟩
    refine k_pure 21 S rfl (fun w => y_to32 S rfl (by kernel_rfl) (by kernel_rfl)) ?_; clear S a; intro a S
    refine k_pure 22 S rfl (fun w => y_build (ps := [(0, .tmp 33), (1, .tmp 37), (2, .tmp 42), (3, .tmp 47), (4, .tmp 51)]) (pl := [(0, 1), (1, 1), (2, 1), (3, 1), (4, 1), (5, 1)]) (z := [.int .i64 0, .int .i64 0, .int .i64 0, .int .i64 0, .int .u32 0, .slice none 0 0]) (cs := [_, _, _, _, _, _]) S (by kernel_rfl) rfl (rfl)) ?_; clear S a; intro a S
    refine k_one 24 rfl (by kernel_rfl) ?_
    refine qS (sz := 6) (us := [_, _, _, _, _, _]) S M 0 ?_; clear M; intro w18 M
    refine wpList_nil ?_; refine then_normal ?_; refine ⟨fun h => absurd h (by decide), ?_⟩
    refine k_end (by kernel_rfl) ?_
    replace S := S.keep [0, 2, 3, 4, 5, 21, 6, 28, 7]
    refine then_normal ?_
    replace M := M.ord [2, 2, 2] (by simp only [ordO, oG, oS, oE, oZ, oB] <;> rfl)
    refine ⟨_, loI, hiI, S.sub _ rfl, ?_⟩
    unfold frIn; rw [hn0, hn6, hg9, hn11]
    exact M
  ·skip
   refine st_alloc S M rfl rfl #[.int .i64 0, .int .i64 0, .int .i64 0, .int .i64 0, .int .u32 0, .slice none 0 0] (by kernel_rfl) ?_; clear S M a; intro a w19 bF S M hB
   refine wpList_nil ?_; refine then_normal ?_; refine ⟨fun _ => hB, ?_⟩
   refine k_one 2 rfl (by kernel_rfl) ?_
   refine qQ (xs := [.tmp 31]) S (qE Tryz.func117) rfl (refNumber_any _ _ _ (M.cutW (k := 1) rfl hm60 0 6 (by omega) (by omega)) (by rw [List.length_take]; omega)) M ?_; clear S M a; intro a w20 S hK M
   refine wpList_nil ?_; refine then_normal ?_; refine ⟨fun _ => hK, ?_⟩
   (first | refine k_pure 3 S rfl (fun w => y_to64 S rfl (by kernel_rfl) (by kernel_rfl) (by omega)) ?_ | refine k_pure 3 S rfl (fun w => y_conv (k' := .i64) S rfl (by kernel_rfl) (by kernel_rfl)) ?_); clear S a; intro a S
   refine k_one 6 rfl (by kernel_rfl) ?_
   refine qQ (xs := [.tmp 35]) S (qE Tryz.func117) rfl (refNumber_any _ _ _ (M.cutW (k := 1) rfl hm60 6 9 (by omega) (by omega)) (by rw [List.length_take]; omega)) M ?_; clear S M a; intro a w21 S hK M
   refine wpList_nil ?_; refine then_normal ?_; refine ⟨fun _ => hK, ?_⟩
   (first | refine k_pure 7 S rfl (fun w => y_to64 S rfl (by kernel_rfl) (by kernel_rfl) (by omega)) ?_ | refine k_pure 7 S rfl (fun w => y_conv (k' := .i64) S rfl (by kernel_rfl) (by kernel_rfl)) ?_); clear S a; intro a S
   refine k_one 20 rfl (by kernel_rfl) ?_
   refine qQ (xs := [.tmp 49]) S (qE Tryz.func117) rfl (refNumber_any _ _ _ (M.cutW (k := 1) rfl hm60 11 15 (by omega) (by omega)) (by rw [List.length_take]; omega)) M ?_; clear S M a; intro a w22 S hK M
   refine wpList_nil ?_; refine then_normal ?_; refine ⟨fun _ => hK, ?_⟩
   refine k_pure 21 S rfl (fun w => y_to32 S rfl (by kernel_rfl) (by kernel_rfl)) ?_; clear S a; intro a S
   refine k_pure 22 S rfl (fun w => y_build (ps := [(0, .tmp 33), (1, .tmp 37), (2, .tmp 42), (3, .tmp 47), (4, .tmp 51)]) (pl := [(0, 1), (1, 1), (2, 1), (3, 1), (4, 1), (5, 1)]) (z := [.int .i64 0, .int .i64 0, .int .i64 0, .int .i64 0, .int .u32 0, .slice none 0 0]) (cs := [_, _, _, _, _, _]) S (by kernel_rfl) rfl (rfl)) ?_; clear S a; intro a S
   refine k_one 24 rfl (by kernel_rfl) ?_
   refine qS (sz := 6) (us := [_, _, _, _, _, _]) S M 0 ?_; clear M; intro w23 M
   refine wpList_nil ?_; refine then_normal ?_; refine ⟨fun h => absurd h (by decide), ?_⟩
   refine k_end (by kernel_rfl) ?_
   replace S := S.keep [0, 2, 3, 4, 5, 21, 6, 28, 7]
   refine then_normal ?_
   replace M := M.ord [2, 2, 2] (by simp only [ordO, oG, oS, oE, oZ, oB] <;> rfl)
   refine ⟨_, loI, hiI, S.sub _ rfl, ?_⟩
   unfold frIn; rw [hn0, hn6, hg9, hn11]
   exact M
 clear S a M; intro a wc
 rintro ⟨bF, lo, hi, S, M⟩
 refine wp_seq (wp_regionK [6, 8] #[false, false, false, false, false, false, false, false, false] rfl M (by kernel_rfl) ?_); clear M; intro w24 M
 refine k_pure 0 S rfl (fun w => y_fieldAddr (k := 5) S (by kernel_rfl) rfl) ?_; clear S a; intro a S
 refine k_read 1 S rfl (fun w hW => have M := M.grow hW; y_load S (by kernel_rfl) rfl (M.cell 0 rfl rfl)) ?_; clear S a; intro a S
 refine k_pure 2 S rfl (fun w => y_move S rfl) ?_; clear S a; intro a S
 refine k_pure 3 S rfl (fun w => y_move S rfl) ?_; clear S a; intro a S
 (first | refine k_pure 4 S rfl (fun w => y_addN S rfl rfl (by omega)) ?_ | refine k_pure 4 S rfl (fun w => y_int S rfl rfl rfl) ?_); clear S a; intro a S
 refine k_read 5 S rfl (fun w hW => have M := M.grow hW; y_slice2R (e := 5) (sz := 1) S (by kernel_rfl) rfl ((M.readRow 1 rfl hm60)) rfl rfl (by first | omega | (simp; done) | (simp; omega))) ?_; clear S a; intro a S
 refine k_one 6 rfl (by kernel_rfl) ?_
 have hC := M.cutW (k := 1) rfl hm60 (15 : Int).toNat ((15 : Int) + (x10.toNat : Int)).toNat (by omega) (by omega)
 rw [show (X.drop (15 : Int).toNat).take (((15 : Int) + (x10.toNat : Int)).toNat - (15 : Int).toNat) = ldIn X from by unfold ldIn; rw [hg10]; congr 1; omega] at hC
 replace M := M.rowNil 5 1
 refine st_append (e := 5) (sz := 1) (by_ := 1) (zc := [.int .u8 0]) S M 0 rfl rfl (by kernel_rfl) rfl (by decide) rfl rfl rfl (hC) (allOne_bcells _) (by omega) (by unfold maxLen; omega) ?_; clear S M a; intro a w25 vA loA hiA S M
 refine wpList_nil ?_; refine then_normal ?_; refine ⟨fun h => absurd h (by decide), ?_⟩
 refine k_pure 7 S rfl (fun w => y_fieldAddr (k := 5) S (by kernel_rfl) rfl) ?_; clear S a; intro a S
 refine k_one 8 rfl (by kernel_rfl) ?_
 have hlE : (ldIn X).length = x10.toNat := by omega
 rw [Nat.zero_add, List.nil_append] at M
 obtain ⟨adV, cpV, hE, -, -⟩ := (M.readRow 0 rfl (by unfold maxLen; omega)).form
 subst hE
 refine qS (sz := 1) (us := [_]) S M 1 ?_; clear M; intro w26 M
 refine wpList_nil ?_; refine then_normal ?_; refine ⟨fun h => absurd h (by decide), ?_⟩
 refine k_end (by kernel_rfl) ?_
 refine nxE ?_
 skip
 replace M : Mem w w26 [rowE loA hiA 5 1 (.slice adV (ldIn X).length cpV) (ldIn X).length (bcells (ldIn X)), .blk bF ((frIn X).cells (.slice adV (ldIn X).length cpV)).toArray 130, rowE lo hi 5 1 v4 X.length (bcells X), .blk b1 (zeroFr.cells (.slice none 0 0)).toArray 130] := M
 refine qY S (y_loadAgg (cs := [_, _, _, _, _, _]) S (by kernel_rfl) rfl rfl (M.cellsAt (k := 6) 1 rfl rfl)) ?_; clear S a; intro a S
 refine qC (xs := [.tmp 62]) S (qE Tryz.func55) rfl (refBytes_any (frIn X) _ (ldIn X) _ (M.wide (k := 0) rfl (by unfold maxLen; omega))) ?_
 rintro _ w27 ⟨v9, rfl, hK, hF3, hN3⟩; refine ⟨_, rfl, ?_⟩; clear S a; intro a S
 obtain ⟨lo9, hi9, -, M⟩ := M.pushFresh (fresh_if (p := (frIn X).may (ldIn X).length = true) hK hF3 (fun h => hN3 (by simpa using h)))
 refine qG [1, 1, 1, 1, 1] S ?_; clear S a; intro a S
 refine nxC (wp_seq (nxD (qG [1, 1, 1] S ?_))); clear S a; intro a S
 refine st_if (t := 68) S rfl ?_ ?_
 ·clear S; intro h68 S
  refine st_no S rfl rfl rfl ?_; clear S a; intro a S
  refine qG [0, 0, 0, 0, 1] S ?_; clear S a; intro a S
  replace S := S.keep [0, 2, 4, 6, 7, 8, 9, 74]
  refine nxC (st_condT S rfl (nxD ?_))
  have hno : readF bs = none := by
   unfold readF; rw [if_neg]; rw [hX]; rintro ⟨_, _, _, h4, h5⟩
   first
    | (rw [h4] at h68; simp at h68; done)
    | (rw [h5] at h74; simp at h74; done)
  refine qY S (y_build (ps := []) (pl := [(0, 1), (1, 1), (2, 1), (3, 1), (4, 1), (5, 1)]) (z := [.int .i64 0, .int .i64 0, .int .i64 0, .int .i64 0, .int .u32 0, .slice none 0 0]) (cs := [_, _, _, _, _, _]) S (by kernel_rfl) rfl (rfl)) ?_; clear S a; intro a S
  refine qS (sz := 6) (us := [_, _, _, _, _, _]) S M 4 ?_; clear M; intro w28 M
  refine qG [1] S ?_; clear S a; intro a S
  refine nxC (wp_ret (then_ret (end_two S rfl (res_agg (cs := [_, _, _, _, _, _]) (by kernel_rfl) rfl rfl (M.cellsAt (k := 6) 4 rfl rfl)) (res_tmp rfl) ?_)))
  exact readPost_no M hno
 clear S; intro h68 S
 have hmay : (frIn X).may (ldIn X).length = true := by
  cases h : (frIn X).may (ldIn X).length
  ·rw [h] at h68; simp at h68
  ·rfl
 rw [ifL_pos hmay] at M
 refine qY S (y_move S rfl) ?_; clear S a; intro a S
 refine qY S (y_bytesStr (e := 5) S rfl (by kernel_rfl) (by kernel_rfl) (by kernel_rfl) (M.readRow 0 rfl (by rw [bytesF_length hmay]; unfold maxLen; omega))) ?_; clear S a; intro a S
 refine qG [1] S ?_; clear S a; intro a S
 refine qY S (y_bytesStr (e := 5) S rfl (by kernel_rfl) (by kernel_rfl) (by kernel_rfl) (M.arg hv)) ?_; clear S a; intro a S
 refine qY S (y_neqStr S rfl rfl) ?_; clear S a; intro a S
 refine qG [1] S ?_; clear S a; intro a S
 replace S := S.keep [0, 2, 4, 6, 7, 8, 9, 74]
 refine nxC (st_if (t := 74) S rfl ?_ ?_)
 ·clear S; intro h74 S
  refine st_condT S rfl (nxD ?_)
  have hno : readF bs = none := by
   unfold readF; rw [if_neg]; rw [hX]; rintro ⟨_, _, _, h4, h5⟩
   first
    | (rw [h4] at h68; simp at h68; done)
    | (rw [h5] at h74; simp at h74; done)
  refine qY S (y_build (ps := []) (pl := [(0, 1), (1, 1), (2, 1), (3, 1), (4, 1), (5, 1)]) (z := [.int .i64 0, .int .i64 0, .int .i64 0, .int .i64 0, .int .u32 0, .slice none 0 0]) (cs := [_, _, _, _, _, _]) S (by kernel_rfl) rfl (rfl)) ?_; clear S a; intro a S
  refine qS (sz := 6) (us := [_, _, _, _, _, _]) S M 4 ?_; clear M; intro w29 M
  refine qG [1] S ?_; clear S a; intro a S
  refine nxC (wp_ret (then_ret (end_two S rfl (res_agg (cs := [_, _, _, _, _, _]) (by kernel_rfl) rfl rfl (M.cellsAt (k := 6) 4 rfl rfl)) (res_tmp rfl) ?_)))
  exact readPost_no M hno
 clear S; intro h74 S
 refine st_condF S rfl (wp_skip (nxE ?_))
 have hyes : readF bs = some (frIn X, ldIn X) := by
  unfold readF; rw [hX, if_pos]
  exact ⟨h64, hok, by omega, hmay, by simpa using h74⟩
 refine qY S (y_loadAgg (cs := [_, _, _, _, _, _]) S (by kernel_rfl) rfl rfl (M.cellsAt (k := 6) 2 rfl rfl)) ?_; clear S a; intro a S
 refine qS (sz := 6) (us := [_, _, _, _, _, _]) S M 4 ?_; clear M; intro w30 M
 refine qG [1] S ?_; clear S a; intro a S
 refine nxC (wp_ret (end_two S rfl (res_agg (cs := [_, _, _, _, _, _]) (by kernel_rfl) rfl rfl (M.cellsAt (k := 6) 4 rfl rfl)) (res_tmp rfl) ?_))
 exact ⟨frIn X, _, 0, rfl, M.below, (fun g ld' h => by
  rw [hyes] at h
  obtain ⟨rfl, rfl⟩ := Prod.mk.inj (Option.some.inj h)
  exact ⟨rfl, rfl, M.fresh 1 rfl⟩), fun h => by rw [hyes] at h; cases h⟩
end Go.Proofs.YtodfphphidhjbaaGreat

namespace Go.Proofs.YtodfphphidhjbaaGreat
open Go.RowKit Go.Sort
def wk0 : List UInt8 := List.replicate 85 0
def wkF : List (Fr × List UInt8) := [(⟨7, 1, 0, 2, sumT wk0⟩, List.replicate 45 0), (⟨8, 1, 1, 2, sumT wk0⟩, List.replicate 40 0)]
end Go.Proofs.YtodfphphidhjbaaGreat

namespace Go.Proofs.YtodfphphidhjbaaGreat
open Go.RowKit Go.Sort
noncomputable def rdF (bs : List UInt8) : Fr := match readF bs with | some x => x.1 | none => zeroFr
noncomputable def rdL (bs : List UInt8) : List UInt8 := match readF bs with | some x => x.2 | none => []
noncomputable def rdE (bs : List UInt8) : Int := match readF bs with | some _ => 0 | none => 40
theorem ldIn_le (x : List UInt8) : (ldIn x).length ≤ 255 := by
 have := getN_bd1 x 10; have := getN_bd x 10 1 (by omega)
 simp only [ldIn, List.length_take]; omega
theorem rdL_le (bs : List UInt8) : (rdL bs).length ≤ 255 := by
 unfold rdL readF
 split
 ·rename_i x h
  split at h
  ·cases h; exact ldIn_le _
  ·cases h
 ·exact Nat.zero_le _
theorem read_uni {bs : List UInt8} {w0 w w' : World} {H : List Ent} {e : Ending} (M : Mem w0 w H) (h : ReadPost bs w e w') :
 ∃ (ad : Option Addr) (cap lo hi : Nat), e = .returned (.tuple #[.agg ((rdF bs).cells (.slice ad (rdL bs).length cap)).toArray, .int .i64 (rdE bs)]) ∧ Below w.heap.size w w' ∧ Mem w0 w' (rowE lo hi 5 1 (.slice ad (rdL bs).length cap) (rdL bs).length (bcells (rdL bs)) :: H) := by
 obtain ⟨f, lv, E, rfl, hb, h1, h2⟩ := h
 have hle := rdL_le bs
 unfold rdL rdF rdE at *
 cases hR : readF bs with
 | none =>
   rw [hR] at hle
   obtain ⟨rfl, rfl, rfl⟩ := h2 hR
   exact ⟨none, 0, _, _, rfl, hb, (M.grow hb).rowNil 5 1⟩
 | some x =>
   rw [hR] at hle
   replace hle : x.2.length ≤ 255 := hle
   obtain ⟨rfl, rfl, hF⟩ := h1 x.1 x.2 hR
   obtain ⟨lo, hi, -, M⟩ := M.pushFresh hF
   obtain ⟨ad, cap, rfl, -, -⟩ := (hF.rd (by unfold maxLen; omega)).form
   exact ⟨ad, cap, lo, hi, rfl, hb, M⟩
theorem bytes_uni {f : Fr} {ld : List UInt8} {w0 w w' : World} {H : List Ent} {e : Ending} (M : Mem w0 w H) (h : BytesPost f ld w e w') :
 ∃ (v : Value) (lo hi : Nat), e = .returned (.tuple #[v, .int .i64 (if f.may ld.length then 0 else 2)]) ∧ Below w.heap.size w w' ∧ Mem w0 w' (rowE lo hi 5 1 v (ifL (f.may ld.length = true) (bytesF f ld)).length (bcells (ifL (f.may ld.length = true) (bytesF f ld))) :: H) := by
 obtain ⟨v', rfl, hb, h1, h2⟩ := h
 obtain ⟨lo, hi, -, M⟩ := M.pushFresh (fresh_if hb h1 (fun h => h2 (by simpa using h)))
 exact ⟨v', lo, hi, rfl, hb, M⟩
theorem ifL_bytesF (f : Fr) (ld : List UInt8) : (ifL (f.may ld.length = true) (bytesF f ld)).length ≤ 64 := by
 by_cases h : f.may ld.length = true
 ·rw [ifL_pos h, bytesF_length h]; exact Nat.le_refl _
 ·rw [ifL_neg h]; exact Nat.zero_le _
end Go.Proofs.YtodfphphidhjbaaGreat

namespace Go.Proofs.YtodfphphidhjbaaGreat
open Go.RowKit Go.Sort
end Go.Proofs.YtodfphphidhjbaaGreat

namespace Go.Proofs.YtodfphphidhjbaaGreat
open Go.RowKit Go.Sort
theorem mid {α : Type} (A B C : List α) {i n : Nat} (hi : A.length = i) (hn : B.length = n) : ((A ++ B ++ C).drop i).take n = B := by
 subst hi hn; simp
theorem readF_spec {bs : List UInt8} {f : Fr} {ld : List UInt8} (h : readF bs = some (f, ld)) : f.may ld.length = true ∧ bytesF f ld = bs := by
 unfold readF at h
 split at h
 ·rename_i hc
  obtain ⟨rfl, rfl⟩ := Prod.mk.inj (Option.some.inj h)
  exact ⟨hc.2.2.2.1, hc.2.2.2.2⟩
 ·cases h
end Go.Proofs.YtodfphphidhjbaaGreat

namespace Go.Proofs.YtodfphphidhjbaaGreat
open Go.RowKit Go.Sort
abbrev FrB := Fr × List UInt8
structure Sc where
 seq : Int
 inc : Int
 begun : List FrB
 l : List (Int × List UInt8)
 next : Int
def goodP (s : Sc) (f : Fr) : Bool := f.seq == s.seq && !decide (f.inc < s.inc) && (match s.begun with
 | [] => f.part == 0
 | g :: _ => f.part == (s.begun.length : Int) && f.of == g.1.of && f.mark == g.1.mark && f.inc == g.1.inc)
open Classical in
noncomputable def takeP (s : Sc) (x : FrB) : Sc × Bool :=
 if ((s.begun ++ [x]).length : Int) < x.1.of then (⟨s.seq + 1, x.1.inc, s.begun ++ [x], s.l, s.next⟩, true)
 else if joinOk (s.begun ++ [x]) then (⟨s.seq + 1, x.1.inc, [], s.l ++ [((s.begun ++ [x]).head?.elim 0 (·.1.seq), outF (s.begun ++ [x]))], s.seq + 1⟩, true)
 else (⟨s.seq + 1, x.1.inc, s.begun ++ [x], s.l, s.next⟩, false)
noncomputable def stepP (s : Sc) (bs : List UInt8) : Sc × Bool := match readF bs with
 | none => (s, false)
 | some x => if goodP s x.1 = true then takeP s x else (s, false)
noncomputable def scanP (s : Sc) : List (List UInt8) → Sc
 | [] => s
 | x :: t => if (stepP s x).2 = true then scanP (stepP s x).1 t else (stepP s x).1
abbrev FrM := Fr × RB
abbrev FrM.pl (p : FrM) : FrB := (p.1, p.2.bs)
abbrev FrM.cellsL (p : FrM) : List Value := p.1.cells p.2.val
def frC (fs : List FrM) : List Value := fs.flatMap FrM.cellsL
abbrev FdM := Int × RB
abbrev FdM.pl (p : FdM) : Int × List UInt8 := (p.1, p.2.bs)
abbrev FdM.cellsL (p : FdM) : List Value := [.int .i64 p.1, p.2.val]
def fdC (ls : List FdM) : List Value := ls.flatMap FdM.cellsL
theorem frC_length : ∀ fs, (frC fs).length = fs.length * 6
 | [] => rfl
 | x :: l => by
   show (x.cellsL ++ frC l).length = _
   rw [List.length_append, frC_length l]; simp; omega
theorem fdC_length : ∀ fs, (fdC fs).length = fs.length * 2
 | [] => rfl
 | x :: l => by
   show (x.cellsL ++ fdC l).length = _
   rw [List.length_append, fdC_length l]; simp; omega
theorem frC_get {l : List FrM} {i : Nat} {x : FrM} (hx : l[i]? = some x) : ((frC l).drop (i * 6)).take 6 = x.cellsL := by
 obtain ⟨hlt, he⟩ := List.getElem?_eq_some_iff.1 hx
 have e : frC l = frC (l.take i) ++ (x.cellsL ++ frC (l.drop (i + 1))) := by
  conv => lhs; rw [← List.take_append_drop i l, List.drop_eq_getElem_cons hlt, he]
  simp [frC]
 rw [e, show i * 6 = (frC (l.take i)).length by rw [frC_length, List.length_take]; omega, List.drop_left]
 rfl
theorem fdC_get {l : List FdM} {i : Nat} {x : FdM} (hx : l[i]? = some x) : ((fdC l).drop (i * 2)).take 2 = x.cellsL := by
 obtain ⟨hlt, he⟩ := List.getElem?_eq_some_iff.1 hx
 have e : fdC l = fdC (l.take i) ++ (x.cellsL ++ fdC (l.drop (i + 1))) := by
  conv => lhs; rw [← List.take_append_drop i l, List.drop_eq_getElem_cons hlt, he]
  simp [fdC]
 rw [e, show i * 2 = (fdC (l.take i)).length by rw [fdC_length, List.length_take]; omega, List.drop_left]
 rfl
structure ScM where
 fs : List FrM
 ls : List FdM
 ba : Option Addr
 bc : Nat
 la : Option Addr
 lc : Nat
 lo : Nat
 hi : Nat
 lo2 : Nat
 hi2 : Nat
abbrev ScM.bv (m : ScM) : Value := .slice m.ba m.fs.length m.bc
abbrev ScM.lv (m : ScM) : Value := .slice m.la m.ls.length m.lc
abbrev scC (s : Sc) (m : ScM) : List Value := [.int .i64 s.seq, .int .i64 s.inc, m.bv, m.lv, .int .i64 s.next]
def ScM.rows (m : ScM) : List Ent := m.fs.map (fun p => p.2.ent) ++ m.ls.map (fun p => p.2.ent)
def ScM.ents (b : Nat) (s : Sc) (m : ScM) : List Ent := .blk b (scC s m).toArray 144 :: rowE m.lo m.hi 130 6 m.bv m.fs.length (frC m.fs) :: rowE m.lo2 m.hi2 148 2 m.lv m.ls.length (fdC m.ls) :: m.rows
structure ScM.Ok (s : Sc) (m : ScM) : Prop where
 begun : s.begun = m.fs.map FrM.pl
 l : s.l = m.ls.map FdM.pl
 may : ∀ p ∈ m.fs, p.1.may p.2.bs.length = true
 short : ∀ p ∈ m.ls, p.2.bs.length ≤ 90
def ScE (b : Nat) (s : Sc) (E : List Ent) : Prop := ∃ m : ScM, m.Ok s ∧ E = m.ents b s
theorem Mem.readIn {w0 w : World} {H : List Ent} {lo hi e sz m : Nat} {x : Value} {xs : List Value} (M : Mem w0 w H) (h : rowE lo hi e sz x m xs ∈ H) (hm : m ≤ maxLen) : Rd 0 w.heap.size w sz x m xs := by
 obtain ⟨p, hp⟩ := List.getElem?_of_mem h
 exact M.readAll p hp hm
theorem frs_of {w0 w : World} {H : List Ent} {lo hi : Nat} {fs : List FrM} {v : Value} (M : Mem w0 w H) (h : rowE lo hi 130 6 v fs.length (frC fs) ∈ H) (hl : fs.length ≤ 1000) (he : ∀ p ∈ fs, p.2.ent ∈ H) (hm : ∀ p ∈ fs, p.1.may p.2.bs.length = true) :
 FrsC (frC fs) 0 w.heap.size w v (fs.map FrM.pl) := by
 refine ⟨by rw [List.length_map]; exact M.readIn h (by unfold maxLen; omega), fun i f bs hi => ?_⟩
 rw [List.getElem?_map] at hi
 cases hx : fs[i]? with
 | none => rw [hx] at hi; cases hi
 | some p =>
   rw [hx] at hi
   obtain ⟨rfl, rfl⟩ := Prod.mk.inj (Option.some.inj hi)
   have hp := List.mem_of_getElem? hx
   have := hm p hp
   simp only [Fr.may, decide_eq_true_eq] at this
   exact ⟨p.2.val, frC_get hx, M.readB (he p hp) (by omega)⟩
theorem Mem.backA {w0 w : World} {X A : List Ent} (M : Mem w0 w (X ++ A)) : Mem w0 w (A ++ X) := M.perm List.perm_append_comm
set_option maxHeartbeats 1000000 in
theorem good_any {wc w : World} {A E : List Ent} {b : Nat} {s : Sc} (f : Fr) (ad : Option Addr) (l c : Nat) (hE : ScE b s E) (M : Mem wc w (A ++ E)) (hb : s.begun.length ≤ 1000) :
 Calls Tryz.prog 101 #[.pointer (some ⟨b, 0, none⟩), .agg (f.cells (.slice ad l c)).toArray] w fun e w' => e = .returned (.bool (goodP s f)) ∧ Mem wc w' (A ++ E) := by
 obtain ⟨m, O, rfl⟩ := hE
 replace M : Mem wc w (.blk b (scC s m).toArray 144 :: rowE m.lo m.hi 130 6 m.bv m.fs.length (frC m.fs) :: rowE m.lo2 m.hi2 148 2 m.lv m.ls.length (fdC m.ls) :: (m.rows ++ A)) := M.perm List.perm_append_comm
 have hlen : s.begun.length = m.fs.length := by rw [O.begun, List.length_map]
 rw [hlen] at hb
 refine calls_enter Tryz.func101 rfl 66 rfl rfl ?_; intro a S
 refine wp_seq ?_
 skip
 refine wp_region_lit (st_box S M rfl rfl rfl #[_, _, _, _, _, _] rfl ?_); clear S M a; intro a w1 bF S M hB
 refine qG [1] S ?_; clear S a; intro a S
 refine nxC (wp_seq (wp_seq (wp_quiet M (by kernel_rfl) (by kernel_rfl) ?_)))
 refine qt_y S rfl rfl rfl (fun w M => y_fieldAddr (k := 0) S (by kernel_rfl) rfl) ?_; clear S a; intro a S
 refine qt_y S rfl rfl rfl (fun w M => y_load S (by kernel_rfl) rfl (M.cell 0 rfl rfl)) ?_; clear S a; intro a S
 refine qt_y S rfl rfl rfl (fun w M => y_move S rfl) ?_; clear S a; intro a S
 refine qt_y S rfl rfl rfl (fun w M => y_nilCheck S rfl) ?_; clear S a; intro a S
 refine qt_y S rfl rfl rfl (fun w M => y_fieldAddr (k := 0) S (by kernel_rfl) rfl) ?_; clear S a; intro a S
 refine qt_y S rfl rfl rfl (fun w M => y_load S (by kernel_rfl) rfl (M.cell 1 rfl rfl)) ?_; clear S a; intro a S
 refine qt_y S rfl rfl rfl (fun w M => y_int S rfl rfl rfl) ?_; clear S a; intro a S
 refine qt_y S rfl rfl rfl (fun w M => y_move S rfl) ?_; clear S a; intro a S
 refine st_if (t := 13) S rfl ?_ ?_
 ·clear S; intro h13 S
  refine qt_skip 7 S rfl ?_; clear S a; intro a S
  refine qt_y S rfl rfl rfl (fun w M => y_pickT S rfl rfl) ?_; clear S a; intro a S
  refine wpQuiet_nil ?_; clear M; intro w2 M
  refine then_normal (st_condT S rfl (nxD (qG [1] S ?_))); clear S a; intro a S
  refine nxC (wp_ret (then_ret (end_one S rfl (res_tmp rfl) ?_)))
  refine ⟨ret_bool ?_, Mem.backA (X := m.ents b s) (M.drop 0)⟩; clear S M; unfold goodP
  by_cases h1 : f.seq = s.seq
  ·have h2 : f.inc < s.inc := by omega
   simp [h2]
  ·simp [h1]
 clear S; intro h13 S
 refine qt_y S rfl rfl rfl (fun w M => y_fieldAddr (k := 1) S (by kernel_rfl) rfl) ?_; clear S a; intro a S
 refine qt_y S rfl rfl rfl (fun w M => y_load S (by kernel_rfl) rfl (M.cell 0 rfl rfl)) ?_; clear S a; intro a S
 refine qt_y S rfl rfl rfl (fun w M => y_move S rfl) ?_; clear S a; intro a S
 refine qt_y S rfl rfl rfl (fun w M => y_nilCheck S rfl) ?_; clear S a; intro a S
 refine qt_y S rfl rfl rfl (fun w M => y_fieldAddr (k := 1) S (by kernel_rfl) rfl) ?_; clear S a; intro a S
 refine qt_y S rfl rfl rfl (fun w M => y_load S (by kernel_rfl) rfl (M.cell 1 rfl rfl)) ?_; clear S a; intro a S
 refine qt_y S rfl rfl rfl (fun w M => y_int S rfl rfl rfl) ?_; clear S a; intro a S
 refine qt_y S rfl rfl rfl (fun w M => y_pickF S rfl rfl) ?_; clear S a; intro a S
 refine wpQuiet_nil ?_; clear M; intro w3 M
 replace S := S.keep [0, 1, 3, 4, 21]
 refine then_normal (st_if (t := 21) S rfl ?_ ?_)
 ·clear S; intro h21 S
  refine st_condT S rfl (nxD (qG [1] S ?_)); clear S a; intro a S
  refine nxC (wp_ret (then_ret (end_one S rfl (res_tmp rfl) ?_)))
  refine ⟨ret_bool ?_, Mem.backA (X := m.ents b s) (M.drop 0)⟩; clear S M; unfold goodP
  by_cases h1 : f.seq = s.seq
  ·have h2 : f.inc < s.inc := by omega
   simp [h2]
  ·simp [h1]
 clear S; intro h21 S
 refine st_condF S rfl (wp_skip (then_normal (wp_seq (nxD (qR [1, 1, 3, 2] S M ?_))))); clear S a; intro a S
 refine qY S (y_lenS (E := 130) S rfl (by kernel_rfl)) ?_; clear S a; intro a S
 refine qG [1] S ?_; clear S a; intro a S
 refine nxC (st_if (t := 27) S rfl ?_ ?_)
 ·clear S; intro h27 S
  refine st_condT S rfl (nxD (qR [3, 1, 1, 1] S M ?_)); clear S a; intro a S
  refine nxC (wp_ret (then_ret (end_one S rfl (res_tmp rfl) ?_)))
  refine ⟨ret_bool ?_, Mem.backA (X := m.ents b s) (M.drop 0)⟩; clear S M
  have hnil : s.begun = [] := List.eq_nil_of_length_eq_zero (by omega)
  unfold goodP
  simp only [hnil]
  have h1 : f.seq = s.seq := by omega
  have h2 : ¬ f.inc < s.inc := by omega
  simp [h1, h2]
 clear S; intro h27 S
 refine st_condF S rfl (wp_skip (then_normal (wp_seq ?_)))
 obtain ⟨g, hg⟩ : ∃ g, m.fs[0]? = some g := ⟨_, List.getElem?_eq_getElem (by omega)⟩
 refine wp_region_lit (qR [1, 1, 3, 2] S M ?_); clear S a; intro a S
 refine qY S (y_indexR (e := 130) (sz := 6) S (by kernel_rfl) rfl (M.readAll 2 rfl (by unfold maxLen; omega)) rfl (by first | omega | (simp; done) | (simp; omega))) ?_; clear S a; intro a S
 refine qY S (y_loadAgg S (by kernel_rfl) rfl rfl ((M.readAll 2 rfl (by unfold maxLen; omega)).at_.row (i := 0) (frC_get hg) rfl)) ?_; clear S a; intro a S
 refine st_alloc S M rfl rfl #[.int .i64 0, .int .i64 0, .int .i64 0, .int .i64 0, .int .u32 0, .slice none 0 0] (by kernel_rfl) ?_; clear S M a; intro a w4 bG S M hB
 refine qS (sz := 6) (us := [_, _, _, _, _, _]) S M 0 ?_; clear M; intro w5 M
 refine nxC (wp_seq (wp_quiet M (by kernel_rfl) (by kernel_rfl) ?_))
 refine qt_y S rfl rfl rfl (fun w M => y_fieldAddr (k := 2) S (by kernel_rfl) rfl) ?_; clear S a; intro a S
 refine qt_y S rfl rfl rfl (fun w M => y_load S (by kernel_rfl) rfl (M.cell 1 rfl rfl)) ?_; clear S a; intro a S
 refine qt_y S rfl rfl rfl (fun w M => y_move S rfl) ?_; clear S a; intro a S
 refine qt_y S rfl rfl rfl (fun w M => y_nilCheck S rfl) ?_; clear S a; intro a S
 refine qt_y S rfl rfl rfl (fun w M => y_fieldAddr (k := 2) S (by kernel_rfl) rfl) ?_; clear S a; intro a S
 refine qt_y S rfl rfl rfl (fun w M => y_load S (by kernel_rfl) rfl (M.cell 2 rfl rfl)) ?_; clear S a; intro a S
 refine qt_y S rfl rfl rfl (fun w M => y_lenS (E := 130) S rfl (by kernel_rfl)) ?_; clear S a; intro a S
 refine qt_y S rfl rfl rfl (fun w M => y_int S rfl rfl rfl) ?_; clear S a; intro a S
 refine qt_y S rfl rfl rfl (fun w M => y_move S rfl) ?_; clear S a; intro a S
 refine st_fi (t := 45) S rfl ?_ ?_
 ·clear S; intro h45 S
  refine qt_skip 5 S rfl ?_; clear S a; intro a S
  refine qt_y S rfl rfl rfl (fun w M => y_pickF S rfl rfl) ?_; clear S a; intro a S
  refine qt_y S rfl rfl rfl (fun w M => y_move S rfl) ?_; clear S a; intro a S
  refine qt_skip 5 S rfl ?_; clear S a; intro a S
  refine qt_y S rfl rfl rfl (fun w M => y_pickF S rfl rfl) ?_; clear S a; intro a S
  refine qt_y S rfl rfl rfl (fun w M => y_move S rfl) ?_; clear S a; intro a S
  refine qt_skip 5 S rfl ?_; clear S a; intro a S
  refine qt_y S rfl rfl rfl (fun w M => y_pickF S rfl rfl) ?_; clear S a; intro a S
  refine qt_y S rfl rfl rfl (fun w M => y_assign S rfl) ?_; clear S a; intro a S
  refine wpQuiet_nil ?_; clear M; intro w9 M
  replace S := S.keep [0, 1, 3, 21, 27, 5, 4]
  refine then_normal (wp_ret (end_one S rfl (res_tmp rfl) ?_))
  refine ⟨ret_bool ?_, Mem.backA (X := m.ents b s) ((M.drop 0).drop 0)⟩; clear S M
  have hcons : s.begun = g.pl :: (m.fs.drop 1).map FrM.pl := by
   rw [O.begun]
   cases hf : m.fs with
   | nil => rw [hf] at hg; cases hg
   | cons x t => rw [hf] at hg; cases hg; rfl
  have h1 : f.seq = s.seq := by omega
  have h2 : ¬ f.inc < s.inc := by omega
  unfold goodP
  rw [hlen]
  simp only [hcons]
  simp [h1, h2, *]
 clear S; intro h45 S
 refine qt_y S rfl rfl rfl (fun w M => y_fieldAddr (k := 3) S (by kernel_rfl) rfl) ?_; clear S a; intro a S
 refine qt_y S rfl rfl rfl (fun w M => y_load S (by kernel_rfl) rfl (M.cell 1 rfl rfl)) ?_; clear S a; intro a S
 refine qt_y S rfl rfl rfl (fun w M => y_fieldAddr (k := 3) S (by kernel_rfl) rfl) ?_; clear S a; intro a S
 refine qt_y S rfl rfl rfl (fun w M => y_load S (by kernel_rfl) rfl (M.cell 0 rfl rfl)) ?_; clear S a; intro a S
 refine qt_y S rfl rfl rfl (fun w M => y_int S rfl rfl rfl) ?_; clear S a; intro a S
 refine qt_y S rfl rfl rfl (fun w M => y_pickT S rfl rfl) ?_; clear S a; intro a S
 refine qt_y S rfl rfl rfl (fun w M => y_move S rfl) ?_; clear S a; intro a S
 refine st_fi (t := 52) S rfl ?_ ?_
 ·clear S; intro h52 S
  refine qt_skip 5 S rfl ?_; clear S a; intro a S
  refine qt_y S rfl rfl rfl (fun w M => y_pickF S rfl rfl) ?_; clear S a; intro a S
  refine qt_y S rfl rfl rfl (fun w M => y_move S rfl) ?_; clear S a; intro a S
  refine qt_skip 5 S rfl ?_; clear S a; intro a S
  refine qt_y S rfl rfl rfl (fun w M => y_pickF S rfl rfl) ?_; clear S a; intro a S
  refine qt_y S rfl rfl rfl (fun w M => y_assign S rfl) ?_; clear S a; intro a S
  refine wpQuiet_nil ?_; clear M; intro w8 M
  replace S := S.keep [0, 1, 3, 21, 27, 5, 4]
  refine then_normal (wp_ret (end_one S rfl (res_tmp rfl) ?_))
  refine ⟨ret_bool ?_, Mem.backA (X := m.ents b s) ((M.drop 0).drop 0)⟩; clear S M
  have hcons : s.begun = g.pl :: (m.fs.drop 1).map FrM.pl := by
   rw [O.begun]
   cases hf : m.fs with
   | nil => rw [hf] at hg; cases hg
   | cons x t => rw [hf] at hg; cases hg; rfl
  have h1 : f.seq = s.seq := by omega
  have h2 : ¬ f.inc < s.inc := by omega
  unfold goodP
  rw [hlen]
  simp only [hcons]
  simp [h1, h2, *]
 clear S; intro h52 S
 refine qt_y S rfl rfl rfl (fun w M => y_fieldAddr (k := 4) S (by kernel_rfl) rfl) ?_; clear S a; intro a S
 refine qt_y S rfl rfl rfl (fun w M => y_load S (by kernel_rfl) rfl (M.cell 1 rfl rfl)) ?_; clear S a; intro a S
 refine qt_y S rfl rfl rfl (fun w M => y_fieldAddr (k := 4) S (by kernel_rfl) rfl) ?_; clear S a; intro a S
 refine qt_y S rfl rfl rfl (fun w M => y_load S (by kernel_rfl) rfl (M.cell 0 rfl rfl)) ?_; clear S a; intro a S
 refine qt_y S rfl rfl rfl (fun w M => y_eql32 S rfl rfl) ?_; clear S a; intro a S
 refine qt_y S rfl rfl rfl (fun w M => y_pickT S rfl rfl) ?_; clear S a; intro a S
 refine qt_y S rfl rfl rfl (fun w M => y_move S rfl) ?_; clear S a; intro a S
 refine st_fi (t := 59) S rfl ?_ ?_
 ·clear S; intro h59 S
  refine qt_skip 5 S rfl ?_; clear S a; intro a S
  refine qt_y S rfl rfl rfl (fun w M => y_pickF S rfl rfl) ?_; clear S a; intro a S
  refine qt_y S rfl rfl rfl (fun w M => y_assign S rfl) ?_; clear S a; intro a S
  refine wpQuiet_nil ?_; clear M; intro w7 M
  replace S := S.keep [0, 1, 3, 21, 27, 5, 4]
  refine then_normal (wp_ret (end_one S rfl (res_tmp rfl) ?_))
  refine ⟨ret_bool ?_, Mem.backA (X := m.ents b s) ((M.drop 0).drop 0)⟩; clear S M
  have hcons : s.begun = g.pl :: (m.fs.drop 1).map FrM.pl := by
   rw [O.begun]
   cases hf : m.fs with
   | nil => rw [hf] at hg; cases hg
   | cons x t => rw [hf] at hg; cases hg; rfl
  have h1 : f.seq = s.seq := by omega
  have h2 : ¬ f.inc < s.inc := by omega
  unfold goodP
  rw [hlen]
  simp only [hcons]
  simp [h1, h2, *]
 clear S; intro h59 S
 refine qt_y S rfl rfl rfl (fun w M => y_fieldAddr (k := 1) S (by kernel_rfl) rfl) ?_; clear S a; intro a S
 refine qt_y S rfl rfl rfl (fun w M => y_load S (by kernel_rfl) rfl (M.cell 1 rfl rfl)) ?_; clear S a; intro a S
 refine qt_y S rfl rfl rfl (fun w M => y_fieldAddr (k := 1) S (by kernel_rfl) rfl) ?_; clear S a; intro a S
 refine qt_y S rfl rfl rfl (fun w M => y_load S (by kernel_rfl) rfl (M.cell 0 rfl rfl)) ?_; clear S a; intro a S
 refine qt_y S rfl rfl rfl (fun w M => y_int S rfl rfl rfl) ?_; clear S a; intro a S
 refine qt_y S rfl rfl rfl (fun w M => y_pickT S rfl rfl) ?_; clear S a; intro a S
 refine qt_y S rfl rfl rfl (fun w M => y_assign S rfl) ?_; clear S a; intro a S
 refine wpQuiet_nil ?_; clear M; intro w6 M
 replace S := S.keep [0, 1, 3, 21, 27, 5, 4]
 refine then_normal (wp_ret (end_one S rfl (res_tmp rfl) ?_))
 refine ⟨ret_bool ?_, Mem.backA (X := m.ents b s) ((M.drop 0).drop 0)⟩; clear S M
 have hcons : s.begun = g.pl :: (m.fs.drop 1).map FrM.pl := by
  rw [O.begun]
  cases hf : m.fs with
  | nil => rw [hf] at hg; cases hg
  | cons x t => rw [hf] at hg; cases hg; rfl
 have h1 : f.seq = s.seq := by omega
 have h2 : ¬ f.inc < s.inc := by omega
 unfold goodP
 rw [hlen]
 simp only [hcons]
 simp [h1, h2, *]
end Go.Proofs.YtodfphphidhjbaaGreat

