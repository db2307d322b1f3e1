/-
  What JudgeNil rests on, part 3.
-/
import Derived.Test.YtdcgcgifgnaccaaGreatP2
namespace Go.Proofs.YtdcgcgifgnaccaaGreat
open Go.RowKit Go.Sort
def fitsP (n k : Int) : Prop := 1 ≤ k ∧ k ≤ 6 ∧ 0 ≤ n ∧ n < 256 ^ k.toNat
theorem pow8 (k : Nat) : (2 : Int) ^ (8 * k) = 256 ^ k := by rw [Int.pow_mul]; rfl
open Classical in
noncomputable def fitsB (n k : Int) : Bool := decide (fitsP n k)
theorem fits_any (n k : Int) (w : World) : Calls Tryz.prog 276 #[.int .i64 n, .int .i64 k] w fun e w' => e = .returned (.bool (fitsB n k)) ∧ Below w.heap.size w w' := by
 have M := Mem.start w
 have key : ∀ b : Bool, (b = true ↔ fitsP n k) → b = fitsB n k := fun b h => by unfold fitsB; rw [Bool.eq_iff_iff, h]; simp
 refine qI Tryz.func276 22 ?_; intro a S
 refine nxD (qG [1] S ?_); intro a S
 refine nxA (qG [1, 1, 1] S ?_); intro a S
 refine qf 7 S ?_ ?_
 ·intro h7 S
  refine qG [0, 0, 1, 1, 0, 0, 1, 1, 0, 0, 0, 0, 0, 1, 1] S ?_; intro a S
  replace S := S.keep [0, 1, 4]
  refine nxC (wp_ret (qO S ?_))
  refine ⟨ret_bool (key _ ?_), M.below⟩
  unfold fitsP
  first
   | (simp; omega)
   | (have h8 : ((8 : Int) * k).toNat = 8 * k.toNat := by omega
      rw [h8, pow8]
      have hp : (0 : Int) < 256 ^ k.toNat := Int.pow_pos (by omega)
      simp only [beq_iff_eq]
      constructor
      ·intro h
       refine ⟨by omega, by omega, by omega, ?_⟩
       rcases Int.lt_or_le n (256 ^ k.toNat) with hlt | hle
       ·exact hlt
       ·have := Int.le_ediv_of_mul_le (a := 1) (b := n) hp (by omega)
        omega
      ·rintro ⟨_, _, h3, h4⟩
       exact Int.ediv_eq_zero_of_lt h3 h4)
 intro h7 S
 refine qG [1, 1, 1, 1] S ?_; intro a S
 refine qf 11 S ?_ ?_
 ·intro h11 S
  refine qG [0, 0, 1, 1, 0, 0, 0, 0, 0, 1, 1] S ?_; intro a S
  replace S := S.keep [0, 1, 4]
  refine nxC (wp_ret (qO S ?_))
  refine ⟨ret_bool (key _ ?_), M.below⟩
  unfold fitsP
  first
   | (simp; omega)
   | (have h8 : ((8 : Int) * k).toNat = 8 * k.toNat := by omega
      rw [h8, pow8]
      have hp : (0 : Int) < 256 ^ k.toNat := Int.pow_pos (by omega)
      simp only [beq_iff_eq]
      constructor
      ·intro h
       refine ⟨by omega, by omega, by omega, ?_⟩
       rcases Int.lt_or_le n (256 ^ k.toNat) with hlt | hle
       ·exact hlt
       ·have := Int.le_ediv_of_mul_le (a := 1) (b := n) hp (by omega)
        omega
      ·rintro ⟨_, _, h3, h4⟩
       exact Int.ediv_eq_zero_of_lt h3 h4)
 intro h11 S
 refine qG [1, 1, 1, 1] S ?_; intro a S
 refine qf 15 S ?_ ?_
 ·intro h15 S
  refine qG [0, 0, 0, 0, 0, 1, 1] S ?_; intro a S
  replace S := S.keep [0, 1, 4]
  refine nxC (wp_ret (qO S ?_))
  refine ⟨ret_bool (key _ ?_), M.below⟩
  unfold fitsP
  first
   | (simp; omega)
   | (have h8 : ((8 : Int) * k).toNat = 8 * k.toNat := by omega
      rw [h8, pow8]
      have hp : (0 : Int) < 256 ^ k.toNat := Int.pow_pos (by omega)
      simp only [beq_iff_eq]
      constructor
      ·intro h
       refine ⟨by omega, by omega, by omega, ?_⟩
       rcases Int.lt_or_le n (256 ^ k.toNat) with hlt | hle
       ·exact hlt
       ·have := Int.le_ediv_of_mul_le (a := 1) (b := n) hp (by omega)
        omega
      ·rintro ⟨_, _, h3, h4⟩
       exact Int.ediv_eq_zero_of_lt h3 h4)
 intro h15 S
 refine qG [1, 1] S ?_; intro a S
 refine qA S ?_; intro a S
 (first | refine qY S (y_shrN S rfl rfl (by omega)) ?_ | refine qY S (y_shr S rfl rfl (by omega)) ?_); intro a S
 refine qG [1, 1, 1] S ?_; intro a S
 replace S := S.keep [0, 1, 4]
 refine nxC (wp_ret (qO S ?_))
 refine ⟨ret_bool (key _ ?_), M.below⟩
 unfold fitsP
 first
  | (simp; omega)
  | (have h8 : ((8 : Int) * k).toNat = 8 * k.toNat := by omega
     rw [h8, pow8]
     have hp : (0 : Int) < 256 ^ k.toNat := Int.pow_pos (by omega)
     simp only [beq_iff_eq]
     constructor
     ·intro h
      refine ⟨by omega, by omega, by omega, ?_⟩
      rcases Int.lt_or_le n (256 ^ k.toNat) with hlt | hle
      ·exact hlt
      ·have := Int.le_ediv_of_mul_le (a := 1) (b := n) hp (by omega)
       omega
     ·rintro ⟨_, _, h3, h4⟩
      exact Int.ediv_eq_zero_of_lt h3 h4)
theorem behind_any (v u : Value) (bs ms : List UInt8) (w : World) (hv : Bs 0 w.heap.size w v bs) (hu : Bs 0 w.heap.size w u ms) (hb : bs.length ≤ 70000000000000) (hm : ms.length ≤ 70000000000000) :
 Calls Tryz.prog 277 #[v, u] w fun e w' => ∃ v', e = .returned v' ∧ Fresh w w' 5 1 v' (bs ++ ms).length (bcells (bs ++ ms)) := by
 have M := Mem.start w
 refine qI Tryz.func277 18 ?_; intro a S
 refine nxD (qG [1] S ?_); intro a S
 refine nxA (qG [1] S ?_); intro a S
 refine qY S (y_lenR (E := 5) S rfl (M.arg hv) (by kernel_rfl)) ?_; intro a S
 refine qG [1] S ?_; intro a S
 refine qY S (y_lenR (E := 5) S rfl (M.arg hu) (by kernel_rfl)) ?_; intro a S
 refine qA S ?_; intro a S
 refine st_make (e := 5) (sz := 1) (by_ := 1) (zc := [.int .u8 0]) S M rfl rfl (by kernel_rfl) rfl rfl (by omega) (by omega) (by omega) (by omega) ?_; intro a w1 b1 S M hB
 try simp only [Int.toNat_natCast, Int.reduceToNat, Nat.reduceMul] at S M
 refine qG [1] S ?_; intro a S
 refine nxA ?_
 rw [show ((bs.length : Int) + (ms.length : Int)).toNat = bs.length + ms.length by omega] at S M
 replace M := M.toRow (sz := 1) (m := 0) (cap := bs.length + ms.length) (xs := []) 0 rfl rfl (Nat.zero_le _) (by unfold maxLen; omega) (by simp [madeL_length]) (by simp)
 refine qY S (y_move S rfl) ?_; intro a S
 refine qG [1] S ?_; intro a S
 refine st_append (e := 5) (sz := 1) (by_ := 1) (zc := [.int .u8 0]) S M 0 rfl rfl (by kernel_rfl) rfl (by decide) rfl rfl rfl (M.arg hv) (allOne_bcells _) (by omega) (by unfold maxLen; omega) ?_; intro a w2 vA loA hiA S M
 refine qG [1] S ?_; intro a S
 refine nxA (qG [1, 1] S ?_); intro a S
 refine st_append (e := 5) (sz := 1) (by_ := 1) (zc := [.int .u8 0]) S M 0 rfl rfl (by kernel_rfl) rfl (by decide) rfl rfl rfl (M.arg hu) (allOne_bcells _) (by omega) (by unfold maxLen; omega) ?_; intro a w3 vA loA hiA S M
 refine qG [1] S ?_; intro a S
 replace S := S.keep [0, 1, 5, 4]
 refine nxC (wp_ret (qO S ?_))
 exact ⟨_, rfl, by have := M.fresh 0 rfl; rwa [Nat.zero_add, List.nil_append, ← bcells_append, ← List.length_append] at this⟩
def digs (n : Int) (k : Nat) : List Value := (List.range 6).map fun i => .int .u8 ((if i < k then byteOf (n / 256 ^ i) else 0).toNat : Int)
theorem digs_set (n : Int) (k : Nat) : (digs n k).set k (.int .u8 ((byteOf (n / 256 ^ k)).toNat : Int)) = digs n (k + 1) := by
 apply List.ext_getElem?
 intro i
 rw [List.getElem?_set]
 by_cases h : k = i
 ·subst h
  by_cases hk : k < 6
  ·simp [digs, hk]
  ·simp [digs, hk]
 ·rw [if_neg h]
  have e : (i < k) = (i < k + 1) := by simp only [eq_iff_iff]; omega
  by_cases hi : i < 6 <;> simp [digs, hi, e]
theorem digs_take {n : Int} {k : Nat} (hk : k ≤ 6) : (digs n k).take k = bcells (leB n k) := by
 apply List.ext_getElem?
 intro i
 rcases Nat.lt_or_ge i k with h | h
 ·rw [List.getElem?_take_of_lt h]
  simp [digs, bcells, leB, h, show i < 6 by omega]
 ·rw [List.getElem?_eq_none (by simp; omega), List.getElem?_eq_none (by simp [bcells, leB]; omega)]
open Classical in
noncomputable def putE (n k : Int) : Int := if fitsP n k then 0 else 2
def PutPost (bs : List UInt8) (n k : Int) (w : World) (e : Ending) (w' : World) : Prop :=
 ∃ v', e = .returned (.tuple #[v', .int .i64 (putE n k)]) ∧ Below w.heap.size w w' ∧ (fitsP n k → Fresh w w' 5 1 v' (bs ++ leB n k.toNat).length (bcells (bs ++ leB n k.toNat))) ∧ (¬ fitsP n k → v' = .slice none 0 0)
theorem put_any (v : Value) (bs : List UInt8) (n k : Int) (w : World) (hv : Bs 0 w.heap.size w v bs) (hb : bs.length ≤ 70000000000000) : Calls Tryz.prog 205 #[v, .int .i64 n, .int .i64 k] w (PutPost bs n k w) := by
 have M := Mem.start w
 refine qI Tryz.func205 30 ?_; intro a S
 refine nxD (qG [1, 1] S ?_); intro a S
 refine nxC (wp_seq (nxD (qG [1, 1] S ?_))); intro a S
 refine qQ (xs := [.tmp 10, .tmp 11]) S (qE Tryz.func276) rfl (fits_any _ _ _) M ?_; intro a w1 S hK M
 refine qG [1] S ?_; intro a S
 refine nxC (st_split (t := 13) S rfl ?_ ?_)
 ·intro h13 S
  refine cT S (nxD (qG [1, 1] S ?_)); intro a S
  refine nxC (wp_ret (then_ret (qOO S ?_)))
  have hf : ¬ fitsP n k := by unfold fitsB at h13; simpa using h13
  exact ⟨_, by unfold putE; rw [if_neg hf], M.below, fun h => absurd h hf, fun _ => rfl⟩
 intro h13 S
 refine cF S (wp_skip (nxE ?_))
 have hf : fitsP n k := by unfold fitsB at h13; simpa using h13
 obtain ⟨hk1, hk6, hn0, hnk⟩ := hf
 obtain ⟨K, rfl⟩ := Int.eq_ofNat_of_zero_le (show 0 ≤ k by omega)
 refine qN S M #[.int .u8 0, .int .u8 0, .int .u8 0, .int .u8 0, .int .u8 0, .int .u8 0] ?_; intro a w2 b1 S M hB
 refine nxC (wp_seq (nxD (qG [1, 1] S ?_))); intro a S
 refine nxC (wp_block (wp_loop_g (fun m a w' => ∃ (j : Nat), j ≤ K ∧ m = K - j ∧ Sees 30 a [(0, v), (1, .int .i64 n), (2, .int .i64 (K : Int)), (8, .pointer (some ⟨b1, 0, none⟩)), (14, .int .i64 (K : Int)), (15, .int .i64 (j : Int))] ∧ Mem w w' [.blk b1 (digs n j).toArray 446]) (K) ?_ ?_))
 ·skip
  exact ⟨0, Nat.zero_le _, rfl, S.sub _ rfl, M⟩
 intro m a wl
 rintro ⟨j, hj, rfl, S, M⟩
 refine nxD (qG [1] S ?_); intro a S
 refine nxC (wp_seq (qf 16 S ?_ ?_))
 ·intro h16 S
  refine cF S (wp_exit (then_exit (then_exit (block_hit (nxE (qG [1, 1] S ?_)))))); intro a S
  refine qY S (y_sliceA02 (m := 6) (sz := 1) S (by kernel_rfl) rfl rfl (by first | omega | (simp; done) | (simp; omega))) ?_; intro a S
  obtain rfl : j = K := by omega
  have hd : Bs 0 wl.heap.size wl (.slice (some ⟨b1, 0, none⟩) j 6) (leB n j) := by
   unfold Bs; rw [leB_length]
   exact (Rd.of_blk (M.blk 0 rfl) (by simp [bcells, leB]) (by omega) (by unfold maxLen; omega) (by rw [Nat.mul_one]; exact digs_take (by omega))).wide (Nat.zero_le _) (M.fits _ (List.mem_of_getElem? (show _[0]? = _ from rfl))).2
  refine qC (xs := [.tmp 26, .tmp 28]) S (qE Tryz.func277) rfl (behind_any v _ bs (leB n j) _ (M.argW hv) hd hb (by rw [leB_length]; omega)) ?_
  rintro _ w4 ⟨v', rfl, hF⟩; refine ⟨_, rfl, ?_⟩; intro a S
  obtain ⟨lo, hi, -, M⟩ := M.pushFresh hF
  refine qG [1, 1] S ?_; intro a S
  refine nxC (wp_ret (qOO S ?_))
  have hf : fitsP n (j : Int) := ⟨hk1, hk6, hn0, hnk⟩
  exact ⟨_, by unfold putE; rw [if_pos hf], M.below, fun _ => by
   rw [Int.toNat_natCast]; exact M.fresh 0 rfl, fun h => absurd hf h⟩
 intro h16 S
 refine cT S (wp_skip (then_normal (wp_seq (wp_block (nxD (qG [1, 1] S ?_)))))); intro a S
 refine nxB (qG [1, 1, 1] S ?_); intro a S
 refine qA S ?_; intro a S
 (first | refine qY S (y_shrN S rfl rfl (by omega)) ?_ | refine qY S (y_shr S rfl rfl (by omega)) ?_); intro a S
 refine qY S (y_to8 S rfl (by kernel_rfl) (by kernel_rfl)) ?_; intro a S
 refine qY S (y_indexA (m := 6) (sz := 1) S (by kernel_rfl) rfl rfl (by first | omega | (simp; done) | (simp; omega))) ?_; intro a S
 try simp only [Int.toNat_natCast, Nat.mul_one, Nat.zero_add] at S
 refine st_store (sz := 1) (us := [_]) S M 0 rfl (by kernel_rfl) rfl rfl rfl rfl rfl rfl (by simp [digs]; omega) ?_; intro w3 M
 simp only [List.set_cons_zero, List.set_cons_succ] at M
 refine wpList_nil (block_normal (nxF (qA S ?_))); intro a S
 refine qG [1] S ?_; intro a S
 refine nxC ?_
 have e8 : n / 2 ^ ((8 : Int) * (j : Int)).toNat = n / 256 ^ j := by rw [show ((8 : Int) * (j : Int)).toNat = 8 * j by omega, pow8]
 refine ⟨K - (j + 1), by omega, j + 1, by omega, rfl, S.sub _ rfl, ?_⟩
 rw [← digs_set, ← e8]; exact M
open Classical in
noncomputable def getE (bs : List UInt8) (at_ k : Int) : Int := if k < 1 ∨ 6 < k then 2 else if at_ < 0 ∨ (bs.length : Int) - k < at_ then 40 else 0
def getN (bs : List UInt8) (at_ k : Int) : Int := if (1 ≤ k ∧ k ≤ 6) ∧ 0 ≤ at_ ∧ at_ ≤ (bs.length : Int) - k then (leN ((bs.drop at_.toNat).take k.toNat) : Int) else 0
theorem get_any (v : Value) (bs : List UInt8) (at_ k : Int) (w : World) (hv : Bs 0 w.heap.size w v bs) (hk : -9223372036854775808 ≤ k) : Calls Tryz.prog 232 #[v, .int .i64 at_, .int .i64 k] w fun e w' => e = .returned (.tuple #[.int .i64 (getN bs at_ k), .int .i64 (getE bs at_ k)]) ∧ Below w.heap.size w w' := by
 have M := Mem.start w
 have hl := hv.2.1
 unfold maxLen at hl
 refine qI Tryz.func232 44 ?_; intro a S
 refine nxD (qG [1, 1] S ?_); intro a S
 refine nxC (wp_seq (nxD (qG [1, 1, 1] S ?_))); intro a S
 refine qi 12 S ?_ ?_
 ·intro h12 S
  refine qG [0, 0, 1] S ?_; intro a S
  refine nxC (cT S (nxD (qG [1, 1] S ?_))); intro a S
  refine nxC (wp_ret (then_ret (qOO S ?_)))
  refine ⟨?_, M.below⟩; unfold getN getE; rw [if_neg (by omega), if_pos (by omega)]
 intro h12 S
 refine qG [1, 1, 1] S ?_; intro a S
 refine nxC (qi 15 S ?_ ?_)
 ·intro h15 S
  refine cT S (nxD (qG [1, 1] S ?_)); intro a S
  refine nxC (wp_ret (then_ret (qOO S ?_)))
  refine ⟨?_, M.below⟩; unfold getN getE; rw [if_neg (by omega), if_pos (by omega)]
 intro h15 S
 refine cF S (wp_skip (then_normal (wp_seq (nxD (qG [1, 1, 1] S ?_))))); intro a S
 refine qi 18 S ?_ ?_
 ·intro h18 S
  refine qG [0, 0, 0, 0, 0, 0, 1] S ?_; intro a S
  replace S := S.keep [0, 1, 2, 6, 7, 15, 25]
  refine nxC (cT S (nxD (qG [1, 1] S ?_))); intro a S
  refine nxC (wp_ret (then_ret (qOO S ?_)))
  refine ⟨?_, M.below⟩; unfold getN getE; rw [if_neg (by omega), if_neg (by omega), if_pos (by omega)]
 intro h18 S
 refine qG [1, 1] S ?_; intro a S
 refine qY S (y_lenR (E := 5) S rfl (M.arg hv) (by kernel_rfl)) ?_; intro a S
 refine qG [1] S ?_; intro a S
 refine qA S ?_; intro a S
 refine qG [1, 1] S ?_; intro a S
 replace S := S.keep [0, 1, 2, 6, 7, 15, 25]
 refine nxC (qi 25 S ?_ ?_)
 ·intro h25 S
  refine cT S (nxD (qG [1, 1] S ?_)); intro a S
  refine nxC (wp_ret (then_ret (qOO S ?_)))
  refine ⟨?_, M.below⟩; unfold getN getE; rw [if_neg (by omega), if_neg (by omega), if_pos (by omega)]
 intro h25 S
 refine cF S (wp_skip (nxE ?_))
 obtain ⟨K, rfl⟩ := Int.eq_ofNat_of_zero_le (show 0 ≤ k by omega)
 obtain ⟨A, rfl⟩ := Int.eq_ofNat_of_zero_le h18
 refine qY S (y_assign S rfl) ?_; intro a S
 refine nxC (wp_seq (nxD (qG [1, 1] S ?_))); intro a S
 refine nxC (wp_block (wp_loop_g (fun m a w' => ∃ (j : Nat), j ≤ K ∧ m = K - j ∧ Sees 44 a [(0, v), (1, .int .i64 (A : Int)), (2, .int .i64 (K : Int)), (8, .int .i64 ((leN ((bs.drop A).take j) : Nat) : Int)), (26, .int .i64 (K : Int)), (27, .int .i64 (j : Int))] ∧ Mem w w' []) (K) ?_ ?_))
 ·skip
  exact ⟨0, Nat.zero_le _, rfl, S.sub _ rfl, M⟩
 intro m a wl
 rintro ⟨j, hj, rfl, S, M⟩
 refine nxD (qG [1] S ?_); intro a S
 refine nxC (wp_seq (qf 28 S ?_ ?_))
 ·intro h28 S
  refine cF S (wp_exit (then_exit (then_exit (block_hit (nxE (qG [1, 1, 1] S ?_)))))); intro a S
  refine nxC (wp_ret (qOO S ?_))
  obtain rfl : j = K := by omega
  refine ⟨?_, M.below⟩
  unfold getN getE
  rw [if_pos (by omega), if_neg (by omega), if_neg (by omega), Int.toNat_natCast, Int.toNat_natCast]
 intro h28 S
 refine cT S (wp_skip (then_normal (wp_seq (wp_block (nxD (qG [1, 1] S ?_)))))); intro a S
 refine nxB ?_
 have hj5 : j ≤ 5 := by omega
 obtain ⟨x, hx⟩ : ∃ x, (bs.drop A)[j]? = some x := ⟨_, List.getElem?_eq_getElem (by simp; omega)⟩
 have hx' : bs[((A : Int) + (j : Int)).toNat]? = some x := by rw [show ((A : Int) + (j : Int)).toNat = A + j by omega, ← List.getElem?_drop]; exact hx
 obtain ⟨hs1, hs2⟩ := sh_bd x j hj5
 have hx256 : x.toNat < 256 := UInt8.toNat_lt x
 have hl1 := leN_lt ((bs.drop A).take j)
 have hl2 : leN ((bs.drop A).take j) < 2 ^ 40 := Nat.lt_of_lt_of_le hl1 (by
  rw [show (256 : Nat) = 2 ^ 8 from rfl, ← Nat.pow_mul]; exact Nat.pow_le_pow_right (by omega) (by simp; omega))
 refine qY S (y_move S rfl) ?_; intro a S
 refine qG [1, 1, 1] S ?_; intro a S
 refine qA S ?_; intro a S
 refine qY S (qX 5 1 S (M.arg hv)) ?_; intro a S
 try simp only [Int.toNat_natCast, Nat.mul_one, Nat.zero_add] at S
 refine qY S (y_load S (by kernel_rfl) rfl ((M.arg hv).byte hx')) ?_; intro a S
 (first | refine qY S (y_to64 S rfl (by kernel_rfl) (by kernel_rfl) (by omega)) ?_ | refine qY S (y_conv (k' := .i64) S rfl (by kernel_rfl) (by kernel_rfl)) ?_); intro a S
 refine qG [1] S ?_; intro a S
 refine qA S ?_; intro a S
 (first | refine qY S (y_shlN S rfl rfl (by omega) (by rw [hs1]; omega)) ?_ | refine qY S (y_shl S rfl rfl (by omega)) ?_); intro a S
 rw [hs1] at S
 (first | refine qY S (y_orN S rfl rfl (by omega) (by omega)) ?_ | refine qY S (y_int S rfl rfl rfl) ?_); intro a S
 refine qG [1] S ?_; intro a S
 replace S := S.keep [0, 1, 2, 26, 27, 28, 9, 8]
 refine wpList_nil (block_normal (nxF (qA S ?_))); intro a S
 refine qG [1] S ?_; intro a S
 refine nxC ?_
 refine ⟨K - (j + 1), by omega, j + 1, by omega, rfl, ?_, M⟩
 rw [← leN_snoc hx]; exact S.sub _ rfl
end Go.Proofs.YtdcgcgifgnaccaaGreat

namespace Go.Proofs.YtdcgcgifgnaccaaGreat
open Go.RowKit Go.Sort
theorem sequence_any (k : Int) (w : World) : Calls Tryz.prog 395 #[.int .i64 k] w fun e w' => e = .returned (.bool (decide (1 ≤ k ∧ k ≤ 1099511627776))) ∧ Below w.heap.size w w' := by
 have M := Mem.start w
 refine calls_enter Tryz.func395 rfl _ rfl rfl ?_
 intro a S
 refine nxD (qG [1] S ?_); intro a S
 refine nxA (qG [1, 1, 1] S ?_); intro a S
 refine qi 5 S ?_ ?_
 ·intro h5 S
  refine qG [1, 1, 1, 1] S ?_; intro a S
  refine nxC (wp_ret (qO S ?_))
  refine ⟨ret_bool ?_, M.below⟩; rw [Bool.eq_iff_iff]; (first | (simp; done) | (simp; omega))
 intro h5 S
 refine qG [0, 0, 1, 1] S ?_; intro a S
 refine nxC (wp_ret (qO S ?_))
 refine ⟨ret_bool ?_, M.below⟩; rw [Bool.eq_iff_iff]; (first | (simp; done) | (simp; omega))
theorem incarnation_any (k : Int) (w : World) : Calls Tryz.prog 396 #[.int .i64 k] w fun e w' => e = .returned (.bool (decide (0 ≤ k ∧ k ≤ 1048576))) ∧ Below w.heap.size w w' := by
 have M := Mem.start w
 refine calls_enter Tryz.func396 rfl _ rfl rfl ?_
 intro a S
 refine nxD (qG [1] S ?_); intro a S
 refine nxA (qG [1, 1, 1] S ?_); intro a S
 refine qi 5 S ?_ ?_
 ·intro h5 S
  refine qG [1, 1, 1, 1] S ?_; intro a S
  refine nxC (wp_ret (qO S ?_))
  refine ⟨ret_bool ?_, M.below⟩; rw [Bool.eq_iff_iff]; (first | (simp; done) | (simp; omega))
 intro h5 S
 refine qG [0, 0, 1, 1] S ?_; intro a S
 refine nxC (wp_ret (qO S ?_))
 refine ⟨ret_bool ?_, M.below⟩; rw [Bool.eq_iff_iff]; (first | (simp; done) | (simp; omega))
structure Fr where
 seq : Int
 inc : Int
 part : Int
 of : Int
 mark : BitVec 32
abbrev Fr.cells (f : Fr) (lv : Value) : List Value := [.int .i64 f.seq, .int .i64 f.inc, .int .i64 f.part, .int .i64 f.of, .int .u32 (f.mark.toNat : Int), lv]
def Fr.may (f : Fr) (l : Nat) : Bool := decide ((1 ≤ f.seq ∧ f.seq ≤ 1099511627776) ∧ (0 ≤ f.inc ∧ f.inc ≤ 1048576) ∧ (1 ≤ f.of ∧ f.of ≤ 2) ∧ (0 ≤ f.part ∧ f.part < f.of) ∧ (1 ≤ l ∧ l ≤ 45) ∧ (f.part < f.of - 1 → l = 45))
theorem mayF_any (f : Fr) (ad : Option Addr) (l c : Nat) (w : World) : Calls Tryz.prog 392 #[.agg (f.cells (.slice ad l c)).toArray] w fun e w' => e = .returned (.bool (f.may l)) ∧ Below w.heap.size w w' := by
 have M := Mem.start w
 refine calls_enter Tryz.func392 rfl _ rfl rfl ?_
 intro a S
 refine nxD (st_box S M rfl rfl rfl #[_, _, _, _, _, _] rfl ?_); intro a w1 b1 S M hB
 refine qG [1] S ?_; intro a S
 refine nxC (wp_scope_straight ?_)
 refine nxD (qG [1] S ?_); intro a S
 refine nxC (wp_seq (wp_label ?_))
 refine then_normal (wp_seq (wp_block (wp_seq (nxD (qR [1, 1] S M ?_))))); intro a S
 refine qQ (xs := [.tmp 6]) S (qE Tryz.func395) rfl (sequence_any _ _) M ?_; intro a w2 S hK M
 refine qG [1, 1] S ?_; intro a S
 refine nxC (qi 4 S ?_ ?_)
 ·intro h4 S
  refine cT S (wp_skip (then_normal (cT S (wp_exit (block_hit (nxE (qG [1, 1] S ?_))))))); intro a S
  refine nxC (wp_ret (sc_ret ?_))
  refine qO S ?_
  refine ⟨ret_bool ?_, M.below⟩; rw [Bool.eq_iff_iff]; (first | (simp [Fr.may]; done) | (simp [Fr.may]; omega))
 intro h4 S
 refine cF S (wp_region_lit (qR [2, 1] S M ?_)); intro a S
 refine qQ (xs := [.tmp 10]) S (qE Tryz.func396) rfl (incarnation_any _ _) M ?_; intro a w3 S hK M
 refine qG [1, 1] S ?_; intro a S
 refine nxC (qi 4 S ?_ ?_)
 ·intro h4 S
  refine cT S (wp_exit (block_hit (nxE (qG [1, 1] S ?_)))); intro a S
  refine nxC (wp_ret (sc_ret ?_))
  refine qO S ?_
  refine ⟨ret_bool ?_, M.below⟩; rw [Bool.eq_iff_iff]; (first | (simp [Fr.may]; done) | (simp [Fr.may]; omega))
 intro h4 S
 refine cF S (wp_seq (nxD (qR [4, 1, 1, 1] S M ?_))); intro a S
 refine nxC (qi 13 S ?_ ?_)
 ·intro h13 S
  refine cT S (wp_skip (then_normal (cT S (wp_exit (block_hit (nxE (qG [1, 1] S ?_))))))); intro a S
  replace S := S.keep [0, 1, 3, 4, 13, 2]
  refine nxC (wp_ret (sc_ret ?_))
  refine qO S ?_
  refine ⟨ret_bool ?_, M.below⟩; rw [Bool.eq_iff_iff]; (first | (simp [Fr.may]; done) | (simp [Fr.may]; omega))
 intro h13 S
 refine cF S (wp_region_lit (qR [4, 1, 1, 1] S M ?_)); intro a S
 replace S := S.keep [0, 1, 2, 3, 4, 13]
 refine nxC (qi 13 S ?_ ?_)
 ·intro h13 S
  refine cT S (wp_exit (block_hit (nxE (qG [1, 1] S ?_)))); intro a S
  refine nxC (wp_ret (sc_ret ?_))
  refine qO S ?_
  refine ⟨ret_bool ?_, M.below⟩; rw [Bool.eq_iff_iff]; (first | (simp [Fr.may]; done) | (simp [Fr.may]; omega))
 intro h13 S
 refine cF S (wp_seq (nxD (qR [3, 1, 1, 1] S M ?_))); intro a S
 refine nxC (qi 20 S ?_ ?_)
 ·intro h20 S
  refine cT S (wp_skip (then_normal (cT S (wp_exit (block_hit (nxE (qG [1, 1] S ?_))))))); intro a S
  refine nxC (wp_ret (sc_ret ?_))
  refine qO S ?_
  refine ⟨ret_bool ?_, M.below⟩; rw [Bool.eq_iff_iff]; (first | (simp [Fr.may]; done) | (simp [Fr.may]; omega))
 intro h20 S
 refine cF S (wp_region_lit (qR [3, 1, 4, 1, 1, 1] S M ?_)); intro a S
 refine nxC (qi 20 S ?_ ?_)
 ·intro h20 S
  refine cT S (wp_exit (block_hit (nxE (qG [1, 1] S ?_)))); intro a S
  refine nxC (wp_ret (sc_ret ?_))
  refine qO S ?_
  refine ⟨ret_bool ?_, M.below⟩; rw [Bool.eq_iff_iff]; (first | (simp [Fr.may]; done) | (simp [Fr.may]; omega))
 intro h20 S
 refine cF S (wp_seq (nxD (qR [6, 1] S M ?_))); intro a S
 refine qY S (qH 5 S) ?_; intro a S
 refine qG [1, 1] S ?_; intro a S
 refine nxC (qi 29 S ?_ ?_)
 ·intro h29 S
  refine cT S (wp_skip (then_normal (cT S (wp_exit (block_hit (nxE (qG [1, 1] S ?_))))))); intro a S
  replace S := S.keep [0, 1, 3, 4, 13, 20, 29, 2]
  refine nxC (wp_ret (sc_ret ?_))
  refine qO S ?_
  refine ⟨ret_bool ?_, M.below⟩; rw [Bool.eq_iff_iff]; (first | (simp [Fr.may]; done) | (simp [Fr.may]; omega))
 intro h29 S
 refine cF S (wp_region_lit (qR [6, 1] S M ?_)); intro a S
 refine qY S (qH 5 S) ?_; intro a S
 refine qG [1, 1] S ?_; intro a S
 replace S := S.keep [0, 1, 2, 3, 4, 13, 20, 29]
 refine nxC (qi 29 S ?_ ?_)
 ·intro h29 S
  refine cT S (wp_exit (block_hit (nxE (qG [1, 1] S ?_)))); intro a S
  refine nxC (wp_ret (sc_ret ?_))
  refine qO S ?_
  refine ⟨ret_bool ?_, M.below⟩; rw [Bool.eq_iff_iff]; (first | (simp [Fr.may]; done) | (simp [Fr.may]; omega))
 intro h29 S
 refine cF S (nxD (qR [3, 1, 4, 1] S M ?_)); intro a S
 refine qA S ?_; intro a S
 refine qG [1, 1] S ?_; intro a S
 refine qf 45 S ?_ ?_
 ·intro h45 S
  refine qG [0, 0, 0, 0, 1, 1] S ?_; intro a S
  refine nxC (cF S (wp_region_lit (qG [1] S ?_))); intro a S
  refine wpList_nil (block_normal (nxE (qG [1, 1] S ?_))); intro a S
  replace S := S.keep [0, 1, 4, 13, 20, 29, 38, 3, 2]
  refine nxC (wp_ret (sc_ret ?_))
  refine qO S ?_
  refine ⟨ret_bool ?_, M.below⟩; rw [Bool.eq_iff_iff]; (first | (simp [Fr.may]; done) | (simp [Fr.may]; omega))
 intro h45 S
 refine qR [6, 1] S M ?_; intro a S
 refine qY S (qH 5 S) ?_; intro a S
 refine qG [1, 1, 1] S ?_; intro a S
 refine nxC (qi 38 S ?_ ?_)
 ·intro h38 S
  refine cT S (wp_exit (block_hit (nxE (qG [1, 1] S ?_)))); intro a S
  replace S := S.keep [0, 1, 3, 4, 13, 20, 29, 38, 2]
  refine nxC (wp_ret (sc_ret ?_))
  refine qO S ?_
  refine ⟨ret_bool ?_, M.below⟩; rw [Bool.eq_iff_iff]; (first | (simp [Fr.may]; done) | (simp [Fr.may]; omega))
 intro h38 S
 refine cF S (wp_region_lit (qG [1] S ?_)); intro a S
 refine wpList_nil (block_normal (nxE (qG [1, 1] S ?_))); intro a S
 replace S := S.keep [0, 1, 4, 13, 20, 29, 38, 3, 2]
 refine nxC (wp_ret (sc_ret ?_))
 refine qO S ?_
 refine ⟨ret_bool ?_, M.below⟩; rw [Bool.eq_iff_iff]; (first | (simp [Fr.may]; done) | (simp [Fr.may]; omega))
end Go.Proofs.YtdcgcgifgnaccaaGreat
namespace Go.Proofs.YtdcgcgifgnaccaaGreat
open Go.RowKit Go.Sort
def Fr.same (f g : Fr) (bs cs : List UInt8) : Bool := f.seq == g.seq && f.inc == g.inc && f.part == g.part && f.of == g.of && f.mark == g.mark && bs == cs
theorem Fr.same_iff {f g : Fr} {bs cs : List UInt8} : f.same g bs cs = true ↔ f = g ∧ bs = cs := by
 cases f; cases g; simp [Fr.same, and_assoc]
theorem sameF_any (f g : Fr) (v u : Value) (bs cs : List UInt8) (w : World) (hv : Bs 0 w.heap.size w v bs) (hu : Bs 0 w.heap.size w u cs) : Calls Tryz.prog 393 #[.agg (f.cells v).toArray, .agg (g.cells u).toArray] w fun e w' => e = .returned (.bool (f.same g bs cs)) ∧ Below w.heap.size w w' := by
 have M := Mem.start w
 refine qI Tryz.func393 45 ?_; intro a S
 refine nxD (st_box S M rfl rfl rfl #[_, _, _, _, _, _] rfl ?_); intro a w1 b1 S M hB
 refine st_box S M rfl rfl rfl #[_, _, _, _, _, _] rfl ?_; intro a w2 b2 S M hB
 refine qG [1] S ?_; intro a S
 refine nxA (qR [1, 2, 1, 1, 1, 1] S M ?_); intro a S
 refine qf 10 S ?_ ?_
 ·intro h10 S
  refine qG [0, 0, 0, 0, 0, 1, 1, 0, 0, 0, 0, 0, 1, 1, 0, 0, 0, 0, 0, 1, 1, 0, 0, 0, 0, 0, 1, 1, 0, 0, 0, 0, 0, 1, 1] S ?_; intro a S
  replace S := S.keep [0, 1, 2, 3, 4]
  refine nxC (wp_ret (qO S ?_))
  exact ⟨ret_bool (by simp [Fr.same, *]), M.below⟩
 intro h10 S
 refine qR [2, 2, 2, 1, 1, 1, 1] S M ?_; intro a S
 refine qf 17 S ?_ ?_
 ·intro h17 S
  refine qG [0, 0, 0, 0, 0, 1, 1, 0, 0, 0, 0, 0, 1, 1, 0, 0, 0, 0, 0, 1, 1, 0, 0, 0, 0, 0, 1, 1] S ?_; intro a S
  replace S := S.keep [0, 1, 2, 3, 4]
  refine nxC (wp_ret (qO S ?_))
  exact ⟨ret_bool (by simp [Fr.same, *]), M.below⟩
 intro h17 S
 refine qR [3, 2, 3, 1, 1, 1, 1] S M ?_; intro a S
 refine qf 24 S ?_ ?_
 ·intro h24 S
  refine qG [0, 0, 0, 0, 0, 1, 1, 0, 0, 0, 0, 0, 1, 1, 0, 0, 0, 0, 0, 1, 1] S ?_; intro a S
  replace S := S.keep [0, 1, 2, 3, 4]
  refine nxC (wp_ret (qO S ?_))
  exact ⟨ret_bool (by simp [Fr.same, *]), M.below⟩
 intro h24 S
 refine qR [4, 2, 4, 1, 1, 1, 1] S M ?_; intro a S
 refine qf 31 S ?_ ?_
 ·intro h31 S
  refine qG [0, 0, 0, 0, 0, 1, 1, 0, 0, 0, 0, 0, 1, 1] S ?_; intro a S
  replace S := S.keep [0, 1, 2, 3, 4]
  refine nxC (wp_ret (qO S ?_))
  exact ⟨ret_bool (by simp [Fr.same, *]), M.below⟩
 intro h31 S
 refine qR [5, 2, 5, 1] S M ?_; intro a S
 refine qY S (y_eql32 S rfl rfl) ?_; intro a S
 refine qG [1, 1] S ?_; intro a S
 refine qf 38 S ?_ ?_
 ·intro h38 S
  refine qG [0, 0, 0, 0, 0, 1, 1] S ?_; intro a S
  replace S := S.keep [0, 1, 2, 3, 4]
  refine nxC (wp_ret (qO S ?_))
  exact ⟨ret_bool (by simp [Fr.same, *]), M.below⟩
 intro h38 S
 refine qR [6, 2, 6, 1] S M ?_; intro a S
 refine qQ (xs := [.tmp 40, .tmp 42]) S (qE Tryz.func212) rfl (equal_any _ _ bs cs _ (M.argW hv) (M.argW hu)) M ?_; intro a w3 S hK M
 refine qG [1, 1] S ?_; intro a S
 replace S := S.keep [0, 1, 2, 3, 4]
 refine nxC (wp_ret (qO S ?_))
 exact ⟨ret_bool (by simp [Fr.same, *]), M.below⟩
end Go.Proofs.YtdcgcgifgnaccaaGreat
namespace Go.Proofs.YtdcgcgifgnaccaaGreat
open Go.RowKit Go.Sort
def FrsC (cs : List Value) (lo hi : Nat) (w : World) (v : Value) (fs : List (Fr × List UInt8)) : Prop :=
 Rd lo hi w 6 v fs.length cs ∧ ∀ i f bs, fs[i]? = some (f, bs) → ∃ lv, (cs.drop (i * 6)).take 6 = f.cells lv ∧ Bs lo hi w lv bs
def Frs (lo hi : Nat) (w : World) (v : Value) (fs : List (Fr × List UInt8)) : Prop := ∃ cs, FrsC cs lo hi w v fs
theorem FrsC.same {cs : List Value} {lo hi : Nat} {w w' : World} {v : Value} {fs : List (Fr × List UInt8)} (h : FrsC cs lo hi w v fs) (hs : SameOn lo hi w w') : FrsC cs lo hi w' v fs :=
 ⟨h.1.same hs, fun i f bs hi => let ⟨lv, e, hb⟩ := h.2 i f bs hi; ⟨lv, e, hb.same hs⟩⟩
theorem FrsC.row {cs : List Value} {lo hi i : Nat} {w : World} {v lv : Value} {f : Fr} {bs : List UInt8} {fs : List (Fr × List UInt8)} (h : FrsC cs lo hi w v fs) (hi' : fs[i]? = some (f, bs)) (hr : (cs.drop (i * 6)).take 6 = f.cells lv) : CellsAt w (adr v).block ((adr v).off + i * 6) (f.cells lv) ∧ Bs lo hi w lv bs := by
 obtain ⟨lv', e, hb⟩ := h.2 i f bs hi'
 have : lv' = lv := by
  rw [e] at hr
  injection hr with _ hr; injection hr with _ hr; injection hr with _ hr; injection hr with _ hr; injection hr with _ hr; injection hr
 subst this
 exact ⟨h.1.at_.row e rfl, hb⟩
theorem Mem.frs {w0 w : World} {H : List Ent} {cs : List Value} {v : Value} {fs : List (Fr × List UInt8)} (M : Mem w0 w H) (h : FrsC cs 0 w0.heap.size w0 v fs) : FrsC cs 0 w0.heap.size w v fs := h.same fun k _ h2 => M.below.block k h2
def nOf (n : Nat) : Nat := (n + 44) / 45
def frOf (bs : List UInt8) (seq inc : Int) (i : Nat) : Fr × List UInt8 := (⟨seq + i, inc, i, (nOf bs.length : Nat), sumT bs⟩, (bs.drop (i * 45)).take 45)
def cutF (bs : List UInt8) (seq inc : Int) : List (Fr × List UInt8) := (List.range (nOf bs.length)).map (frOf bs seq inc)
def cutOk (bs : List UInt8) (seq inc : Int) : Prop := bs ≠ [] ∧ (1 ≤ seq ∧ seq ≤ 1099511627776) ∧ (0 ≤ inc ∧ inc ≤ 1048576) ∧ bs.length ≤ 90 ∧ seq + (nOf bs.length : Nat) - 1 ≤ 1099511627776
open Classical in
noncomputable def cutE (bs : List UInt8) (seq inc : Int) : Int :=
 if cutOk bs seq inc then 0 else if bs ≠ [] ∧ (1 ≤ seq ∧ seq ≤ 1099511627776) ∧ (0 ≤ inc ∧ inc ≤ 1048576) ∧ 90 < bs.length then 3 else 2
open Classical in
noncomputable def cutR (bs : List UInt8) (seq inc : Int) : List (Fr × List UInt8) := if cutOk bs seq inc then cutF bs seq inc else []
def CutPost (bs : List UInt8) (seq inc : Int) (w : World) (e : Ending) (w' : World) : Prop :=
 ∃ v', e = .returned (.tuple #[v', .int .i64 (cutE bs seq inc)]) ∧ Below w.heap.size w w' ∧ Frs w.heap.size w'.heap.size w' v' (cutR bs seq inc)
theorem cutPost_no {bs : List UInt8} {seq inc : Int} {w w' : World} {H : List Ent} {x : Int} (M : Mem w w' H) (h : ¬ cutOk bs seq inc) (hx : x = cutE bs seq inc) : CutPost bs seq inc w (.returned (.tuple #[.slice none 0 0, .int .i64 x])) w' :=
 ⟨_, by rw [hx], M.below, [], by unfold cutR; rw [if_neg h]; exact ⟨Rd.nil _ _ _ _, fun i f bs hi => by simp at hi⟩⟩
theorem Mem.pushFrs {w0 w w' : World} {H : List Ent} {cs : List Value} {v : Value} {fs : List (Fr × List UInt8)} (M : Mem w0 w H) (hb : Below w.heap.size w w') (h : FrsC cs w.heap.size w'.heap.size w' v fs) : ∃ lo hi, w.heap.size ≤ lo ∧ Mem w0 w' (.own lo hi (fun w => FrsC cs lo hi w v fs) :: H) :=
 ⟨_, _, Nat.le_refl _, M.push hb (.own w.heap.size w'.heap.size fun x => FrsC cs w.heap.size w'.heap.size x v fs) (fun w'' hs => h.same hs) (Nat.le_refl _) (Nat.le_refl _)⟩
def Loads (lo hi : Nat) (bs : List UInt8) (lvs : List Value) (w : World) : Prop := ∀ i lv, lvs[i]? = some lv → Bs lo hi w lv ((bs.drop (i * 45)).take 45)
theorem loads_more {w0 w : World} {lo hi lo' hi' b n : Nat} {bs : List UInt8} {lvs : List Value} {lv : Value} {c : Array Value} {t e : TypeId} (M : Mem w0 w [rowE lo' hi' e 1 lv n (bcells ((bs.drop (lvs.length * 45)).take 45)), .own lo hi (Loads lo hi bs lvs), .blk b c t])
 (hn : ((bs.drop (lvs.length * 45)).take 45).length = n) (hb : b < lo) (h1 : lo ≤ hi) (h2 : hi ≤ lo') : Mem w0 w [.own lo w.heap.size (Loads lo w.heap.size bs (lvs ++ [lv])), .blk b c t] := by
 have f0 := M.fits _ (List.mem_of_getElem? (show _[0]? = _ from rfl))
 have f1 := M.fits _ (List.mem_of_getElem? (show _[1]? = _ from rfl))
 simp only [rowE, Ent.lo, Ent.hi] at f0 f1
 refine M.merge lo w.heap.size _ f1.1 (Nat.le_refl _) (fun f hf => ?_) (fun w' hs => ?_)
 ·simp only [List.mem_singleton] at hf; subst hf; left; simp only [Ent.hi]; omega
 ·intro i x hx
  rcases Nat.lt_or_ge i lvs.length with hi' | hi'
  ·rw [List.getElem?_append_left hi'] at hx
   exact (M.ownAll 1 rfl w' (hs.sub (Nat.le_refl _) f1.2) i x hx).wide (Nat.le_refl _) f1.2
  ·have : i = lvs.length := by
    have := (List.getElem?_eq_some_iff.1 hx).1
    simp at this; omega
   subst this
   rw [List.getElem?_append_right (Nat.le_refl _)] at hx
   simp at hx
   subst hx
   obtain ⟨h3, h4⟩ := M.ownAll 0 rfl w' (hs.sub (by omega) f0.2)
   have := Rd.of_row h3 h4 (by rw [← hn]; simp [maxLen]; omega)
   unfold Bs; rw [hn]
   exact this.wide (by omega) f0.2
theorem cut_any (v : Value) (bs : List UInt8) (seq inc : Int) (w : World) (hv : Bs 0 w.heap.size w v bs) (hseq : -9223372036854775808 ≤ seq ∧ seq ≤ 9223372036854775807) : Calls Tryz.prog 384 #[v, .int .i64 seq, .int .i64 inc] w (CutPost bs seq inc w) := by
 have M := Mem.start w
 have hl := hv.2.1
 unfold maxLen at hl
 have hcap := hv.cap
 refine qI Tryz.func384 79 ?_; intro a S
 refine nxD (qG [1, 1] S ?_); intro a S
 refine nxC (wp_seq (nxD (qG [1] S ?_))); intro a S
 refine qY S (y_lenR (E := 5) S rfl (M.arg hv) (by kernel_rfl)) ?_; intro a S
 refine qG [1, 1] S ?_; intro a S
 refine qi 18 S ?_ ?_
 ·intro h18 S
  refine qG [0, 0, 0, 1, 1, 0, 0, 0, 1] S ?_; intro a S
  refine nxC (cT S (nxD (qG [1, 1] S ?_))); intro a S
  replace S := S.keep [0, 1, 2, 27, 6, 7]
  refine nxC (wp_ret (then_ret (qOO S ?_)))
  exact cutPost_no M (by unfold cutOk; simp only [← List.length_pos_iff] at *; omega) (by unfold cutE cutOk; simp only [← List.length_pos_iff] at *; rw [if_neg (by omega), if_neg (by omega)])
 intro h18 S
 refine qG [1] S ?_; intro a S
 refine qQ (xs := [.tmp 19]) S (qE Tryz.func395) rfl (sequence_any _ _) M ?_; intro a w1 S hK M
 refine qG [1, 1, 1] S ?_; intro a S
 refine qi 23 S ?_ ?_
 ·intro h23 S
  refine qG [0, 0, 0, 1] S ?_; intro a S
  refine nxC (cT S (nxD (qG [1, 1] S ?_))); intro a S
  replace S := S.keep [0, 1, 2, 27, 6, 7]
  refine nxC (wp_ret (then_ret (qOO S ?_)))
  exact cutPost_no M (by unfold cutOk; simp only [← List.length_pos_iff] at *; omega) (by unfold cutE cutOk; simp only [← List.length_pos_iff] at *; rw [if_neg (by omega), if_neg (by omega)])
 intro h23 S
 refine qG [1] S ?_; intro a S
 refine qQ (xs := [.tmp 24]) S (qE Tryz.func396) rfl (incarnation_any _ _) M ?_; intro a w2 S hK M
 refine qG [1, 1] S ?_; intro a S
 refine nxC (qi 27 S ?_ ?_)
 ·intro h27 S
  refine cT S (nxD (qG [1, 1] S ?_)); intro a S
  replace S := S.keep [0, 1, 2, 27, 6, 7]
  refine nxC (wp_ret (then_ret (qOO S ?_)))
  exact cutPost_no M (by unfold cutOk; simp only [← List.length_pos_iff] at *; omega) (by unfold cutE cutOk; simp only [← List.length_pos_iff] at *; rw [if_neg (by omega), if_neg (by omega)])
 intro h27 S
 refine cF S (wp_skip (then_normal (wp_seq (nxD (qG [1] S ?_))))); intro a S
 refine qY S (y_lenR (E := 5) S rfl (M.arg hv) (by kernel_rfl)) ?_; intro a S
 refine qG [1] S ?_; intro a S
 replace S := S.keep [0, 1, 2, 6, 7, 27, 30]
 refine nxC (qi 30 S ?_ ?_)
 ·intro h30 S
  refine cT S (nxD (qG [1, 1] S ?_)); intro a S
  refine nxC (wp_ret (then_ret (qOO S ?_)))
  exact cutPost_no M (by unfold cutOk; simp only [← List.length_pos_iff] at *; omega) (by unfold cutE cutOk; simp only [← List.length_pos_iff] at *; rw [if_neg (by omega), if_pos (by omega)])
 intro h30 S
 refine cF S (wp_skip (nxE (qG [1] S ?_))); intro a S
 refine qY S (y_lenR (E := 5) S rfl (M.arg hv) (by kernel_rfl)) ?_; intro a S
 refine qA S ?_; intro a S
 refine qA S ?_; intro a S
 refine qY S (y_quoN S rfl rfl (by omega)) ?_; intro a S
 refine qG [1] S ?_; intro a S
 refine nxC (wp_seq (nxD (qG [1, 1] S ?_))); intro a S
 refine qA S ?_; intro a S
 refine qA S ?_; intro a S
 refine qQ (xs := [.tmp 39]) S (qE Tryz.func395) rfl (sequence_any _ _) M ?_; intro a w3 S hK M
 refine qG [1] S ?_; intro a S
 refine nxC (qi 41 S ?_ ?_)
 ·intro h41 S
  refine cT S (nxD (qG [1, 1] S ?_)); intro a S
  refine nxC (wp_ret (then_ret (qOO S ?_)))
  exact cutPost_no M (by unfold cutOk nOf; simp only [← List.length_pos_iff] at *; omega) (by unfold cutE cutOk nOf; simp only [← List.length_pos_iff] at *; rw [if_neg (by omega), if_neg (by omega)])
 intro h41 S
 refine cF S (wp_skip (nxE (qG [1] S ?_))); intro a S
 refine qQ (xs := [.tmp 42]) S (qE Tryz.func356) rfl (sum_any v bs _ (M.argW hv)) M ?_; intro a w4 S hK M
 refine qG [1] S ?_; intro a S
 refine nxA ?_
 have e8 : ((bs.length : Int) + 45 - 1) / 45 = ((nOf bs.length : Nat) : Int) := by unfold nOf; omega
 have hn2 : nOf bs.length ≤ 2 := by unfold nOf; omega
 rw [e8] at S
 have hok : cutOk bs seq inc := by unfold cutOk; rw [← List.length_pos_iff]; omega
 refine qY S (y_move S rfl) ?_; intro a S
 refine st_make (e := 453) (sz := 6) (by_ := 64) (zc := [.int .i64 0, .int .i64 0, .int .i64 0, .int .i64 0, .int .u32 0, .slice none 0 0]) S M rfl rfl (by kernel_rfl) rfl rfl (by omega) (by omega) (by omega) (by omega) ?_; intro a w5 b1 S M hB
 try simp only [Int.toNat_natCast, Int.reduceToNat, Nat.reduceMul] at S M
 refine qG [1] S ?_; intro a S
 replace S := S.keep [0, 1, 2, 6, 7, 27, 30, 8, 41, 9, 10]
 refine nxC (wp_seq (nxD (qG [1] S ?_))); intro a S
 refine qY S (qH 453 S) ?_; intro a S
 refine qG [1] S ?_; intro a S
 refine nxC (wp_block (wp_loop_g (fun m a w' => ∃ (k : Nat) (l : List Value) (lo hi : Nat) (lvs : List Value), k ≤ nOf bs.length ∧ m = nOf bs.length - k ∧ Sees 79 a [(0, v), (1, .int .i64 seq), (2, .int .i64 inc), (8, .int .i64 (nOf bs.length : Nat)), (9, .int .u32 ((sumT bs).toNat : Int)), (10, .slice (some ⟨b1, 0, none⟩) (nOf bs.length) (nOf bs.length)), (47, .int .i64 (nOf bs.length : Nat)), (48, .int .i64 (k : Int))] ∧ Mem w w' [.own lo hi (Loads lo hi bs lvs), .blk b1 l.toArray 453] ∧ b1 < lo ∧ lo ≤ hi ∧ l.length = nOf bs.length * 6 ∧ lvs.length = k ∧ ∀ i lv, lvs[i]? = some lv → (l.drop (i * 6)).take 6 = (frOf bs seq inc i).1.cells lv) (nOf bs.length) ?_ ?_))
 ·skip
  have f := (M.fits _ (List.mem_of_getElem? (show _[0]? = _ from rfl))).2
  simp only [Ent.hi] at f
  exact ⟨0, _, _, _, [], Nat.zero_le _, rfl, S.sub _ rfl, M.pushTriv (Loads _ _ bs []) (fun _ i lv h => by simp at h), f, Nat.le_refl _, by simp [madeL_length], rfl, fun i lv h => by simp at h⟩
 intro m a wl
 rintro ⟨k, l, lo, hi, lvs, hk, rfl, S, M, hb, hlh, hll, hlv, hrow⟩
 refine nxD (qG [1] S ?_); intro a S
 refine nxC (wp_seq (qf 49 S ?_ ?_))
 ·intro h49 S
  refine cF S (wp_exit (then_exit (then_exit (block_hit (nxE (qG [1, 1, 1] S ?_)))))); intro a S
  refine nxC (wp_ret (qOO S ?_))
  obtain rfl : k = nOf bs.length := by omega
  have f0 := M.fits _ (List.mem_of_getElem? (show _[0]? = _ from rfl))
  have f1 := M.fits _ (List.mem_of_getElem? (show _[1]? = _ from rfl))
  simp only [Ent.lo, Ent.hi] at f0 f1
  refine ⟨_, by unfold cutE; rw [if_pos hok], M.below, ?_⟩
  unfold cutR; rw [if_pos hok]
  have hlc : (cutF bs seq inc).length = nOf bs.length := by simp [cutF]
  refine ⟨l, ?_, fun i f cs' hi' => ?_⟩
  ·rw [hlc]
   exact (Rd.of_blk (M.blk 1 rfl) hll (Nat.le_refl _) (by unfold maxLen; omega) (List.take_of_length_le (by simp; omega))).wide f1.1 f1.2
  ·have hlt := (List.getElem?_eq_some_iff.1 hi').1
   rw [hlc] at hlt
   simp only [cutF, List.getElem?_map, List.getElem?_range hlt, Option.map_some, Option.some.injEq] at hi'
   obtain ⟨lv, hlv'⟩ : ∃ lv, lvs[i]? = some lv := ⟨_, List.getElem?_eq_getElem (by omega)⟩
   refine ⟨lv, ?_, ?_⟩
   ·rw [hrow i lv hlv', hi']
   ·have := M.own 0 rfl i lv hlv'
    have e2 : (bs.drop (i * 45)).take 45 = cs' := congrArg Prod.snd hi'
    rw [← e2]
    exact this.wide f0.1 f0.2
 intro h49 S
 refine cT S (wp_skip (then_normal (wp_seq (wp_block (nxD (qG [1, 1] S ?_)))))); intro a S
 refine nxA ?_
 have hk' : k < nOf bs.length := by omega
 have hkn : k * 45 < bs.length := by unfold nOf at hk'; omega
 refine qY S (y_move S rfl) ?_; intro a S
 refine qA S ?_; intro a S
 refine qG [1] S ?_; intro a S
 refine qA S ?_; intro a S
 refine qA S ?_; intro a S
 refine qG [1] S ?_; intro a S
 refine qY S (y_lenR (E := 5) S rfl (M.arg hv) (by kernel_rfl)) ?_; intro a S
 refine qY S (y_min S rfl rfl) ?_; intro a S
 refine qG [1, 1] S ?_; intro a S
 refine nxA (qG [1, 1, 1, 1] S ?_); intro a S
 refine qY S (y_slice3R (e := 5) (sz := 1) S (by kernel_rfl) rfl (M.arg hv) rfl rfl rfl (by first | omega | (simp; done) | (simp; omega))) ?_; intro a S
 have hB := (M.argW hv).cutB (i := ((k : Int) * 45).toNat) (j := (min (((k : Int) + 1) * 45) (bs.length : Int)).toNat) (mx := (min (((k : Int) + 1) * 45) (bs.length : Int)).toNat) (by omega) (by omega) (by omega) (by omega)
 have eB : (bs.drop ((k : Int) * 45).toNat).take ((min (((k : Int) + 1) * 45) (bs.length : Int)).toNat - ((k : Int) * 45).toNat) = (bs.drop (k * 45)).take 45 := by
  rw [show ((k : Int) * 45).toNat = k * 45 by omega]
  rcases Nat.le_total ((k + 1) * 45) bs.length with h | h
  ·congr 1; omega
  ·rw [List.take_of_length_le (by simp; omega), List.take_of_length_le (by simp; omega)]
 rw [eB] at hB
 have hfit := (M.fits _ (List.mem_of_getElem? (show _[0]? = _ from rfl))).2
 simp only [Ent.hi] at hfit
 refine qC (xs := [.tmp 63]) S (qE Tryz.func363) rfl (clone_any _ _ _ hB (by simp; omega)) ?_
 rintro _ w6 ⟨lv, rfl, hF⟩; refine ⟨_, rfl, ?_⟩; intro a S
 obtain ⟨adL, capL, hlvE, -, -⟩ := (hF.rd (by simp [maxLen]; omega)).form
 obtain ⟨lo', hi', hlo', M⟩ := M.pushFresh hF
 subst hlvE
 refine qG [1] S ?_; intro a S
 replace S := S.keep [0, 1, 2, 8, 9, 10, 47, 48, 49, 11, 12, 13, 14]
 refine nxB (qG [1, 1, 1, 1] S ?_); intro a S
 refine qA S ?_; intro a S
 refine qG [1, 1, 1, 1, 1] S ?_; intro a S
 refine qY S (y_build (ps := [(0, .tmp 69), (1, .tmp 70), (2, .tmp 71), (3, .tmp 72), (4, .tmp 73), (5, .tmp 74)]) (pl := [(0, 1), (1, 1), (2, 1), (3, 1), (4, 1), (5, 1)]) (z := [.int .i64 0, .int .i64 0, .int .i64 0, .int .i64 0, .int .u32 0, .slice none 0 0]) (cs := [_, _, _, _, _, _]) S (by kernel_rfl) rfl (rfl)) ?_; intro a S
 refine qY S (y_indexS (e := 453) (sz := 6) S (by kernel_rfl) rfl rfl (by first | omega | (simp; done) | (simp; omega))) ?_; intro a S
 try simp only [Int.toNat_natCast, Nat.mul_one, Nat.zero_add] at S
 refine st_store (sz := 6) (us := [_, _, _, _, _, _]) S M 2 rfl (by kernel_rfl) rfl rfl rfl rfl rfl rfl (by simp; omega) ?_; intro w7 M
 simp only [List.set_cons_zero, List.set_cons_succ] at M
 refine wpList_nil (block_normal (nxF (qA S ?_))); intro a S
 refine qG [1] S ?_; intro a S
 replace S := S.keep [0, 1, 2, 8, 9, 10, 47, 49, 11, 12, 13, 14, 48]
 refine nxC ?_
 subst hlv
 have M2 := loads_more M rfl hb hlh (by omega)
 have hle : lvs.length * 6 + 6 ≤ l.length := by omega
 refine ⟨nOf bs.length - (lvs.length + 1), by omega, lvs.length + 1, _, lo, _, _, by omega, rfl, S.sub _ rfl, M2, hb, ?_, by rw [putL_length]; exact hll, by simp, ?_⟩
 ·have f := (M.fits _ (List.mem_of_getElem? (show _[1]? = _ from rfl))); simp only [Ent.hi, Ent.lo] at f; omega
 ·intro i lv hi'
  rcases Nat.lt_or_ge i lvs.length with h | h
  ·rw [List.getElem?_append_left h] at hi'
   rw [putL_ahead (by simpa using hle) (by omega)]
   exact hrow i lv hi'
  ·have : i = lvs.length := by
    have := (List.getElem?_eq_some_iff.1 hi').1
    simp at this; omega
   subst this
   rw [List.getElem?_append_right (Nat.le_refl _)] at hi'
   simp only [Nat.sub_self, List.getElem?_cons_zero, Option.some.injEq] at hi'
   subst hi'
   exact putL_same (us := [_, _, _, _, _, _]) hle
end Go.Proofs.YtdcgcgifgnaccaaGreat
namespace Go.Proofs.YtdcgcgifgnaccaaGreat
open Go.RowKit Go.Sort
def outF (fs : List (Fr × List UInt8)) : List UInt8 := fs.flatMap (·.2)
def joinOk (fs : List (Fr × List UInt8)) : Prop :=
 ∃ f bs r, fs = (f, bs) :: r ∧ fs.length ≤ 2 ∧ (∀ x ∈ fs, x.1.may x.2.length = true) ∧ cutOk (outF fs) f.seq f.inc ∧ cutF (outF fs) f.seq f.inc = fs
open Classical in
noncomputable def joinE (fs : List (Fr × List UInt8)) : Int := if joinOk fs then 0 else 40
def JoinPost (fs : List (Fr × List UInt8)) (w : World) (e : Ending) (w' : World) : Prop :=
 ∃ v', e = .returned (.tuple #[v', .int .i64 (joinE fs)]) ∧ Below w.heap.size w w' ∧ (joinOk fs → Fresh w w' 5 1 v' (outF fs).length (bcells (outF fs))) ∧ (¬ joinOk fs → v' = .slice none 0 0)
theorem joinPost_no {fs : List (Fr × List UInt8)} {w w' : World} {H : List Ent} (M : Mem w w' H) (h : ¬ joinOk fs) : JoinPost fs w (.returned (.tuple #[.slice none 0 0, .int .i64 40])) w' :=
 ⟨_, by unfold joinE; rw [if_neg h], M.below, fun h' => absurd h' h, fun _ => rfl⟩
theorem outF_succ {fs : List (Fr × List UInt8)} {k : Nat} {f : Fr} {bs : List UInt8} (h : fs[k]? = some (f, bs)) : outF (fs.take (k + 1)) = outF (fs.take k) ++ bs := by
 obtain ⟨hlt, he⟩ := List.getElem?_eq_some_iff.1 h
 rw [List.take_succ_eq_append_getElem hlt, outF, List.flatMap_append, he]
 simp [outF]
theorem outF_le : ∀ (fs : List (Fr × List UInt8)) (k : Nat), (∀ x ∈ fs, x.2.length ≤ 1000) → k ≤ fs.length → (outF (fs.take k)).length ≤ k * 1000
 | fs, 0, _, _ => by simp [outF]
 | fs, k + 1, h, hk => by
   have hlt : k < fs.length := by omega
   have h1 := outF_le fs k h (by omega)
   have h2 := h fs[k] (List.getElem_mem hlt)
   rw [outF_succ (f := fs[k].1) (bs := fs[k].2) (List.getElem?_eq_getElem hlt), List.length_append]
   omega
theorem join_any (v : Value) (cs : List Value) (fs : List (Fr × List UInt8)) (w : World) (hv : FrsC cs 0 w.heap.size w v fs) (hbig : ∀ x ∈ fs, x.2.length ≤ 1000) (hseq : ∀ x ∈ fs, -9223372036854775808 ≤ x.1.seq ∧ x.1.seq ≤ 9223372036854775807) : Calls Tryz.prog 360 #[v] w (JoinPost fs w) := by
 have M := Mem.start w
 have hl := hv.1.2.1
 unfold maxLen at hl
 refine qI Tryz.func360 71 ?_; intro a S
 refine nxD (qG [1, 1] S ?_); intro a S
 refine nxC (wp_seq (nxD (qG [1] S ?_))); intro a S
 refine qY S (y_lenR (E := 453) S rfl ((M.frs hv).1) (by kernel_rfl)) ?_; intro a S
 refine qG [1, 1] S ?_; intro a S
 refine qi 14 S ?_ ?_
 ·intro h14 S
  refine qG [0, 0, 0, 1] S ?_; intro a S
  refine nxC (cT S (nxD (qG [1, 1] S ?_))); intro a S
  refine nxC (wp_ret (then_ret (qOO S ?_)))
  exact joinPost_no M (by rintro ⟨f, bs, r, rfl, h2, _⟩; simp at *; omega)
 intro h14 S
 refine qG [1] S ?_; intro a S
 refine qY S (y_lenR (E := 453) S rfl ((M.frs hv).1) (by kernel_rfl)) ?_; intro a S
 refine qG [1, 1] S ?_; intro a S
 refine nxC (qi 18 S ?_ ?_)
 ·intro h18 S
  refine cT S (nxD (qG [1, 1] S ?_)); intro a S
  refine nxC (wp_ret (then_ret (qOO S ?_)))
  exact joinPost_no M (by rintro ⟨f, bs, r, rfl, h2, _⟩; simp at *; omega)
 intro h18 S
 refine cF S (wp_skip (nxE (qG [1] S ?_))); intro a S
 refine nxC (wp_seq (nxD (qG [1] S ?_))); intro a S
 refine qY S (y_lenR (E := 453) S rfl ((M.frs hv).1) (by kernel_rfl)) ?_; intro a S
 refine qG [1] S ?_; intro a S
 refine nxC (wp_block (wp_loop_g (fun m a w' => ∃ (k lo hi : Nat) (v' : Value), k ≤ fs.length ∧ m = fs.length - k ∧ Sees 71 a [(0, v), (4, v'), (19, v), (20, .int .i64 (fs.length : Nat)), (21, .int .i64 (k : Int))] ∧ Mem w w' [rowE lo hi 5 1 v' (outF (fs.take k)).length (bcells (outF (fs.take k)))] ∧ ∀ x ∈ fs.take k, x.1.may x.2.length = true) (fs.length) ?_ ?_))
 ·skip
  exact ⟨0, _, _, _, Nat.zero_le _, rfl, S.sub _ rfl, M.rowNil _ _, by simp⟩
 intro m a wl
 rintro ⟨k, lo, hi, v', hk, rfl, S, M, hmay⟩
 refine nxD (qG [1] S ?_); intro a S
 refine nxC (wp_seq (qi 22 S ?_ ?_))
 ·intro h22 S
  refine cT S (wp_skip (then_normal (wp_seq (wp_block (nxD ?_)))))
  have hk' : k < fs.length := by omega
  obtain ⟨⟨f, bs⟩, hx⟩ : ∃ x, fs[k]? = some x := ⟨fs[k], List.getElem?_eq_getElem hk'⟩
  obtain ⟨lv, hrow, hlv⟩ := hv.2 k f bs hx
  obtain ⟨ad, cap, hlvE, -, -⟩ := hlv.form
  subst hlvE
  refine qY S (qX 453 6 S ((M.frs hv).1)) ?_; intro a S
  try simp only [Int.toNat_natCast, Nat.mul_one, Nat.zero_add] at S
  refine qY S (y_loadAgg S (by kernel_rfl) rfl rfl (((M.frs hv).row hx hrow).1)) ?_; intro a S
  refine qN S M #[.int .i64 0, .int .i64 0, .int .i64 0, .int .i64 0, .int .u32 0, .slice none 0 0] ?_; intro a w1 b1 S M hB
  refine qS (sz := 6) (us := [_, _, _, _, _, _]) S M 0 ?_; intro w2 M
  refine nxC (wp_seq (nxD (qY S (qL6 S M 0) ?_))); intro a S
  refine qQ (xs := [.tmp 25]) S (qE Tryz.func392) rfl (mayF_any f ad bs.length cap _) M ?_; intro a w3 S hK M
  refine qG [1] S ?_; intro a S
  refine nxC (st_split (t := 27) S rfl ?_ ?_)
  ·intro h27 S
   refine cT S (nxD (qG [1, 1] S ?_)); intro a S
   refine nxC (wp_ret (then_ret (block_ret (then_ret (then_ret (block_ret (then_ret (qOO S ?_))))))))
   exact joinPost_no M (by
    rintro ⟨f', bs', r, e, h2, h3, _⟩
    have := h3 (f, bs) (List.mem_of_getElem? hx)
    simp only [this] at h27
    simp at h27)
  intro h27 S
  refine cF S (wp_skip (nxF (qR [1, 6, 1] S M ?_))); intro a S
  have hob := outF_le fs k hbig hk
  have hbs : bs.length ≤ 1000 := hbig _ (List.mem_of_getElem? hx)
  refine st_append (e := 5) (sz := 1) (by_ := 1) (zc := [.int .u8 0]) S M 1 rfl rfl (by kernel_rfl) rfl (by decide) rfl rfl rfl (((M.frs hv).row hx hrow).2) (allOne_bcells _) (by omega) (by unfold maxLen; omega) ?_; intro a w4 vA loA hiA S M
  refine qG [1] S ?_; intro a S
  refine wpList_nil (block_normal (nxF (qA S ?_))); intro a S
  refine qG [1] S ?_; intro a S
  refine nxC ?_
  refine ⟨fs.length - (k + 1), by omega, k + 1, loA, hiA, vA, by omega, rfl, S.sub _ rfl, ?_, ?_⟩
  ·have M' := M.drop 1
   rw [outF_succ hx, List.length_append, bcells_append]
   exact M'
  ·intro x hx'
   rw [List.take_succ_eq_append_getElem hk', List.mem_append] at hx'
   rcases hx' with h | h
   ·exact hmay x h
   ·simp only [List.mem_singleton] at h
    rw [List.getElem?_eq_getElem hk'] at hx
    rw [h, Option.some.inj hx]
    simpa using h27
 intro h22 S
 refine cF S (wp_exit (then_exit (then_exit (block_hit (then_normal (wp_seq ?_))))))
 obtain rfl : k = fs.length := by omega
 rw [List.take_length] at M hmay
 obtain ⟨⟨f0, bs0⟩, hx0⟩ : ∃ x, fs[0]? = some x := ⟨fs[0], List.getElem?_eq_getElem (by omega)⟩
 obtain ⟨lv0, hrow0, hlv0⟩ := hv.2 0 f0 bs0 hx0
 have hob := outF_le fs fs.length hbig (Nat.le_refl _)
 rw [List.take_length] at hob
 refine wp_regionK [] #[false, false, false, false, false, false, false, false, false, false, false, false, false, false, false] rfl M (by kernel_rfl) ?_; intro w5 M
 refine kP 0 S ?_; intro a S
 refine kP 1 S ?_; intro a S
 refine kR 2 S rfl M (fun w M => qX 453 6 S ((M.frs hv).1)) ?_; intro a S
 refine kF 3 0 S ?_; intro a S
 refine kR 4 S rfl M (fun w M => y_load S (by kernel_rfl) rfl (((M.frs hv).row hx0 hrow0).1.one 0 rfl)) ?_; intro a S
 refine kP 5 S ?_; intro a S
 refine kR 6 S rfl M (fun w M => qX 453 6 S ((M.frs hv).1)) ?_; intro a S
 refine kF 7 1 S ?_; intro a S
 refine kR 8 S rfl M (fun w M => y_load S (by kernel_rfl) rfl (((M.frs hv).row hx0 hrow0).1.one 1 rfl)) ?_; intro a S
 refine k_one 9 rfl (by kernel_rfl) ?_
 refine qC (xs := [.tmp 34, .tmp 38, .tmp 42]) S (qE Tryz.func384) rfl (cut_any v' (outF fs) f0.seq f0.inc _ ((M.readRow 0 rfl (by unfold maxLen; omega)).wide (Nat.zero_le _) (M.fits _ (List.mem_of_getElem? (show _[0]? = _ from rfl))).2) (hseq _ (List.mem_of_getElem? hx0))) ?_
 rintro _ w6 ⟨v2, rfl, hK, cs2, hF⟩; refine ⟨_, rfl, ?_⟩; intro a S
 obtain ⟨lo2, hi2, hlo2, M⟩ := M.pushFrs hK hF
 refine nxC ⟨fun _ => hK, ?_⟩
 refine kP 10 S ?_; intro a S
 refine kP 11 S ?_; intro a S
 refine kP 12 S ?_; intro a S
 refine kP 13 S ?_; intro a S
 refine kP 14 S ?_; intro a S
 refine k_end (by kernel_rfl) ?_
 refine then_normal (wp_seq (nxD (qG [1, 1, 1] S ?_))); intro a S
 refine qi 48 S ?_ ?_
 ·intro h48 S
  refine qG [0, 0, 0, 0, 0, 1] S ?_; intro a S
  replace S := S.keep [0, 4, 19, 20, 21, 22, 7, 8, 54]
  refine nxC (cT S (nxD (qG [1, 1] S ?_))); intro a S
  refine nxC (wp_ret (then_ret (qOO S ?_)))
  exact joinPost_no M (by
   rintro ⟨f', bs', r, e, h2, h3, h4, h5⟩
   have e1 : f' = f0 := by rw [e] at hx0; simp at hx0; exact hx0.1
   subst e1
   first
    | (apply h48; unfold cutE; rw [if_pos h4])
    | (apply h54; unfold cutR; rw [if_pos h4, h5]))
 intro h48 S
 refine qG [1] S ?_; intro a S
 refine qY S (y_lenR (E := 453) S rfl ((M.own 0 rfl).1) (by kernel_rfl)) ?_; intro a S
 refine qG [1] S ?_; intro a S
 refine qY S (y_lenR (E := 453) S rfl ((M.frs hv).1) (by kernel_rfl)) ?_; intro a S
 refine qG [1, 1] S ?_; intro a S
 replace S := S.keep [0, 4, 19, 20, 21, 22, 7, 8, 54]
 refine nxC (qi 54 S ?_ ?_)
 ·intro h54 S
  refine cT S (nxD (qG [1, 1] S ?_)); intro a S
  refine nxC (wp_ret (then_ret (qOO S ?_)))
  exact joinPost_no M (by
   rintro ⟨f', bs', r, e, h2, h3, h4, h5⟩
   have e1 : f' = f0 := by rw [e] at hx0; simp at hx0; exact hx0.1
   subst e1
   first
    | (apply h48; unfold cutE; rw [if_pos h4])
    | (apply h54; unfold cutR; rw [if_pos h4, h5]))
 intro h54 S
 refine cF S (wp_skip (then_normal (wp_seq (nxD ?_))))
 have hc0 : cutOk (outF fs) f0.seq f0.inc := by
  by_cases h : cutOk (outF fs) f0.seq f0.inc
  ·exact h
  ·unfold cutE at h48; rw [if_neg h] at h48; split at h48 <;> omega
 have hlen : (cutR (outF fs) f0.seq f0.inc).length = fs.length := by omega
 refine qY S (y_move S rfl) ?_; intro a S
 refine qY S (y_lenR (E := 453) S rfl ((M.frs hv).1) (by kernel_rfl)) ?_; intro a S
 refine qG [1] S ?_; intro a S
 refine nxC (wp_block (wp_loop_g (fun m a w' => ∃ (k : Nat), k ≤ fs.length ∧ m = fs.length - k ∧ Sees 71 a [(0, v), (4, v'), (7, v2), (55, v), (56, .int .i64 (fs.length : Nat)), (57, .int .i64 (k : Int))] ∧ Mem w w' [.own lo2 hi2 (fun w => FrsC cs2 lo2 hi2 w v2 (cutR (outF fs) f0.seq f0.inc)), rowE lo hi 5 1 v' (outF fs).length (bcells (outF fs))] ∧ ∀ i, i < k → fs[i]? = (cutR (outF fs) f0.seq f0.inc)[i]?) (fs.length) ?_ ?_))
 ·skip
  exact ⟨0, Nat.zero_le _, rfl, S.sub _ rfl, M, fun i hi => by omega⟩
 intro m a wl
 rintro ⟨k, hk, rfl, S, M, hsame⟩
 refine nxD (qG [1] S ?_); intro a S
 refine nxC (wp_seq (qf 58 S ?_ ?_))
 ·intro h58 S
  refine cF S (wp_exit (then_exit (then_exit (block_hit (nxE (qG [1, 1, 1] S ?_)))))); intro a S
  refine nxC (wp_ret (qOO S ?_))
  obtain rfl : k = fs.length := by omega
  have hjo : joinOk fs := by
   obtain ⟨x, r, e⟩ : ∃ x r, fs = x :: r := by cases fs with | nil => simp at hx0 | cons x r => exact ⟨x, r, rfl⟩
   have e0 : x = (f0, bs0) := by rw [e] at hx0; simpa using hx0
   refine ⟨f0, bs0, r, by rw [e, e0], by omega, hmay, hc0, ?_⟩
   unfold cutR at hsame hlen
   rw [if_pos hc0] at hsame hlen
   apply List.ext_getElem?
   intro i
   rcases Nat.lt_or_ge i fs.length with h | h
   ·exact (hsame i h).symm
   ·rw [List.getElem?_eq_none h, List.getElem?_eq_none (by omega)]
  exact ⟨_, by unfold joinE; rw [if_pos hjo], M.below, fun _ => M.fresh 1 rfl, fun h => absurd hjo h⟩
 intro h58 S
 refine cT S (wp_skip (then_normal (wp_seq (wp_block (nxD ?_)))))
 have hk' : k < fs.length := by omega
 obtain ⟨⟨f, bs⟩, hx⟩ : ∃ x, fs[k]? = some x := ⟨fs[k], List.getElem?_eq_getElem hk'⟩
 obtain ⟨lv, hrow, hlv⟩ := hv.2 k f bs hx
 obtain ⟨ad, cap, hlvE, -, -⟩ := hlv.form
 subst hlvE
 obtain ⟨⟨g, gs⟩, hx2⟩ : ∃ x, (cutR (outF fs) f0.seq f0.inc)[k]? = some x := ⟨_, List.getElem?_eq_getElem (by omega)⟩
 obtain ⟨lv2, hrow2, hlv2⟩ := (M.own 0 rfl).2 k g gs hx2
 refine qY S (y_move S rfl) ?_; intro a S
 refine qY S (qX 453 6 S ((M.frs hv).1)) ?_; intro a S
 try simp only [Int.toNat_natCast, Nat.mul_one, Nat.zero_add] at S
 refine qY S (y_loadAgg S (by kernel_rfl) rfl rfl (((M.frs hv).row hx hrow).1)) ?_; intro a S
 refine qN S M #[.int .i64 0, .int .i64 0, .int .i64 0, .int .i64 0, .int .u32 0, .slice none 0 0] ?_; intro a w7 b2 S M hB
 refine qG [1] S ?_; intro a S
 refine qS (sz := 6) (us := [_, _, _, _, _, _]) S M 0 ?_; intro w8 M
 refine nxC (wp_seq (wp_quiet M (by kernel_rfl) (by kernel_rfl) ?_))
 refine qU S (fun w M => qL6 S M 0) ?_; intro a S
 refine qU S (fun w M => y_move S rfl) ?_; intro a S
 refine qU S (fun w M => y_move S rfl) ?_; intro a S
 refine qU S (fun w M => qX 453 6 S ((M.own 1 rfl).1)) ?_; intro a S
 try simp only [Int.toNat_natCast, Nat.mul_one, Nat.zero_add] at S
 refine qU S (fun w M => y_loadAgg S (by kernel_rfl) rfl rfl (((M.own 1 rfl).row hx2 hrow2).1)) ?_; intro a S
 refine qt_call (xs := [.tmp 62, .tmp 66]) S (enters_of Tryz.func393 (by decide) rfl) rfl rfl rfl (quiet_of fun w M => sameF_any f g _ _ bs gs w (((M.frs hv).row hx hrow).2.wide (Nat.le_refl _) M.below.size) (((M.own 1 rfl).row hx2 hrow2).2.wide (Nat.zero_le _) (M.fits _ (List.mem_of_getElem? (show _[1]? = _ from rfl))).2)) ?_; intro a S
 refine qU S (fun w M => y_not S rfl) ?_; intro a S
 refine wpQuiet_nil ?_; intro w10 M
 refine then_normal (qf 68 S ?_ ?_)
 ·intro h68 S
  refine cF S (wp_skip (block_normal (nxF (qA S ?_)))); intro a S
  refine qG [1] S ?_; intro a S
  refine nxC ?_
  refine ⟨fs.length - (k + 1), by omega, k + 1, by omega, rfl, S.sub _ rfl, M.drop 0, ?_⟩
  intro i hi'
  rcases Nat.lt_or_ge i k with h | h
  ·exact hsame i h
  ·have : i = k := by omega
   subst this
   have h68' : f.same g bs gs = true := by simpa using h68
   obtain ⟨rfl, rfl⟩ := Fr.same_iff.1 h68'
   rw [hx, hx2]
 intro h68 S
 refine cT S (nxD (qG [1, 1] S ?_)); intro a S
 refine nxC (wp_ret (block_ret (then_ret (then_ret (block_ret (then_ret (qOO S ?_)))))))
 exact joinPost_no M (by
  rintro ⟨f', bs', r, e, h2, h3, h4, h5⟩
  have e1 : f' = f0 := by rw [e] at hx0; simp at hx0; exact hx0.1
  subst e1
  unfold cutR at hx2
  rw [if_pos h4, h5, hx] at hx2
  have e2 := Option.some.inj hx2
  have : f.same g bs gs = true := Fr.same_iff.2 ⟨congrArg Prod.fst e2, congrArg Prod.snd e2⟩
  rw [this] at h68; simp at h68)
end Go.Proofs.YtdcgcgifgnaccaaGreat
namespace Go.Proofs.YtdcgcgifgnaccaaGreat
open Go.RowKit Go.Sort
theorem number_any (v : Value) (bs : List UInt8) (at_ k : Int) (w : World) (hv : Bs 0 w.heap.size w v bs) (hk : -9223372036854775808 ≤ k) : Calls Tryz.prog 362 #[v, .int .i64 at_, .int .i64 k] w fun e w' => e = .returned (.int .i64 (getN bs at_ k)) ∧ Below w.heap.size w w' := by
 have M := Mem.start w
 refine qI Tryz.func362 17 ?_; intro a S
 refine nxD (qG [1] S ?_); intro a S
 refine nxA (qG [1, 1, 1] S ?_); intro a S
 refine qQ (xs := [.tmp 10, .tmp 11, .tmp 12]) S (qE Tryz.func232) rfl (get_any v bs at_ k _ (M.argW hv) hk) M ?_; intro a w1 S hK M
 refine qG [1, 1, 1, 1, 1] S ?_; intro a S
 refine nxA (qG [1, 1] S ?_); intro a S
 refine nxC (wp_ret (qO S ?_))
 exact ⟨rfl, M.below⟩
def fiveN (f : Fr) (l : Nat) : List (Int × Nat) := [(f.seq, 6), (f.inc, 3), (16 * f.part + f.of, 1), ((l : Int), 1), ((f.mark.toNat : Int), 4)]
def five (f : Fr) (l : Nat) (k : Nat) : List UInt8 := ((fiveN f l).take k).flatMap fun x => leB x.1 x.2
def padL (ld : List UInt8) : List UInt8 := ld ++ List.replicate (45 - ld.length) 0
def bytesF (f : Fr) (ld : List UInt8) : List UInt8 := sealB (five f ld.length 5 ++ padL ld)
def arr5 (f : Fr) (l : Nat) : List Value := [.int .i64 f.seq, .int .i64 6, .int .i64 f.inc, .int .i64 3, .int .i64 (16 * f.part + f.of), .int .i64 1, .int .i64 (l : Int), .int .i64 1, .int .i64 (f.mark.toNat : Int), .int .i64 4]
def BytesPost (f : Fr) (ld : List UInt8) (w : World) (e : Ending) (w' : World) : Prop :=
 ∃ v', e = .returned (.tuple #[v', .int .i64 (if f.may ld.length then 0 else 2)]) ∧ Below w.heap.size w w' ∧ (f.may ld.length = true → Fresh w w' 5 1 v' (bytesF f ld).length (bcells (bytesF f ld))) ∧ (f.may ld.length = false → v' = .slice none 0 0)
theorem pad_cells (ld : List UInt8) : (List.replicate 45 (Value.int .u8 0)).take 0 ++ bcells ld ++ (List.replicate 45 (Value.int .u8 0)).drop (0 + ld.length) = bcells (padL ld) := by
 rw [List.take_zero, List.nil_append, Nat.zero_add, List.drop_replicate, padL, bcells_append]
 congr 1
 unfold bcells; rw [List.map_replicate]; rfl
theorem padL_length {ld : List UInt8} (h : ld.length ≤ 45) : (padL ld).length = 45 := by rw [padL, List.length_append, List.length_replicate]; omega
theorem five_elem (f : Fr) (l k : Nat) (h : k < 5) : ∃ x, (fiveN f l)[k]? = some x ∧ cutL (arr5 f l) (k * 2) 2 = some [.int .i64 x.1, .int .i64 (x.2 : Int)] := by
 match k, h with
 | 0, _ => exact ⟨_, rfl, rfl⟩
 | 1, _ => exact ⟨_, rfl, rfl⟩
 | 2, _ => exact ⟨_, rfl, rfl⟩
 | 3, _ => exact ⟨_, rfl, rfl⟩
 | 4, _ => exact ⟨_, rfl, rfl⟩
theorem five_fits {f : Fr} {l k : Nat} {x : Int × Nat} (hm : f.may l = true) (h : (fiveN f l)[k]? = some x) : fitsP x.1 (x.2 : Int) := by
 simp only [Fr.may, decide_eq_true_eq] at hm
 have hmk := f.mark.isLt
 match k, h with
 | 0, h => simp [fiveN] at h; subst h; simp [fitsP]; omega
 | 1, h => simp [fiveN] at h; subst h; simp [fitsP]; omega
 | 2, h => simp [fiveN] at h; subst h; simp [fitsP]; omega
 | 3, h => simp [fiveN] at h; subst h; simp [fitsP]; omega
 | 4, h => simp [fiveN] at h; subst h; simp [fitsP]; omega
 | k + 5, h => simp [fiveN] at h
theorem five_succ {f : Fr} {l k : Nat} {x : Int × Nat} (h : (fiveN f l)[k]? = some x) : five f l (k + 1) = five f l k ++ leB x.1 x.2 := by
 obtain ⟨hlt, he⟩ := List.getElem?_eq_some_iff.1 h
 unfold five
 rw [List.take_succ_eq_append_getElem hlt, List.flatMap_append, he]; simp
theorem five_len (f : Fr) (l k : Nat) : (five f l k).length ≤ 15 := by
 unfold five
 match k with
 | 0 => simp
 | 1 => simp [fiveN, leB_length]
 | 2 => simp [fiveN, leB_length]
 | 3 => simp [fiveN, leB_length]
 | 4 => simp [fiveN, leB_length]
 | k + 5 => simp [fiveN, leB_length]
set_option maxHeartbeats 1000000 in
theorem bytes_any (f : Fr) (lv : Value) (ld : List UInt8) (w : World) (hv : Bs 0 w.heap.size w lv ld) : Calls Tryz.prog 364 #[.agg (f.cells lv).toArray] w (BytesPost f ld w) := by
 obtain ⟨ad, cap, rfl, -, -⟩ := hv.form
 have M := Mem.start w
 refine qI Tryz.func364 59 ?_; intro a S
 refine nxD (st_box S M rfl rfl rfl #[_, _, _, _, _, _] rfl ?_); intro a w1 b1 S M hB
 refine qG [1, 1] S ?_; intro a S
 refine nxC (wp_seq (nxD (qY S (qL6 S M 0) ?_))); intro a S
 refine qQ (xs := [.tmp 11]) S (qE Tryz.func392) rfl (mayF_any f ad ld.length cap _) M ?_; intro a w2 S hK M
 refine qG [1] S ?_; intro a S
 refine nxC (st_split (t := 13) S rfl ?_ ?_)
 ·intro h13 S
  refine cT S (nxD (qG [1, 1] S ?_)); intro a S
  refine nxC (wp_ret (then_ret (qOO S ?_)))
  have hm : f.may ld.length = false := by simpa using h13
  exact ⟨_, by rw [hm]; rfl, M.below, fun h => absurd h (by simp [hm]), fun _ => rfl⟩
 intro h13 S
 refine cF S (wp_skip (nxE ?_))
 have hm : f.may ld.length = true := by simpa using h13
 have hm' := hm
 simp only [Fr.may, decide_eq_true_eq] at hm'
 refine qN S M #[.int .u8 0, .int .u8 0, .int .u8 0, .int .u8 0, .int .u8 0, .int .u8 0, .int .u8 0, .int .u8 0, .int .u8 0, .int .u8 0, .int .u8 0, .int .u8 0, .int .u8 0, .int .u8 0, .int .u8 0, .int .u8 0, .int .u8 0, .int .u8 0, .int .u8 0, .int .u8 0, .int .u8 0, .int .u8 0, .int .u8 0, .int .u8 0, .int .u8 0, .int .u8 0, .int .u8 0, .int .u8 0, .int .u8 0, .int .u8 0, .int .u8 0, .int .u8 0, .int .u8 0, .int .u8 0, .int .u8 0, .int .u8 0, .int .u8 0, .int .u8 0, .int .u8 0, .int .u8 0, .int .u8 0, .int .u8 0, .int .u8 0, .int .u8 0, .int .u8 0] ?_; intro a w3 b2 S M hB
 refine nxC (wp_seq (wp_regionK [3] #[false, false, false, false, false] rfl M (by kernel_rfl) ?_)); intro w4 M
 refine k_pure 0 S rfl (fun w => y_sliceA (m := 45) (sz := 1) S (by kernel_rfl) rfl) ?_; intro a S
 refine kF 1 5 S ?_; intro a S
 refine kR 2 S rfl M (fun w M => qV S M 1) ?_; intro a S
 refine k_one 3 rfl (by kernel_rfl) ?_
 refine st_copy (e := 5) (us := bcells ld) S M 0 rfl rfl (by kernel_rfl) rfl rfl rfl (M.arg hv) (List.take_of_length_le (by simp [bcells]; omega)) (allOne_bcells _) (by simp [bcells]; omega) ?_; intro a w5 S M
 simp only [List.set_cons_zero, List.set_cons_succ] at M
 refine nxC ⟨fun h => absurd h (by decide), ?_⟩
 refine kP 4 S ?_; intro a S
 refine k_end (by kernel_rfl) ?_
 refine nxE ?_
 rw [bcells_length] at S M
 have M0 := M
 replace M : Mem w w5 [.blk b2 (bcells (padL ld)).toArray 541, .blk b1 (f.cells (.slice ad ld.length cap)).toArray 453] := by rw [← pad_cells]; exact M0
 clear M0
 refine st_make (e := 5) (sz := 1) (by_ := 1) (zc := [.int .u8 0]) S M rfl rfl (by kernel_rfl) rfl rfl (by omega) (by omega) (by omega) (by omega) ?_; intro a w6 b3 S M hB
 try simp only [Int.toNat_natCast, Int.reduceToNat, Nat.reduceMul] at S M
 refine qG [1] S ?_; intro a S
 refine nxC (wp_seq (nxD ?_))
 replace M := M.toRow (sz := 1) (m := 0) (cap := 60) (xs := []) 0 rfl rfl (by omega) (by unfold maxLen; omega) (by simp [madeL_length]) (by simp)
 have hmk := f.mark.isLt
 refine qY S (y_fieldAddr (k := 0) S (by kernel_rfl) rfl) ?_; intro a S
 refine qR [3] S M ?_; intro a S
 refine qY S (y_build (ps := [(0, .tmp 20), (1, .const (.int .i64 6))]) (pl := [(0, 1), (1, 1)]) (z := [.int .i64 0, .int .i64 0]) (cs := [_, _]) S (by kernel_rfl) rfl (rfl)) ?_; intro a S
 refine qR [2, 3] S M ?_; intro a S
 refine qY S (y_build (ps := [(0, .tmp 23), (1, .const (.int .i64 3))]) (pl := [(0, 1), (1, 1)]) (z := [.int .i64 0, .int .i64 0]) (cs := [_, _]) S (by kernel_rfl) rfl (rfl)) ?_; intro a S
 refine qR [3, 3] S M ?_; intro a S
 refine qA S ?_; intro a S
 refine qR [4, 3] S M ?_; intro a S
 refine qA S ?_; intro a S
 refine qY S (y_build (ps := [(0, .tmp 30), (1, .const (.int .i64 1))]) (pl := [(0, 1), (1, 1)]) (z := [.int .i64 0, .int .i64 0]) (cs := [_, _]) S (by kernel_rfl) rfl (rfl)) ?_; intro a S
 refine qG [1] S ?_; intro a S
 refine qY S (y_build (ps := [(0, .tmp 32), (1, .const (.int .i64 1))]) (pl := [(0, 1), (1, 1)]) (z := [.int .i64 0, .int .i64 0]) (cs := [_, _]) S (by kernel_rfl) rfl (rfl)) ?_; intro a S
 refine qR [5, 3] S M ?_; intro a S
 (first | refine qY S (y_to64 S rfl (by kernel_rfl) (by kernel_rfl) (by omega)) ?_ | refine qY S (y_conv (k' := .i64) S rfl (by kernel_rfl) (by kernel_rfl)) ?_); intro a S
 refine qY S (y_build (ps := [(0, .tmp 36), (1, .const (.int .i64 4))]) (pl := [(0, 1), (1, 1)]) (z := [.int .i64 0, .int .i64 0]) (cs := [_, _]) S (by kernel_rfl) rfl (rfl)) ?_; intro a S
 refine qY S (y_buildA (ps := [(0, .tmp 21), (1, .tmp 24), (2, .tmp 31), (3, .tmp 33), (4, .tmp 37)]) (sz := 2) (z := [.int .i64 0, .int .i64 0, .int .i64 0, .int .i64 0, .int .i64 0, .int .i64 0, .int .i64 0, .int .i64 0, .int .i64 0, .int .i64 0]) (cs := [_, _, _, _, _, _, _, _, _, _]) S (by kernel_rfl) rfl rfl) ?_; intro a S
 refine qG [1] S ?_; intro a S
 replace S := S.keep [0, 1, 2, 3, 13, 4, 5, 6, 38, 39]
 refine nxC (wp_block (wp_loop_g (fun m a w' => ∃ (k lo hi : Nat) (v' : Value), k ≤ 5 ∧ m = 5 - k ∧ Sees 59 a [(4, .pointer (some ⟨b2, 0, none⟩)), (6, v'), (38, .agg (arr5 f ld.length).toArray), (39, .int .i64 (k : Int))] ∧ Mem w w' [rowE lo hi 5 1 v' (five f ld.length k).length (bcells (five f ld.length k)), .blk b2 (bcells (padL ld)).toArray 541]) (5) ?_ ?_))
 ·skip
  exact ⟨0, _, _, _, Nat.zero_le _, rfl, S.sub _ rfl, M.drop 2⟩
 intro m a wl
 rintro ⟨k, lo, hi, v', hk, rfl, S, M⟩
 refine nxD (qG [1] S ?_); intro a S
 refine nxC (wp_seq (qf 40 S ?_ ?_))
 ·intro h40 S
  refine cF S (wp_exit (then_exit (then_exit (block_hit (nxE ?_)))))
  obtain rfl : k = 5 := by omega
  have hlen15 := five_len f ld.length 5
  refine qY S (y_move S rfl) ?_; intro a S
  refine qY S (y_sliceA (m := 45) (sz := 1) S (by kernel_rfl) rfl) ?_; intro a S
  have hp : Rd b2 (b2 + 1) wl 1 (.slice (some ⟨b2, 0, none⟩) 45 45) (padL ld).length (bcells (padL ld)) := by
   rw [padL_length (by omega)]
   exact Rd.of_blk (M.blk 1 rfl) (by rw [bcells_length, padL_length (by omega)]) (Nat.le_refl _) (by unfold maxLen; omega) (List.take_of_length_le (by simp [bcells_length, padL_length (show ld.length ≤ 45 by omega)]))
  have hpl := padL_length (show ld.length ≤ 45 by omega)
  refine st_append (e := 5) (sz := 1) (by_ := 1) (zc := [.int .u8 0]) S M 0 rfl rfl (by kernel_rfl) rfl (by decide) rfl rfl rfl (hp) (allOne_bcells _) (by omega) (by unfold maxLen; omega) ?_; intro a w10 vA loA hiA S M
  refine qC (xs := [.tmp 57]) S (qE Tryz.func275) rfl (seal_any vA (five f ld.length 5 ++ padL ld) _ (by have := (M.readRow 0 rfl (by unfold maxLen; omega)).wide (Nat.zero_le _) (M.fits _ (List.mem_of_getElem? (show _[0]? = _ from rfl))).2; unfold Bs; rw [bcells_append, List.length_append]; exact this) (by rw [List.length_append]; omega)) ?_
  rintro _ w11 ⟨v3, rfl, hF⟩; refine ⟨_, rfl, ?_⟩; intro a S
  obtain ⟨lo3, hi3, -, M⟩ := M.pushFresh hF
  refine qG [1, 1] S ?_; intro a S
  refine nxC (wp_ret (qOO S ?_))
  exact ⟨_, by rw [hm]; rfl, M.below, fun _ => M.fresh 0 rfl, fun h => absurd hm (by simp [h])⟩
 intro h40 S
 refine cT S (wp_skip (then_normal (wp_seq (wp_block (nxD ?_)))))
 have hk5 : k < 5 := by omega
 obtain ⟨⟨xn, xk⟩, hx, hxc⟩ := five_elem f ld.length k hk5
 have hfit := five_fits hm hx
 have hlen15 := five_len f ld.length k
 refine qY S (y_indexV (m := 5) (sz := 2) (k := 2) (es := [_, _]) S (by kernel_rfl) (fun e he => by cases he.symm.trans (show _ = some (.array 5 542) by kernel_rfl); kernel_rfl) rfl rfl (by first | omega | (simp; done) | (simp; omega)) (hxc)) ?_; intro a S
 refine qN S M #[.int .i64 0, .int .i64 0] ?_; intro a w7 b4 S M hB
 refine qS (sz := 2) (us := [_, _]) S M 0 ?_; intro w8 M
 refine nxA (qR [1, 1, 1, 2, 1] S M ?_); intro a S
 refine qC (xs := [.tmp 43, .tmp 45, .tmp 47]) S (qE Tryz.func205) rfl (put_any v' (five f ld.length k) xn (xk : Int) _ ((M.readRow 1 rfl (by unfold maxLen; omega)).wide (Nat.zero_le _) (M.fits _ (List.mem_of_getElem? (show _[1]? = _ from rfl))).2) (by omega)) ?_
 rintro _ w9 ⟨v2, rfl, hK, hF, -⟩; refine ⟨_, rfl, ?_⟩; intro a S
 replace hF := hF hfit
 obtain ⟨lo2, hi2, -, M⟩ := M.pushFresh hF
 rw [show putE xn (xk : Int) = 0 from by unfold putE; rw [if_pos hfit]] at S
 refine qG [1, 1, 1, 1, 1] S ?_; intro a S
 refine nxC (wp_seq (nxD (qG [1, 1] S ?_))); intro a S
 refine nxC (qi 52 S ?_ ?_)
 ·intro h52 S
  exact absurd rfl h52
 intro h52 S
 refine cF S (wp_skip (nxF (qG [1, 1] S ?_))); intro a S
 refine wpList_nil (block_normal (nxF (qA S ?_))); intro a S
 refine qG [1] S ?_; intro a S
 replace S := S.keep [4, 38, 40, 8, 9, 10, 52, 6, 39]
 refine nxC ?_
 replace M := M.drp 1
 replace M := M.drp 1
 refine ⟨5 - (k + 1), by omega, k + 1, lo2, hi2, v2, by omega, rfl, S.sub _ rfl, ?_⟩
 rw [five_succ hx]
 rw [Int.toNat_natCast] at M
 exact M
end Go.Proofs.YtdcgcgifgnaccaaGreat
namespace Go.Proofs.YtdcgcgifgnaccaaGreat
open Go.RowKit Go.Sort
def frIn (x : List UInt8) : Fr := ⟨getN x 0 6, getN x 6 3, getN x 9 1 / 16, getN x 9 1 % 16, BitVec.ofInt 32 (getN x 11 4)⟩
def ldIn (x : List UInt8) : List UInt8 := (x.drop 15).take (getN x 10 1).toNat
open Classical in
noncomputable def readF (bs : List UInt8) : Option (Fr × List UInt8) :=
 if bs.length = 64 ∧ openOk bs ∧ getN (bs.take 60) 10 1 ≤ 45 ∧ (frIn (bs.take 60)).may (ldIn (bs.take 60)).length = true ∧ bytesF (frIn (bs.take 60)) (ldIn (bs.take 60)) = bs then some (frIn (bs.take 60), ldIn (bs.take 60)) else none
def zeroFr : Fr := ⟨0, 0, 0, 0, 0#32⟩
theorem getN_bd (x : List UInt8) (i k : Int) (hk : k ≤ 6) : 0 ≤ getN x i k ∧ getN x i k ≤ 281474976710655 := by
 unfold getN
 split
 ·rename_i h
  have h1 := leN_lt ((x.drop i.toNat).take k.toNat)
  have h2 : 256 ^ ((x.drop i.toNat).take k.toNat).length ≤ 256 ^ 6 := Nat.pow_le_pow_right (by omega) (by rw [List.length_take]; omega)
  omega
 ·omega
theorem getN_bd1 (x : List UInt8) (i : Int) : getN x i 1 ≤ 255 := by
 unfold getN
 split
 ·have h1 := leN_lt ((x.drop i.toNat).take (1 : Int).toNat)
  have h2 : 256 ^ ((x.drop i.toNat).take (1 : Int).toNat).length ≤ 256 ^ 1 := Nat.pow_le_pow_right (by omega) (by rw [List.length_take]; exact Nat.min_le_left _ _)
  omega
 ·omega
theorem five5_length (f : Fr) (l : Nat) : (five f l 5).length = 15 := by simp [five, fiveN, leB_length]
theorem bytesF_length {f : Fr} {ld : List UInt8} (h : f.may ld.length = true) : (bytesF f ld).length = 64 := by
 simp only [Fr.may, decide_eq_true_eq] at h
 simp only [bytesF, sealB, List.length_append, five5_length, padL_length (show ld.length ≤ 45 by omega), sum4, List.length_cons, List.length_nil]
def ReadPost (bs : List UInt8) (w : World) (e : Ending) (w' : World) : Prop :=
 ∃ f lv E, e = .returned (.tuple #[.agg (Fr.cells f lv).toArray, .int .i64 E]) ∧ Below w.heap.size w w' ∧ (∀ g ld, readF bs = some (g, ld) → f = g ∧ E = 0 ∧ Fresh w w' 5 1 lv ld.length (bcells ld)) ∧ (readF bs = none → f = zeroFr ∧ lv = .slice none 0 0 ∧ E = 40)
theorem readPost_no {bs : List UInt8} {w w' : World} {H : List Ent} (M : Mem w w' H) (h : readF bs = none) : ReadPost bs w (.returned (.tuple #[.agg (zeroFr.cells (.slice none 0 0)).toArray, .int .i64 40])) w' :=
 ⟨zeroFr, _, _, rfl, M.below, (fun g ld h' => by rw [h] at h'; cases h'), fun _ => ⟨rfl, rfl, rfl⟩⟩
set_option maxHeartbeats 2000000 in
theorem read_any (v : Value) (bs : List UInt8) (w : World) (hv : Bs 0 w.heap.size w v bs) (hb : bs.length ≤ 1000) : Calls Tryz.prog 282 #[v] w (ReadPost bs w) := by
 have M := Mem.start w
 refine qI Tryz.func282 64 ?_; intro a S
 refine nxD (qN S M #[.int .i64 0, .int .i64 0, .int .i64 0, .int .i64 0, .int .u32 0, .slice none 0 0] ?_); intro a w1 b1 S M hB
 refine qG [1] S ?_; intro a S
 refine nxC (wp_seq (nxD (qG [1] S ?_))); intro a S
 refine qY S (y_lenR (E := 5) S rfl (M.arg hv) (by kernel_rfl)) ?_; intro a S
 refine qG [1] S ?_; intro a S
 refine nxC (qi 13 S ?_ ?_)
 ·intro h13 S
  refine cT S (nxD (qY S (y_build (ps := []) (pl := [(0, 1), (1, 1), (2, 1), (3, 1), (4, 1), (5, 1)]) (z := [.int .i64 0, .int .i64 0, .int .i64 0, .int .i64 0, .int .u32 0, .slice none 0 0]) (cs := [_, _, _, _, _, _]) S (by kernel_rfl) rfl (rfl)) ?_)); intro a S
  refine qS (sz := 6) (us := [_, _, _, _, _, _]) S M 0 ?_; intro w2 M
  refine qG [1] S ?_; intro a S
  refine nxC (wp_ret (then_ret (end_two S rfl (res_agg (cs := [_, _, _, _, _, _]) (by kernel_rfl) rfl rfl (M.cellsAt (k := 6) 0 rfl rfl)) (res_tmp rfl) ?_)))
  exact readPost_no M (by unfold readF; rw [if_neg]; rintro ⟨h, _⟩; omega)
 intro h13 S
 refine cF S (wp_skip (nxE (qG [1] S ?_))); intro a S
 refine qC (xs := [.tmp 16]) S (qE Tryz.func310) rfl (open_any v bs _ (M.argW hv) (by omega)) ?_
 rintro _ w3 ⟨v4, rfl, hK, hO, hN⟩; refine ⟨_, rfl, ?_⟩; intro a S
 obtain ⟨loI, hiI, -, M⟩ := M.pushFresh (fresh_if hK hO hN)
 refine qG [1, 1, 1, 1, 1] S ?_; intro a S
 refine nxC (wp_seq (nxD (qG [1, 1] S ?_))); intro a S
 refine nxC (st_split (t := 21) S rfl ?_ ?_)
 ·intro h21 S
  refine cT S (nxD (qY S (y_build (ps := []) (pl := [(0, 1), (1, 1), (2, 1), (3, 1), (4, 1), (5, 1)]) (z := [.int .i64 0, .int .i64 0, .int .i64 0, .int .i64 0, .int .u32 0, .slice none 0 0]) (cs := [_, _, _, _, _, _]) S (by kernel_rfl) rfl (rfl)) ?_)); intro a S
  refine qS (sz := 6) (us := [_, _, _, _, _, _]) S M 1 ?_; intro w4 M
  refine qG [1] S ?_; intro a S
  refine nxC (wp_ret (then_ret (end_two S rfl (res_agg (cs := [_, _, _, _, _, _]) (by kernel_rfl) rfl rfl (M.cellsAt (k := 6) 1 rfl rfl)) (res_tmp rfl) ?_)))
  exact readPost_no M (by unfold readF; rw [if_neg]; rintro ⟨_, h, _⟩; rw [openB_true h] at h21; simp at h21)
 intro h21 S
 refine cF S (wp_skip (nxE ?_))
 have hok : openOk bs := by
  by_cases h : openOk bs
  ·exact h
  ·rw [openB_false h] at h21; simp at h21
 have h64 : bs.length = 64 := by omega
 rw [ifL_pos hok, show bs.length - 4 = 60 by omega] at M
 have hx60 : (bs.take 60).length = 60 := by rw [List.length_take]; omega
 generalize hX : bs.take 60 = X at *
 have hm60 : X.length ≤ maxLen := by rw [hx60]; unfold maxLen; omega
 have hb10 := getN_bd X 10 1 (by omega)
 have hb9 := getN_bd X 9 1 (by omega)
 have hb9' := getN_bd1 X 9
 have hl10 : (ldIn X).length = (getN X 10 1).toNat ∨ 45 < getN X 10 1 := by
  rcases Int.lt_or_le 45 (getN X 10 1) with h | h
  ·exact .inr h
  ·left; simp only [ldIn, List.length_take, List.length_drop]; omega
 refine qY S (y_move S rfl) ?_; intro a S
 refine qQ (xs := [.tmp 23, .const (.int .i64 10), .const (.int .i64 1)]) S (qE Tryz.func362) rfl (number_any v4 X _ _ _ ((M.readRow 0 rfl hm60).wide (Nat.zero_le _) (M.fits _ (List.mem_of_getElem? (show _[0]? = _ from rfl))).2) (by omega)) M ?_; intro a w5 S hK M
 refine qG [1] S ?_; intro a S
 refine nxC (wp_seq (nxD (qG [1, 1] S ?_))); intro a S
 refine nxC (qi 26 S ?_ ?_)
 ·intro h26 S
  refine cT S (nxD (qY S (y_build (ps := []) (pl := [(0, 1), (1, 1), (2, 1), (3, 1), (4, 1), (5, 1)]) (z := [.int .i64 0, .int .i64 0, .int .i64 0, .int .i64 0, .int .u32 0, .slice none 0 0]) (cs := [_, _, _, _, _, _]) S (by kernel_rfl) rfl (rfl)) ?_)); intro a S
  refine qS (sz := 6) (us := [_, _, _, _, _, _]) S M 1 ?_; intro w6 M
  refine qG [1] S ?_; intro a S
  refine nxC (wp_ret (then_ret (end_two S rfl (res_agg (cs := [_, _, _, _, _, _]) (by kernel_rfl) rfl rfl (M.cellsAt (k := 6) 1 rfl rfl)) (res_tmp rfl) ?_)))
  exact readPost_no M (by unfold readF; rw [if_neg]; rintro ⟨_, _, h, _⟩; rw [hX] at h; omega)
 intro h26 S
 refine cF S (wp_skip (nxE (qG [1] S ?_))); intro a S
 refine qQ (xs := [.tmp 28, .const (.int .i64 9), .const (.int .i64 1)]) S (qE Tryz.func362) rfl (number_any v4 X _ _ _ ((M.readRow 0 rfl hm60).wide (Nat.zero_le _) (M.fits _ (List.mem_of_getElem? (show _[0]? = _ from rfl))).2) (by omega)) M ?_; intro a w7 S hK M
 refine qG [1] S ?_; intro a S
 refine nxC (wp_cut (fun a w' => ∃ (lvv : Value) (b8 lo hi : Nat), Sees 64 a [(0, v), (2, .pointer (some ⟨b1, 0, none⟩)), (8, .pointer (some ⟨b8, 0, none⟩))] ∧ Mem w w' [.blk b8 ((frIn X).cells lvv).toArray 453, rowE lo hi 5 1 lvv (ldIn X).length (bcells (ldIn X)), .blk b1 (zeroFr.cells (.slice none 0 0)).toArray 453]) ?_ ?_)
 ·skip
  refine wp_regionK [20] #[false, false, false, false, false, false, false, false, false, false, false, false, false, false, false, false, false, false, false, false, false] rfl M (by kernel_rfl) ?_; intro w8 M
  refine kP 0 S ?_; intro a S
  refine kP 2 S ?_; intro a S
  refine kP 4 S ?_; intro a S
  refine k_pure 5 S rfl (fun w => y_quoN S rfl rfl (by omega)) ?_; intro a S
  refine kP 6 S ?_; intro a S
  (first | refine k_pure 7 S rfl (fun w => y_remN S rfl rfl (by omega)) ?_ | refine k_pure 7 S rfl (fun w => y_remZ S rfl rfl (by omega)) ?_); intro a S
  refine kP 8 S ?_; intro a S
  refine kP 11 S ?_; intro a S
  refine kP 12 S ?_; intro a S
  (first | refine k_pure 13 S rfl (fun w => y_addN S rfl rfl (by omega)) ?_ | refine k_pure 13 S rfl (fun w => y_int S rfl rfl rfl) ?_); intro a S
  refine kP 14 S ?_; intro a S
  (first | refine k_pure 15 S rfl (fun w => y_addN S rfl rfl (by omega)) ?_ | refine k_pure 15 S rfl (fun w => y_int S rfl rfl rfl) ?_); intro a S
  refine kR 16 S rfl M (fun w M => y_slice3R (e := 5) (sz := 1) S (by kernel_rfl) rfl ((M.readRow 0 rfl hm60)) rfl rfl rfl (by first | omega | (simp; done) | (simp; omega))) ?_; intro a S
  refine k_two 1 19 rfl rfl (by kernel_rfl) ?_ ?_
  ·skip
   refine qQ (xs := [.tmp 30, .const (.int .i64 0), .const (.int .i64 6)]) S (qE Tryz.func362) rfl (number_any v4 X _ _ _ ((M.readRow 0 rfl hm60).wide (Nat.zero_le _) (M.fits _ (List.mem_of_getElem? (show _[0]? = _ from rfl))).2) (by omega)) M ?_; intro a w9 S hK M
   refine nxC ⟨fun _ => hK, ?_⟩
   refine k_two 3 19 rfl rfl (by kernel_rfl) ?_ ?_
   ·skip
    refine qQ (xs := [.tmp 32, .const (.int .i64 6), .const (.int .i64 3)]) S (qE Tryz.func362) rfl (number_any v4 X _ _ _ ((M.readRow 0 rfl hm60).wide (Nat.zero_le _) (M.fits _ (List.mem_of_getElem? (show _[0]? = _ from rfl))).2) (by omega)) M ?_; intro a w10 S hK M
    refine nxC ⟨fun _ => hK, ?_⟩
    refine k_two 9 19 rfl rfl (by kernel_rfl) ?_ ?_
    ·skip
     refine qQ (xs := [.tmp 38, .const (.int .i64 11), .const (.int .i64 4)]) S (qE Tryz.func362) rfl (number_any v4 X _ _ _ ((M.readRow 0 rfl hm60).wide (Nat.zero_le _) (M.fits _ (List.mem_of_getElem? (show _[0]? = _ from rfl))).2) (by omega)) M ?_; intro a w11 S hK M
     refine nxC ⟨fun _ => hK, ?_⟩
     refine k_pure 10 S rfl (fun w => y_to32 S rfl (by kernel_rfl) (by kernel_rfl)) ?_; intro a S
     refine k_two 17 19 rfl rfl (by kernel_rfl) ?_ ?_
     ·skip
      have hC := ((M.readRow 0 rfl hm60).wide (Nat.zero_le _) (M.fits _ (List.mem_of_getElem? (show _[0]? = _ from rfl))).2).cutB (i := (15 : Int).toNat) (j := ((15 : Int) + getN X 10 1).toNat) (mx := ((15 : Int) + getN X 10 1).toNat) (by omega) (by omega) (by omega) (by have := (M.readRow 0 rfl hm60).cap; omega)
      rw [show (X.drop (15 : Int).toNat).take (((15 : Int) + getN X 10 1).toNat - (15 : Int).toNat) = ldIn X from by unfold ldIn; congr 1; omega] at hC
      refine qC (xs := [.tmp 46]) S (qE Tryz.func363) rfl (clone_any _ (ldIn X) _ hC (by omega)) ?_
      rintro _ w12 ⟨lv, rfl, hF2⟩; refine ⟨_, rfl, ?_⟩; intro a S
      obtain ⟨adL, capL, hlvE, -, -⟩ := (hF2.rd (by unfold maxLen; omega)).form
      have hK := hF2.below
      obtain ⟨loL, hiL, -, M⟩ := M.pushFresh hF2
      subst hlvE
      refine nxC ⟨fun _ => hK, ?_⟩
      refine k_pure 18 S rfl (fun w => y_build (ps := [(0, .tmp 31), (1, .tmp 33), (2, .tmp 35), (3, .tmp 37), (4, .tmp 40), (5, .tmp 47)]) (pl := [(0, 1), (1, 1), (2, 1), (3, 1), (4, 1), (5, 1)]) (z := [.int .i64 0, .int .i64 0, .int .i64 0, .int .i64 0, .int .u32 0, .slice none 0 0]) (cs := [_, _, _, _, _, _]) S (by kernel_rfl) rfl (rfl)) ?_; intro a S
      refine k_one 19 rfl (by kernel_rfl) ?_
      refine qN S M #[.int .i64 0, .int .i64 0, .int .i64 0, .int .i64 0, .int .u32 0, .slice none 0 0] ?_; intro a w13 bF S M hB
      refine nxC ⟨fun _ => hB, ?_⟩
      refine k_one 20 rfl (by kernel_rfl) ?_
      refine qS (sz := 6) (us := [_, _, _, _, _, _]) S M 0 ?_; intro w14 M
      refine nxC ⟨fun h => absurd h (by decide), ?_⟩
      refine k_end (by kernel_rfl) ?_
      replace S := S.keep [0, 2, 3, 13, 4, 5, 21, 6, 26, 7, 8]
      refine then_normal ?_
      replace M := M.ord [3, 2, 2] (by simp only [ordO, oG, oS, oE, oZ, oB] <;> rfl)
      replace M := M.sub (H' := _ :: _ :: [_]) (List.Sublist.cons_cons _ (List.Sublist.cons_cons _ (List.Sublist.cons_cons _ (List.nil_sublist _))))
      exact ⟨_, _, _, _, S.sub _ rfl, M⟩
     ·skip
      refine qN S M #[.int .i64 0, .int .i64 0, .int .i64 0, .int .i64 0, .int .u32 0, .slice none 0 0] ?_; intro a w15 bF S M hB
      refine nxC ⟨fun _ => hB, ?_⟩
      refine k_one 17 rfl (by kernel_rfl) ?_
      have hC := ((M.readRow 1 rfl hm60).wide (Nat.zero_le _) (M.fits _ (List.mem_of_getElem? (show _[1]? = _ from rfl))).2).cutB (i := (15 : Int).toNat) (j := ((15 : Int) + getN X 10 1).toNat) (mx := ((15 : Int) + getN X 10 1).toNat) (by omega) (by omega) (by omega) (by have := (M.readRow 1 rfl hm60).cap; omega)
      rw [show (X.drop (15 : Int).toNat).take (((15 : Int) + getN X 10 1).toNat - (15 : Int).toNat) = ldIn X from by unfold ldIn; congr 1; omega] at hC
      refine qC (xs := [.tmp 46]) S (qE Tryz.func363) rfl (clone_any _ (ldIn X) _ hC (by omega)) ?_
      rintro _ w16 ⟨lv, rfl, hF2⟩; refine ⟨_, rfl, ?_⟩; intro a S
      obtain ⟨adL, capL, hlvE, -, -⟩ := (hF2.rd (by unfold maxLen; omega)).form
      have hK := hF2.below
      obtain ⟨loL, hiL, -, M⟩ := M.pushFresh hF2
      subst hlvE
      refine nxC ⟨fun _ => hK, ?_⟩
      refine k_pure 18 S rfl (fun w => y_build (ps := [(0, .tmp 31), (1, .tmp 33), (2, .tmp 35), (3, .tmp 37), (4, .tmp 40), (5, .tmp 47)]) (pl := [(0, 1), (1, 1), (2, 1), (3, 1), (4, 1), (5, 1)]) (z := [.int .i64 0, .int .i64 0, .int .i64 0, .int .i64 0, .int .u32 0, .slice none 0 0]) (cs := [_, _, _, _, _, _]) S (by kernel_rfl) rfl (rfl)) ?_; intro a S
      refine k_one 20 rfl (by kernel_rfl) ?_
      refine qS (sz := 6) (us := [_, _, _, _, _, _]) S M 1 ?_; intro w17 M
      refine nxC ⟨fun h => absurd h (by decide), ?_⟩
      refine k_end (by kernel_rfl) ?_
      replace S := S.keep [0, 2, 3, 13, 4, 5, 21, 6, 26, 7, 8]
      refine then_normal ?_
      replace M := M.ord [3, 1, 2] (by simp only [ordO, oG, oS, oE, oZ, oB] <;> rfl)
      replace M := M.sub (H' := _ :: _ :: [_]) (List.Sublist.cons_cons _ (List.Sublist.cons_cons _ (List.Sublist.cons_cons _ (List.nil_sublist _))))
      exact ⟨_, _, _, _, S.sub _ rfl, M⟩
    ·skip
     refine qN S M #[.int .i64 0, .int .i64 0, .int .i64 0, .int .i64 0, .int .u32 0, .slice none 0 0] ?_; intro a w18 bF S M hB
     refine nxC ⟨fun _ => hB, ?_⟩
     refine k_one 9 rfl (by kernel_rfl) ?_
     refine qQ (xs := [.tmp 38, .const (.int .i64 11), .const (.int .i64 4)]) S (qE Tryz.func362) rfl (number_any v4 X _ _ _ ((M.readRow 1 rfl hm60).wide (Nat.zero_le _) (M.fits _ (List.mem_of_getElem? (show _[1]? = _ from rfl))).2) (by omega)) M ?_; intro a w19 S hK M
     refine nxC ⟨fun _ => hK, ?_⟩
     refine k_pure 10 S rfl (fun w => y_to32 S rfl (by kernel_rfl) (by kernel_rfl)) ?_; intro a S
     refine k_one 17 rfl (by kernel_rfl) ?_
     have hC := ((M.readRow 1 rfl hm60).wide (Nat.zero_le _) (M.fits _ (List.mem_of_getElem? (show _[1]? = _ from rfl))).2).cutB (i := (15 : Int).toNat) (j := ((15 : Int) + getN X 10 1).toNat) (mx := ((15 : Int) + getN X 10 1).toNat) (by omega) (by omega) (by omega) (by have := (M.readRow 1 rfl hm60).cap; omega)
     rw [show (X.drop (15 : Int).toNat).take (((15 : Int) + getN X 10 1).toNat - (15 : Int).toNat) = ldIn X from by unfold ldIn; congr 1; omega] at hC
     refine qC (xs := [.tmp 46]) S (qE Tryz.func363) rfl (clone_any _ (ldIn X) _ hC (by omega)) ?_
     rintro _ w20 ⟨lv, rfl, hF2⟩; refine ⟨_, rfl, ?_⟩; intro a S
     obtain ⟨adL, capL, hlvE, -, -⟩ := (hF2.rd (by unfold maxLen; omega)).form
     have hK := hF2.below
     obtain ⟨loL, hiL, -, M⟩ := M.pushFresh hF2
     subst hlvE
     refine nxC ⟨fun _ => hK, ?_⟩
     refine k_pure 18 S rfl (fun w => y_build (ps := [(0, .tmp 31), (1, .tmp 33), (2, .tmp 35), (3, .tmp 37), (4, .tmp 40), (5, .tmp 47)]) (pl := [(0, 1), (1, 1), (2, 1), (3, 1), (4, 1), (5, 1)]) (z := [.int .i64 0, .int .i64 0, .int .i64 0, .int .i64 0, .int .u32 0, .slice none 0 0]) (cs := [_, _, _, _, _, _]) S (by kernel_rfl) rfl (rfl)) ?_; intro a S
     refine k_one 20 rfl (by kernel_rfl) ?_
     refine qS (sz := 6) (us := [_, _, _, _, _, _]) S M 1 ?_; intro w21 M
     refine nxC ⟨fun h => absurd h (by decide), ?_⟩
     refine k_end (by kernel_rfl) ?_
     replace S := S.keep [0, 2, 3, 13, 4, 5, 21, 6, 26, 7, 8]
     refine then_normal ?_
     replace M := M.ord [3, 1, 2] (by simp only [ordO, oG, oS, oE, oZ, oB] <;> rfl)
     replace M := M.sub (H' := _ :: _ :: [_]) (List.Sublist.cons_cons _ (List.Sublist.cons_cons _ (List.Sublist.cons_cons _ (List.nil_sublist _))))
     exact ⟨_, _, _, _, S.sub _ rfl, M⟩
   ·skip
    refine qN S M #[.int .i64 0, .int .i64 0, .int .i64 0, .int .i64 0, .int .u32 0, .slice none 0 0] ?_; intro a w22 bF S M hB
    refine nxC ⟨fun _ => hB, ?_⟩
    refine k_one 3 rfl (by kernel_rfl) ?_
    refine qQ (xs := [.tmp 32, .const (.int .i64 6), .const (.int .i64 3)]) S (qE Tryz.func362) rfl (number_any v4 X _ _ _ ((M.readRow 1 rfl hm60).wide (Nat.zero_le _) (M.fits _ (List.mem_of_getElem? (show _[1]? = _ from rfl))).2) (by omega)) M ?_; intro a w23 S hK M
    refine nxC ⟨fun _ => hK, ?_⟩
    refine k_one 9 rfl (by kernel_rfl) ?_
    refine qQ (xs := [.tmp 38, .const (.int .i64 11), .const (.int .i64 4)]) S (qE Tryz.func362) rfl (number_any v4 X _ _ _ ((M.readRow 1 rfl hm60).wide (Nat.zero_le _) (M.fits _ (List.mem_of_getElem? (show _[1]? = _ from rfl))).2) (by omega)) M ?_; intro a w24 S hK M
    refine nxC ⟨fun _ => hK, ?_⟩
    refine k_pure 10 S rfl (fun w => y_to32 S rfl (by kernel_rfl) (by kernel_rfl)) ?_; intro a S
    refine k_one 17 rfl (by kernel_rfl) ?_
    have hC := ((M.readRow 1 rfl hm60).wide (Nat.zero_le _) (M.fits _ (List.mem_of_getElem? (show _[1]? = _ from rfl))).2).cutB (i := (15 : Int).toNat) (j := ((15 : Int) + getN X 10 1).toNat) (mx := ((15 : Int) + getN X 10 1).toNat) (by omega) (by omega) (by omega) (by have := (M.readRow 1 rfl hm60).cap; omega)
    rw [show (X.drop (15 : Int).toNat).take (((15 : Int) + getN X 10 1).toNat - (15 : Int).toNat) = ldIn X from by unfold ldIn; congr 1; omega] at hC
    refine qC (xs := [.tmp 46]) S (qE Tryz.func363) rfl (clone_any _ (ldIn X) _ hC (by omega)) ?_
    rintro _ w25 ⟨lv, rfl, hF2⟩; refine ⟨_, rfl, ?_⟩; intro a S
    obtain ⟨adL, capL, hlvE, -, -⟩ := (hF2.rd (by unfold maxLen; omega)).form
    have hK := hF2.below
    obtain ⟨loL, hiL, -, M⟩ := M.pushFresh hF2
    subst hlvE
    refine nxC ⟨fun _ => hK, ?_⟩
    refine k_pure 18 S rfl (fun w => y_build (ps := [(0, .tmp 31), (1, .tmp 33), (2, .tmp 35), (3, .tmp 37), (4, .tmp 40), (5, .tmp 47)]) (pl := [(0, 1), (1, 1), (2, 1), (3, 1), (4, 1), (5, 1)]) (z := [.int .i64 0, .int .i64 0, .int .i64 0, .int .i64 0, .int .u32 0, .slice none 0 0]) (cs := [_, _, _, _, _, _]) S (by kernel_rfl) rfl (rfl)) ?_; intro a S
    refine k_one 20 rfl (by kernel_rfl) ?_
    refine qS (sz := 6) (us := [_, _, _, _, _, _]) S M 1 ?_; intro w26 M
    refine nxC ⟨fun h => absurd h (by decide), ?_⟩
    refine k_end (by kernel_rfl) ?_
    replace S := S.keep [0, 2, 3, 13, 4, 5, 21, 6, 26, 7, 8]
    refine then_normal ?_
    replace M := M.ord [3, 1, 2] (by simp only [ordO, oG, oS, oE, oZ, oB] <;> rfl)
    replace M := M.sub (H' := _ :: _ :: [_]) (List.Sublist.cons_cons _ (List.Sublist.cons_cons _ (List.Sublist.cons_cons _ (List.nil_sublist _))))
    exact ⟨_, _, _, _, S.sub _ rfl, M⟩
  ·skip
   refine qN S M #[.int .i64 0, .int .i64 0, .int .i64 0, .int .i64 0, .int .u32 0, .slice none 0 0] ?_; intro a w27 bF S M hB
   refine nxC ⟨fun _ => hB, ?_⟩
   refine k_one 1 rfl (by kernel_rfl) ?_
   refine qQ (xs := [.tmp 30, .const (.int .i64 0), .const (.int .i64 6)]) S (qE Tryz.func362) rfl (number_any v4 X _ _ _ ((M.readRow 1 rfl hm60).wide (Nat.zero_le _) (M.fits _ (List.mem_of_getElem? (show _[1]? = _ from rfl))).2) (by omega)) M ?_; intro a w28 S hK M
   refine nxC ⟨fun _ => hK, ?_⟩
   refine k_one 3 rfl (by kernel_rfl) ?_
   refine qQ (xs := [.tmp 32, .const (.int .i64 6), .const (.int .i64 3)]) S (qE Tryz.func362) rfl (number_any v4 X _ _ _ ((M.readRow 1 rfl hm60).wide (Nat.zero_le _) (M.fits _ (List.mem_of_getElem? (show _[1]? = _ from rfl))).2) (by omega)) M ?_; intro a w29 S hK M
   refine nxC ⟨fun _ => hK, ?_⟩
   refine k_one 9 rfl (by kernel_rfl) ?_
   refine qQ (xs := [.tmp 38, .const (.int .i64 11), .const (.int .i64 4)]) S (qE Tryz.func362) rfl (number_any v4 X _ _ _ ((M.readRow 1 rfl hm60).wide (Nat.zero_le _) (M.fits _ (List.mem_of_getElem? (show _[1]? = _ from rfl))).2) (by omega)) M ?_; intro a w30 S hK M
   refine nxC ⟨fun _ => hK, ?_⟩
   refine k_pure 10 S rfl (fun w => y_to32 S rfl (by kernel_rfl) (by kernel_rfl)) ?_; intro a S
   refine k_one 17 rfl (by kernel_rfl) ?_
   have hC := ((M.readRow 1 rfl hm60).wide (Nat.zero_le _) (M.fits _ (List.mem_of_getElem? (show _[1]? = _ from rfl))).2).cutB (i := (15 : Int).toNat) (j := ((15 : Int) + getN X 10 1).toNat) (mx := ((15 : Int) + getN X 10 1).toNat) (by omega) (by omega) (by omega) (by have := (M.readRow 1 rfl hm60).cap; omega)
   rw [show (X.drop (15 : Int).toNat).take (((15 : Int) + getN X 10 1).toNat - (15 : Int).toNat) = ldIn X from by unfold ldIn; congr 1; omega] at hC
   refine qC (xs := [.tmp 46]) S (qE Tryz.func363) rfl (clone_any _ (ldIn X) _ hC (by omega)) ?_
   rintro _ w31 ⟨lv, rfl, hF2⟩; refine ⟨_, rfl, ?_⟩; intro a S
   obtain ⟨adL, capL, hlvE, -, -⟩ := (hF2.rd (by unfold maxLen; omega)).form
   have hK := hF2.below
   obtain ⟨loL, hiL, -, M⟩ := M.pushFresh hF2
   subst hlvE
   refine nxC ⟨fun _ => hK, ?_⟩
   refine k_pure 18 S rfl (fun w => y_build (ps := [(0, .tmp 31), (1, .tmp 33), (2, .tmp 35), (3, .tmp 37), (4, .tmp 40), (5, .tmp 47)]) (pl := [(0, 1), (1, 1), (2, 1), (3, 1), (4, 1), (5, 1)]) (z := [.int .i64 0, .int .i64 0, .int .i64 0, .int .i64 0, .int .u32 0, .slice none 0 0]) (cs := [_, _, _, _, _, _]) S (by kernel_rfl) rfl (rfl)) ?_; intro a S
   refine k_one 20 rfl (by kernel_rfl) ?_
   refine qS (sz := 6) (us := [_, _, _, _, _, _]) S M 1 ?_; intro w32 M
   refine nxC ⟨fun h => absurd h (by decide), ?_⟩
   refine k_end (by kernel_rfl) ?_
   replace S := S.keep [0, 2, 3, 13, 4, 5, 21, 6, 26, 7, 8]
   refine then_normal ?_
   replace M := M.ord [3, 1, 2] (by simp only [ordO, oG, oS, oE, oZ, oB] <;> rfl)
   replace M := M.sub (H' := _ :: _ :: [_]) (List.Sublist.cons_cons _ (List.Sublist.cons_cons _ (List.Sublist.cons_cons _ (List.nil_sublist _))))
   exact ⟨_, _, _, _, S.sub _ rfl, M⟩
 intro a wc
 rintro ⟨lvv, b8, lo, hi, S, M⟩
 obtain ⟨adV, cpV, hE, -, -⟩ := (M.readRow 1 rfl (by unfold maxLen; omega)).form
 subst hE
 refine nxD (qY S (qL6 S M 0) ?_); intro a S
 have hlv := (M.readRow 1 rfl (by unfold maxLen; omega)).wide (Nat.zero_le _) (M.fits _ (List.mem_of_getElem? (show _[1]? = _ from rfl))).2
 refine qC (xs := [.tmp 50]) S (qE Tryz.func364) rfl (bytes_any (frIn X) _ (ldIn X) _ hlv) ?_
 rintro _ w33 ⟨v9, rfl, hK, hF3, hN3⟩; refine ⟨_, rfl, ?_⟩; intro a S
 obtain ⟨lo9, hi9, -, M⟩ := M.pushFresh (fresh_if (p := (frIn X).may (ldIn X).length = true) hK hF3 (fun h => hN3 (by simpa using h)))
 refine qG [1, 1, 1, 1, 1] S ?_; intro a S
 refine nxC (wp_seq (nxD (qG [1, 1, 1] S ?_))); intro a S
 refine qi 56 S ?_ ?_
 ·intro h56 S
  refine qG [0, 0] S ?_; intro a S
  refine st_no S rfl rfl rfl ?_; intro a S
  refine qG [0, 1] S ?_; intro a S
  refine nxC (cT S (nxD ?_))
  have hno : readF bs = none := by
   unfold readF; rw [if_neg]; rw [hX]; rintro ⟨_, _, _, h4, h5⟩
   first
    | (rw [h4] at h56; simp at h56; done)
    | (rw [h5] at h61; simp at h61)
  refine qY S (y_build (ps := []) (pl := [(0, 1), (1, 1), (2, 1), (3, 1), (4, 1), (5, 1)]) (z := [.int .i64 0, .int .i64 0, .int .i64 0, .int .i64 0, .int .u32 0, .slice none 0 0]) (cs := [_, _, _, _, _, _]) S (by kernel_rfl) rfl (rfl)) ?_; intro a S
  refine qS (sz := 6) (us := [_, _, _, _, _, _]) S M 3 ?_; intro w34 M
  refine qG [1] S ?_; intro a S
  refine nxC (wp_ret (then_ret (end_two S rfl (res_agg (cs := [_, _, _, _, _, _]) (by kernel_rfl) rfl rfl (M.cellsAt (k := 6) 3 rfl rfl)) (res_tmp rfl) ?_)))
  exact readPost_no M hno
 intro h56 S
 refine qG [1, 1] S ?_; intro a S
 have hmay : (frIn X).may (ldIn X).length = true := by
  cases h : (frIn X).may (ldIn X).length
  ·rw [h] at h56; simp at h56
  ·rfl
 rw [ifL_pos hmay] at M
 refine qQ (xs := [.tmp 57, .tmp 58]) S (qE Tryz.func212) rfl (equal_any v9 v (bytesF (frIn X) (ldIn X)) bs _ ((M.readRow 0 rfl (by rw [bytesF_length hmay]; unfold maxLen; omega)).wide (Nat.zero_le _) (M.fits _ (List.mem_of_getElem? (show _[0]? = _ from rfl))).2) (M.argW hv)) M ?_; intro a w35 S hK M
 refine qG [1, 1] S ?_; intro a S
 refine nxC (st_split (t := 61) S rfl ?_ ?_)
 ·intro h61 S
  refine cT S (nxD ?_)
  have hno : readF bs = none := by
   unfold readF; rw [if_neg]; rw [hX]; rintro ⟨_, _, _, h4, h5⟩
   first
    | (rw [h4] at h56; simp at h56; done)
    | (rw [h5] at h61; simp at h61)
  refine qY S (y_build (ps := []) (pl := [(0, 1), (1, 1), (2, 1), (3, 1), (4, 1), (5, 1)]) (z := [.int .i64 0, .int .i64 0, .int .i64 0, .int .i64 0, .int .u32 0, .slice none 0 0]) (cs := [_, _, _, _, _, _]) S (by kernel_rfl) rfl (rfl)) ?_; intro a S
  refine qS (sz := 6) (us := [_, _, _, _, _, _]) S M 3 ?_; intro w36 M
  refine qG [1] S ?_; intro a S
  refine nxC (wp_ret (then_ret (end_two S rfl (res_agg (cs := [_, _, _, _, _, _]) (by kernel_rfl) rfl rfl (M.cellsAt (k := 6) 3 rfl rfl)) (res_tmp rfl) ?_)))
  exact readPost_no M hno
 intro h61 S
 refine cF S (wp_skip (nxE ?_))
 have hyes : readF bs = some (frIn X, ldIn X) := by
  unfold readF; rw [hX, if_pos]
  exact ⟨h64, hok, h26, hmay, by simpa using h61⟩
 replace M := M.drp 0
 refine qY S (qL6 S M 0) ?_; intro a S
 refine qS (sz := 6) (us := [_, _, _, _, _, _]) S M 2 ?_; intro w37 M
 refine qG [1] S ?_; intro a S
 refine nxC (wp_ret (end_two S rfl (res_agg (cs := [_, _, _, _, _, _]) (by kernel_rfl) rfl rfl (M.cellsAt (k := 6) 2 rfl rfl)) (res_tmp rfl) ?_))
 exact ⟨frIn X, _, 0, rfl, M.below, (fun g ld' h => by
  rw [hyes] at h
  obtain ⟨rfl, rfl⟩ := Prod.mk.inj (Option.some.inj h)
  exact ⟨rfl, rfl, M.fresh 1 rfl⟩), fun h => by rw [hyes] at h; cases h⟩
end Go.Proofs.YtdcgcgifgnaccaaGreat

namespace Go.Proofs.YtdcgcgifgnaccaaGreat
open Go.RowKit Go.Sort
theorem leB_succ (n : Int) (k : Nat) : leB n (k + 1) = leB n k ++ [byteOf (n / 256 ^ k)] := by
 unfold leB; rw [List.range_succ, List.map_append]; rfl
theorem five5 (f : Fr) (l : Nat) : five f l 5 = leB f.seq 6 ++ leB f.inc 3 ++ [byteOf (16 * f.part + f.of), byteOf (l : Int)] ++ leB (f.mark.toNat : Int) 4 := by
 have e : ∀ n, leB n 1 = [byteOf n] := fun n => by simp [leB]
 simp [five, fiveN, e]
theorem getN_take {X : List UInt8} {i k : Nat} (hk : 1 ≤ k ∧ k ≤ 6) (h : i + k ≤ X.length) : getN X (i : Int) (k : Int) = (leN ((X.drop i).take k) : Int) := by
 unfold getN; rw [if_pos (by omega)]; rfl
def wk0 : List UInt8 := List.replicate 85 0
def wkF : List (Fr × List UInt8) := [(⟨7, 1, 0, 2, sumT wk0⟩, List.replicate 45 0), (⟨8, 1, 1, 2, sumT wk0⟩, List.replicate 40 0)]
noncomputable def rdF (bs : List UInt8) : Fr := match readF bs with | some x => x.1 | none => zeroFr
noncomputable def rdL (bs : List UInt8) : List UInt8 := match readF bs with | some x => x.2 | none => []
noncomputable def rdE (bs : List UInt8) : Int := match readF bs with | some _ => 0 | none => 40
theorem ldIn_le (x : List UInt8) : (ldIn x).length ≤ 255 := by
 have := getN_bd1 x 10; have := getN_bd x 10 1 (by omega)
 simp only [ldIn, List.length_take]; omega
theorem rdL_le (bs : List UInt8) : (rdL bs).length ≤ 255 := by
 unfold rdL readF
 split
 ·rename_i x h
  split at h
  ·cases h; exact ldIn_le _
  ·cases h
 ·exact Nat.zero_le _
theorem read_uni {bs : List UInt8} {w0 w w' : World} {H : List Ent} {e : Ending} (M : Mem w0 w H) (h : ReadPost bs w e w') :
 ∃ (ad : Option Addr) (cap lo hi : Nat), e = .returned (.tuple #[.agg ((rdF bs).cells (.slice ad (rdL bs).length cap)).toArray, .int .i64 (rdE bs)]) ∧ Below w.heap.size w w' ∧ Mem w0 w' (rowE lo hi 5 1 (.slice ad (rdL bs).length cap) (rdL bs).length (bcells (rdL bs)) :: H) := by
 obtain ⟨f, lv, E, rfl, hb, h1, h2⟩ := h
 have hle := rdL_le bs
 unfold rdL rdF rdE at *
 cases hR : readF bs with
 | none =>
   rw [hR] at hle
   obtain ⟨rfl, rfl, rfl⟩ := h2 hR
   exact ⟨none, 0, _, _, rfl, hb, (M.grow hb).rowNil 5 1⟩
 | some x =>
   rw [hR] at hle
   replace hle : x.2.length ≤ 255 := hle
   obtain ⟨rfl, rfl, hF⟩ := h1 x.1 x.2 hR
   obtain ⟨lo, hi, -, M⟩ := M.pushFresh hF
   obtain ⟨ad, cap, rfl, -, -⟩ := (hF.rd (by unfold maxLen; omega)).form
   exact ⟨ad, cap, lo, hi, rfl, hb, M⟩
theorem cutR_get {bs : List UInt8} {seq inc : Int} (h : cutOk bs seq inc) {i : Nat} (hi : i < nOf bs.length) : (cutR bs seq inc)[i]? = some (frOf bs seq inc i) := by
 unfold cutR; rw [if_pos h]; simp [cutF, hi]
theorem cutR_length {bs : List UInt8} {seq inc : Int} (h : cutOk bs seq inc) : (cutR bs seq inc).length = nOf bs.length := by
 unfold cutR; rw [if_pos h]; simp [cutF]
theorem frOf_may {bs : List UInt8} {seq inc : Int} (h : cutOk bs seq inc) {i : Nat} (hi : i < nOf bs.length) : (frOf bs seq inc i).1.may (frOf bs seq inc i).2.length = true := by
 obtain ⟨h1, h2, h3, h4, h5⟩ := h
 unfold nOf at *
 have h0 : 0 < bs.length := List.length_pos_iff.2 h1
 simp only [Fr.may, frOf, decide_eq_true_eq, List.length_take, List.length_drop, nOf]
 omega
theorem byteOf_nat {n : Nat} : (byteOf (n : Int)).toNat = n % 256 := by
 unfold byteOf; rw [UInt8.toNat_ofNat']; omega
theorem leN_leB (n : Nat) : ∀ k, leN (leB (n : Int) k) = n % 256 ^ k
 | 0 => by simp [leB, leN, Nat.mod_one]
 | k + 1 => by
   rw [leB_succ, leN_append, leN_leB n k, leB_length, show ((n : Int) / 256 ^ k) = ((n / 256 ^ k : Nat) : Int) by simp]
   show n % 256 ^ k + 256 ^ k * ((byteOf _).toNat + 256 * 0) = _
   rw [byteOf_nat, Nat.mul_zero, Nat.add_zero, Nat.pow_succ, Nat.mod_mul]
theorem leN_leB' {n : Int} {k : Nat} (h0 : 0 ≤ n) (h1 : n < 256 ^ k) : (leN (leB n k) : Int) = n := by
 obtain ⟨m, rfl⟩ := Int.eq_ofNat_of_zero_le h0
 rw [leN_leB, Nat.mod_eq_of_lt (Int.ofNat_lt.1 (by rw [Int.natCast_pow]; exact h1))]
theorem mid {α : Type} (A B C : List α) {i n : Nat} (hi : A.length = i) (hn : B.length = n) : ((A ++ B ++ C).drop i).take n = B := by
 subst hi hn; simp
theorem getN_mid {A B C X : List UInt8} {i n : Nat} (hX : X = A ++ B ++ C) (hi : A.length = i) (hn : B.length = n) (h : 1 ≤ n ∧ n ≤ 6) : getN X (i : Int) (n : Int) = (leN B : Int) := by
 subst hX
 rw [getN_take h (by simp; omega), mid A B C hi hn]
theorem read_bytes {f : Fr} {ld : List UInt8} (h : f.may ld.length = true) : readF (bytesF f ld) = some (f, ld) := by
 have hm := h
 simp only [Fr.may, decide_eq_true_eq] at hm
 have hmk := f.mark.isLt
 have h60 : (five f ld.length 5 ++ padL ld).length = 60 := by rw [List.length_append, padL_length (by omega), five5_length]
 have hX : (bytesF f ld).take 60 = five f ld.length 5 ++ padL ld := by
  unfold bytesF sealB; rw [← h60, List.take_left]
 have h64 := bytesF_length h
 have hok : openOk (bytesF f ld) := ⟨_, rfl⟩
 have E := five5 f ld.length
 generalize hx : five f ld.length 5 ++ padL ld = X at *
 rw [E] at hx
 have g0 : getN X 0 6 = f.seq := by
  rw [show getN X 0 6 = _ from getN_mid (A := []) (B := leB f.seq 6) (C := leB f.inc 3 ++ [byteOf (16 * f.part + f.of), byteOf (ld.length : Int)] ++ leB (f.mark.toNat : Int) 4 ++ padL ld) (i := 0) (n := 6) (by rw [← hx]; simp) rfl (leB_length _ _) (by omega)]
  exact leN_leB' (by omega) (by omega)
 have g6 : getN X 6 3 = f.inc := by
  rw [show getN X 6 3 = _ from getN_mid (A := leB f.seq 6) (B := leB f.inc 3) (C := [byteOf (16 * f.part + f.of), byteOf (ld.length : Int)] ++ leB (f.mark.toNat : Int) 4 ++ padL ld) (i := 6) (n := 3) (by rw [← hx]; simp) (leB_length _ _) (leB_length _ _) (by omega)]
  exact leN_leB' (by omega) (by omega)
 have b1 : ∀ z : Int, 0 ≤ z → z < 256 → ((leN [byteOf z] : Nat) : Int) = z := fun z h0 h1 => by
  obtain ⟨m, rfl⟩ := Int.eq_ofNat_of_zero_le h0
  show (((byteOf (m : Int)).toNat + 256 * 0 : Nat) : Int) = _
  rw [byteOf_nat]; omega
 have g9 : getN X 9 1 = 16 * f.part + f.of := by
  rw [show getN X 9 1 = _ from getN_mid (A := leB f.seq 6 ++ leB f.inc 3) (B := [byteOf (16 * f.part + f.of)]) (C := [byteOf (ld.length : Int)] ++ leB (f.mark.toNat : Int) 4 ++ padL ld) (i := 9) (n := 1) (by rw [← hx]; simp) (by simp [leB_length]) rfl (by omega)]
  exact b1 _ (by omega) (by omega)
 have g10 : getN X 10 1 = (ld.length : Int) := by
  rw [show getN X 10 1 = _ from getN_mid (A := leB f.seq 6 ++ leB f.inc 3 ++ [byteOf (16 * f.part + f.of)]) (B := [byteOf (ld.length : Int)]) (C := leB (f.mark.toNat : Int) 4 ++ padL ld) (i := 10) (n := 1) (by rw [← hx]; simp) (by simp [leB_length]) rfl (by omega)]
  exact b1 _ (by omega) (by omega)
 have g11 : getN X 11 4 = (f.mark.toNat : Int) := by
  rw [show getN X 11 4 = _ from getN_mid (A := leB f.seq 6 ++ leB f.inc 3 ++ [byteOf (16 * f.part + f.of), byteOf (ld.length : Int)]) (B := leB (f.mark.toNat : Int) 4) (C := padL ld) (i := 11) (n := 4) (by rw [← hx]) (by simp [leB_length]) (leB_length _ _) (by omega)]
  exact leN_leB' (by omega) (by omega)
 have hf : frIn X = f := by
  unfold frIn
  rw [g0, g6, g9, g11, show (16 * f.part + f.of) / 16 = f.part by omega, show (16 * f.part + f.of) % 16 = f.of by omega, BitVec.ofInt_natCast, ofNat_toNat32]
 have hl : ldIn X = ld := by
  unfold ldIn
  rw [g10, Int.toNat_natCast, ← hx]
  have := mid (leB f.seq 6 ++ leB f.inc 3 ++ [byteOf (16 * f.part + f.of), byteOf (ld.length : Int)] ++ leB (f.mark.toNat : Int) 4) ld (List.replicate (45 - ld.length) 0) (i := 15) (n := ld.length) (by simp [leB_length]) rfl
  rw [List.append_assoc] at this
  exact this
 unfold readF
 rw [hX, hf, hl, if_pos ⟨h64, hok, by omega, h, rfl⟩]
theorem readF_spec {bs : List UInt8} {f : Fr} {ld : List UInt8} (h : readF bs = some (f, ld)) : f.may ld.length = true ∧ bytesF f ld = bs := by
 unfold readF at h
 split at h
 ·rename_i hc
  obtain ⟨rfl, rfl⟩ := Prod.mk.inj (Option.some.inj h)
  exact ⟨hc.2.2.2.1, hc.2.2.2.2⟩
 ·cases h
theorem outF_cut (bs : List UInt8) (seq inc : Int) : ∀ k, outF ((List.range k).map (frOf bs seq inc)) = bs.take (k * 45)
 | 0 => by simp [outF]
 | k + 1 => by
   rw [List.range_succ, List.map_append, show ∀ x y, outF (x ++ y) = outF x ++ outF y from fun x y => by simp [outF], outF_cut bs seq inc k, Nat.add_mul, Nat.one_mul, List.take_add]
   simp [outF, frOf]
theorem join_cut {bs : List UInt8} {seq inc : Int} (h : cutOk bs seq inc) : joinOk (cutR bs seq inc) ∧ outF (cutR bs seq inc) = bs := by
 have hn2 : nOf bs.length ≤ 2 := by obtain ⟨_, _, _, h4, _⟩ := h; unfold nOf; omega
 have hn0 : 0 < nOf bs.length := by have := List.length_pos_iff.2 h.1; unfold nOf; omega
 have hR : cutR bs seq inc = cutF bs seq inc := by unfold cutR; rw [if_pos h]
 have ho : outF (cutR bs seq inc) = bs := by
  rw [hR]; unfold cutF; rw [outF_cut]; exact List.take_of_length_le (by unfold nOf; omega)
 refine ⟨?_, ho⟩
 have h0 := cutR_get h hn0
 have hlen := cutR_length h
 refine ⟨(frOf bs seq inc 0).1, (frOf bs seq inc 0).2, (cutR bs seq inc).tail, ?_, by omega, fun x hx => ?_, ?_, ?_⟩
 ·have hh : (cutR bs seq inc).head? = some (frOf bs seq inc 0) := by rw [List.head?_eq_getElem?]; exact h0
  cases hc : cutR bs seq inc with
  | nil => rw [hc] at hh; cases hh
  | cons x t => rw [hc] at hh; cases hh; rfl
 ·obtain ⟨i, hi⟩ := List.getElem?_of_mem hx
  have hlt : i < nOf bs.length := by rw [← hlen]; exact (List.getElem?_eq_some_iff.1 hi).1
  rw [cutR_get h hlt] at hi
  cases hi
  exact frOf_may h hlt
 ·rw [ho]; show cutOk bs (seq + (0 : Nat)) inc; rw [Int.natCast_zero, Int.add_zero]; exact h
 ·rw [ho, hR]; show cutF bs (seq + (0 : Nat)) inc = _; rw [Int.natCast_zero, Int.add_zero]
end Go.Proofs.YtdcgcgifgnaccaaGreat
namespace Go.Proofs.YtdcgcgifgnaccaaGreat
open Go.RowKit Go.Sort
abbrev FrB := Fr × List UInt8
structure Sc where
 seq : Int
 inc : Int
 begun : List FrB
 l : List (Int × List UInt8)
 next : Int
def goodP (s : Sc) (f : Fr) : Bool := f.seq == s.seq && !decide (f.inc < s.inc) && (match s.begun with
 | [] => f.part == 0
 | g :: _ => f.part == (s.begun.length : Int) && f.of == g.1.of && f.mark == g.1.mark && f.inc == g.1.inc)
open Classical in
noncomputable def takeP (s : Sc) (x : FrB) : Sc × Bool :=
 if ((s.begun ++ [x]).length : Int) < x.1.of then (⟨s.seq + 1, x.1.inc, s.begun ++ [x], s.l, s.next⟩, true)
 else if joinOk (s.begun ++ [x]) then (⟨s.seq + 1, x.1.inc, [], s.l ++ [((s.begun ++ [x]).head?.elim 0 (·.1.seq), outF (s.begun ++ [x]))], s.seq + 1⟩, true)
 else (⟨s.seq + 1, x.1.inc, s.begun ++ [x], s.l, s.next⟩, false)
noncomputable def stepP (s : Sc) (bs : List UInt8) : Sc × Bool := match readF bs with
 | none => (s, false)
 | some x => if goodP s x.1 = true then takeP s x else (s, false)
noncomputable def scanP (s : Sc) : List (List UInt8) → Sc
 | [] => s
 | x :: t => if (stepP s x).2 = true then scanP (stepP s x).1 t else (stepP s x).1
abbrev FrM := Fr × RB
abbrev FrM.pl (p : FrM) : FrB := (p.1, p.2.bs)
abbrev FrM.cellsL (p : FrM) : List Value := p.1.cells p.2.val
def frC (fs : List FrM) : List Value := fs.flatMap FrM.cellsL
abbrev FdM := Int × RB
abbrev FdM.pl (p : FdM) : Int × List UInt8 := (p.1, p.2.bs)
abbrev FdM.cellsL (p : FdM) : List Value := [.int .i64 p.1, p.2.val]
def fdC (ls : List FdM) : List Value := ls.flatMap FdM.cellsL
theorem frC_length : ∀ fs, (frC fs).length = fs.length * 6
 | [] => rfl
 | x :: l => by
   show (x.cellsL ++ frC l).length = _
   rw [List.length_append, frC_length l]; simp; omega
theorem fdC_length : ∀ fs, (fdC fs).length = fs.length * 2
 | [] => rfl
 | x :: l => by
   show (x.cellsL ++ fdC l).length = _
   rw [List.length_append, fdC_length l]; simp; omega
theorem frC_get {l : List FrM} {i : Nat} {x : FrM} (hx : l[i]? = some x) : ((frC l).drop (i * 6)).take 6 = x.cellsL := by
 obtain ⟨hlt, he⟩ := List.getElem?_eq_some_iff.1 hx
 have e : frC l = frC (l.take i) ++ (x.cellsL ++ frC (l.drop (i + 1))) := by
  conv => lhs; rw [← List.take_append_drop i l, List.drop_eq_getElem_cons hlt, he]
  simp [frC]
 rw [e, show i * 6 = (frC (l.take i)).length by rw [frC_length, List.length_take]; omega, List.drop_left]
 rfl
theorem fdC_get {l : List FdM} {i : Nat} {x : FdM} (hx : l[i]? = some x) : ((fdC l).drop (i * 2)).take 2 = x.cellsL := by
 obtain ⟨hlt, he⟩ := List.getElem?_eq_some_iff.1 hx
 have e : fdC l = fdC (l.take i) ++ (x.cellsL ++ fdC (l.drop (i + 1))) := by
  conv => lhs; rw [← List.take_append_drop i l, List.drop_eq_getElem_cons hlt, he]
  simp [fdC]
 rw [e, show i * 2 = (fdC (l.take i)).length by rw [fdC_length, List.length_take]; omega, List.drop_left]
 rfl
structure ScM where
 fs : List FrM
 ls : List FdM
 ba : Option Addr
 bc : Nat
 la : Option Addr
 lc : Nat
 lo : Nat
 hi : Nat
 lo2 : Nat
 hi2 : Nat
abbrev ScM.bv (m : ScM) : Value := .slice m.ba m.fs.length m.bc
abbrev ScM.lv (m : ScM) : Value := .slice m.la m.ls.length m.lc
abbrev scC (s : Sc) (m : ScM) : List Value := [.int .i64 s.seq, .int .i64 s.inc, m.bv, m.lv, .int .i64 s.next]
def ScM.rows (m : ScM) : List Ent := m.fs.map (fun p => p.2.ent) ++ m.ls.map (fun p => p.2.ent)
def ScM.ents (b : Nat) (s : Sc) (m : ScM) : List Ent := .blk b (scC s m).toArray 354 :: rowE m.lo m.hi 453 6 m.bv m.fs.length (frC m.fs) :: rowE m.lo2 m.hi2 358 2 m.lv m.ls.length (fdC m.ls) :: m.rows
structure ScM.Ok (s : Sc) (m : ScM) : Prop where
 begun : s.begun = m.fs.map FrM.pl
 l : s.l = m.ls.map FdM.pl
 may : ∀ p ∈ m.fs, p.1.may p.2.bs.length = true
 short : ∀ p ∈ m.ls, p.2.bs.length ≤ 90
def ScE (b : Nat) (s : Sc) (E : List Ent) : Prop := ∃ m : ScM, m.Ok s ∧ E = m.ents b s
theorem Mem.readIn {w0 w : World} {H : List Ent} {lo hi e sz m : Nat} {x : Value} {xs : List Value} (M : Mem w0 w H) (h : rowE lo hi e sz x m xs ∈ H) (hm : m ≤ maxLen) : Rd 0 w.heap.size w sz x m xs := by
 obtain ⟨p, hp⟩ := List.getElem?_of_mem h
 exact M.readAll p hp hm
theorem frs_of {w0 w : World} {H : List Ent} {lo hi : Nat} {fs : List FrM} {v : Value} (M : Mem w0 w H) (h : rowE lo hi 453 6 v fs.length (frC fs) ∈ H) (hl : fs.length ≤ 1000) (he : ∀ p ∈ fs, p.2.ent ∈ H) (hm : ∀ p ∈ fs, p.1.may p.2.bs.length = true) :
 FrsC (frC fs) 0 w.heap.size w v (fs.map FrM.pl) := by
 refine ⟨by rw [List.length_map]; exact M.readIn h (by unfold maxLen; omega), fun i f bs hi => ?_⟩
 rw [List.getElem?_map] at hi
 cases hx : fs[i]? with
 | none => rw [hx] at hi; cases hi
 | some p =>
   rw [hx] at hi
   obtain ⟨rfl, rfl⟩ := Prod.mk.inj (Option.some.inj hi)
   have hp := List.mem_of_getElem? hx
   have := hm p hp
   simp only [Fr.may, decide_eq_true_eq] at this
   exact ⟨p.2.val, frC_get hx, M.readB (he p hp) (by omega)⟩
theorem Mem.backA {w0 w : World} {X A : List Ent} (M : Mem w0 w (X ++ A)) : Mem w0 w (A ++ X) := M.perm List.perm_append_comm
set_option maxHeartbeats 1000000 in
theorem good_any {wc w : World} {A E : List Ent} {b : Nat} {s : Sc} (f : Fr) (ad : Option Addr) (l c : Nat) (hE : ScE b s E) (M : Mem wc w (A ++ E)) (hb : s.begun.length ≤ 1000) :
 Calls Tryz.prog 279 #[.pointer (some ⟨b, 0, none⟩), .agg (f.cells (.slice ad l c)).toArray] w fun e w' => e = .returned (.bool (goodP s f)) ∧ Mem wc w' (A ++ E) := by
 obtain ⟨m, O, rfl⟩ := hE
 replace M : Mem wc w (.blk b (scC s m).toArray 354 :: rowE m.lo m.hi 453 6 m.bv m.fs.length (frC m.fs) :: rowE m.lo2 m.hi2 358 2 m.lv m.ls.length (fdC m.ls) :: (m.rows ++ A)) := M.perm List.perm_append_comm
 have hlen : s.begun.length = m.fs.length := by rw [O.begun, List.length_map]
 rw [hlen] at hb
 refine qI Tryz.func279 66 ?_; intro a S
 refine wp_seq ?_
 skip
 refine wp_region_lit (st_box S M rfl rfl rfl #[_, _, _, _, _, _] rfl ?_); intro a w1 bF S M hB
 refine qG [1] S ?_; intro a S
 refine nxC (wp_seq (wp_seq (wp_quiet M (by kernel_rfl) (by kernel_rfl) ?_)))
 refine qU S (fun w M => y_fieldAddr (k := 0) S (by kernel_rfl) rfl) ?_; intro a S
 refine qU S (fun w M => qV S M 0) ?_; intro a S
 refine qU S (fun w M => y_move S rfl) ?_; intro a S
 refine qU S (fun w M => y_nilCheck S rfl) ?_; intro a S
 refine qU S (fun w M => y_fieldAddr (k := 0) S (by kernel_rfl) rfl) ?_; intro a S
 refine qU S (fun w M => qV S M 1) ?_; intro a S
 refine qU S (fun w M => y_int S rfl rfl rfl) ?_; intro a S
 refine qU S (fun w M => y_move S rfl) ?_; intro a S
 refine qi 13 S ?_ ?_
 ·intro h13 S
  refine qt_skip 7 S rfl ?_; intro a S
  refine qU S (fun w M => y_pickT S rfl rfl) ?_; intro a S
  refine wpQuiet_nil ?_; intro w2 M
  refine then_normal (cT S (nxD (qG [1] S ?_))); intro a S
  refine nxC (wp_ret (then_ret (qO S ?_)))
  refine ⟨ret_bool ?_, Mem.backA (X := m.ents b s) (M.drop 0)⟩; clear S M; unfold goodP
  by_cases h1 : f.seq = s.seq
  ·have h2 : f.inc < s.inc := by omega
   simp [h2]
  ·simp [h1]
 intro h13 S
 refine qU S (fun w M => y_fieldAddr (k := 1) S (by kernel_rfl) rfl) ?_; intro a S
 refine qU S (fun w M => qV S M 0) ?_; intro a S
 refine qU S (fun w M => y_move S rfl) ?_; intro a S
 refine qU S (fun w M => y_nilCheck S rfl) ?_; intro a S
 refine qU S (fun w M => y_fieldAddr (k := 1) S (by kernel_rfl) rfl) ?_; intro a S
 refine qU S (fun w M => qV S M 1) ?_; intro a S
 refine qU S (fun w M => y_int S rfl rfl rfl) ?_; intro a S
 refine qU S (fun w M => y_pickF S rfl rfl) ?_; intro a S
 refine wpQuiet_nil ?_; intro w3 M
 replace S := S.keep [0, 1, 3, 4, 21]
 refine then_normal (qi 21 S ?_ ?_)
 ·intro h21 S
  refine cT S (nxD (qG [1] S ?_)); intro a S
  refine nxC (wp_ret (then_ret (qO S ?_)))
  refine ⟨ret_bool ?_, Mem.backA (X := m.ents b s) (M.drop 0)⟩; clear S M; unfold goodP
  by_cases h1 : f.seq = s.seq
  ·have h2 : f.inc < s.inc := by omega
   simp [h2]
  ·simp [h1]
 intro h21 S
 refine cF S (wp_skip (then_normal (wp_seq (nxD (qR [1, 1, 3, 2] S M ?_))))); intro a S
 refine qY S (qH 453 S) ?_; intro a S
 refine qG [1] S ?_; intro a S
 refine nxC (qi 27 S ?_ ?_)
 ·intro h27 S
  refine cT S (nxD (qR [3, 1, 1, 1] S M ?_)); intro a S
  refine nxC (wp_ret (then_ret (qO S ?_)))
  refine ⟨ret_bool ?_, Mem.backA (X := m.ents b s) (M.drop 0)⟩; clear S M
  have hnil : s.begun = [] := List.eq_nil_of_length_eq_zero (by omega)
  unfold goodP
  simp only [hnil]
  have h1 : f.seq = s.seq := by omega
  have h2 : ¬ f.inc < s.inc := by omega
  simp [h1, h2]
 intro h27 S
 refine cF S (wp_skip (then_normal (wp_seq ?_)))
 obtain ⟨g, hg⟩ : ∃ g, m.fs[0]? = some g := ⟨_, List.getElem?_eq_getElem (by omega)⟩
 refine wp_region_lit (qR [1, 1, 3, 2] S M ?_); intro a S
 refine qY S (qX 453 6 S (M.readAll 2 rfl (by unfold maxLen; omega))) ?_; intro a S
 refine qY S (y_loadAgg S (by kernel_rfl) rfl rfl ((M.readAll 2 rfl (by unfold maxLen; omega)).at_.row (i := 0) (frC_get hg) rfl)) ?_; intro a S
 refine qN S M #[.int .i64 0, .int .i64 0, .int .i64 0, .int .i64 0, .int .u32 0, .slice none 0 0] ?_; intro a w4 bG S M hB
 refine qS (sz := 6) (us := [_, _, _, _, _, _]) S M 0 ?_; intro w5 M
 refine nxC (wp_seq (wp_quiet M (by kernel_rfl) (by kernel_rfl) ?_))
 refine qU S (fun w M => y_fieldAddr (k := 2) S (by kernel_rfl) rfl) ?_; intro a S
 refine qU S (fun w M => qV S M 1) ?_; intro a S
 refine qU S (fun w M => y_move S rfl) ?_; intro a S
 refine qU S (fun w M => y_nilCheck S rfl) ?_; intro a S
 refine qU S (fun w M => y_fieldAddr (k := 2) S (by kernel_rfl) rfl) ?_; intro a S
 refine qU S (fun w M => qV S M 2) ?_; intro a S
 refine qU S (fun w M => qH 453 S) ?_; intro a S
 refine qU S (fun w M => y_int S rfl rfl rfl) ?_; intro a S
 refine qU S (fun w M => y_move S rfl) ?_; intro a S
 refine qf 45 S ?_ ?_
 ·intro h45 S
  refine qt_skip 5 S rfl ?_; intro a S
  refine qU S (fun w M => y_pickF S rfl rfl) ?_; intro a S
  refine qU S (fun w M => y_move S rfl) ?_; intro a S
  refine qt_skip 5 S rfl ?_; intro a S
  refine qU S (fun w M => y_pickF S rfl rfl) ?_; intro a S
  refine qU S (fun w M => y_move S rfl) ?_; intro a S
  refine qt_skip 5 S rfl ?_; intro a S
  refine qU S (fun w M => y_pickF S rfl rfl) ?_; intro a S
  refine qU S (fun w M => y_assign S rfl) ?_; intro a S
  refine wpQuiet_nil ?_; intro w9 M
  replace S := S.keep [0, 1, 3, 21, 27, 5, 4]
  refine then_normal (wp_ret (qO S ?_))
  refine ⟨ret_bool ?_, Mem.backA (X := m.ents b s) ((M.drop 0).drop 0)⟩; clear S M
  have hcons : s.begun = g.pl :: (m.fs.drop 1).map FrM.pl := by
   rw [O.begun]
   cases hf : m.fs with
   | nil => rw [hf] at hg; cases hg
   | cons x t => rw [hf] at hg; cases hg; rfl
  have h1 : f.seq = s.seq := by omega
  have h2 : ¬ f.inc < s.inc := by omega
  unfold goodP
  rw [hlen]
  simp only [hcons]
  simp [h1, h2, *]
 intro h45 S
 refine qU S (fun w M => y_fieldAddr (k := 3) S (by kernel_rfl) rfl) ?_; intro a S
 refine qU S (fun w M => qV S M 1) ?_; intro a S
 refine qU S (fun w M => y_fieldAddr (k := 3) S (by kernel_rfl) rfl) ?_; intro a S
 refine qU S (fun w M => qV S M 0) ?_; intro a S
 refine qU S (fun w M => y_int S rfl rfl rfl) ?_; intro a S
 refine qU S (fun w M => y_pickT S rfl rfl) ?_; intro a S
 refine qU S (fun w M => y_move S rfl) ?_; intro a S
 refine qf 52 S ?_ ?_
 ·intro h52 S
  refine qt_skip 5 S rfl ?_; intro a S
  refine qU S (fun w M => y_pickF S rfl rfl) ?_; intro a S
  refine qU S (fun w M => y_move S rfl) ?_; intro a S
  refine qt_skip 5 S rfl ?_; intro a S
  refine qU S (fun w M => y_pickF S rfl rfl) ?_; intro a S
  refine qU S (fun w M => y_assign S rfl) ?_; intro a S
  refine wpQuiet_nil ?_; intro w8 M
  replace S := S.keep [0, 1, 3, 21, 27, 5, 4]
  refine then_normal (wp_ret (qO S ?_))
  refine ⟨ret_bool ?_, Mem.backA (X := m.ents b s) ((M.drop 0).drop 0)⟩; clear S M
  have hcons : s.begun = g.pl :: (m.fs.drop 1).map FrM.pl := by
   rw [O.begun]
   cases hf : m.fs with
   | nil => rw [hf] at hg; cases hg
   | cons x t => rw [hf] at hg; cases hg; rfl
  have h1 : f.seq = s.seq := by omega
  have h2 : ¬ f.inc < s.inc := by omega
  unfold goodP
  rw [hlen]
  simp only [hcons]
  simp [h1, h2, *]
 intro h52 S
 refine qU S (fun w M => y_fieldAddr (k := 4) S (by kernel_rfl) rfl) ?_; intro a S
 refine qU S (fun w M => qV S M 1) ?_; intro a S
 refine qU S (fun w M => y_fieldAddr (k := 4) S (by kernel_rfl) rfl) ?_; intro a S
 refine qU S (fun w M => qV S M 0) ?_; intro a S
 refine qU S (fun w M => y_eql32 S rfl rfl) ?_; intro a S
 refine qU S (fun w M => y_pickT S rfl rfl) ?_; intro a S
 refine qU S (fun w M => y_move S rfl) ?_; intro a S
 refine qf 59 S ?_ ?_
 ·intro h59 S
  refine qt_skip 5 S rfl ?_; intro a S
  refine qU S (fun w M => y_pickF S rfl rfl) ?_; intro a S
  refine qU S (fun w M => y_assign S rfl) ?_; intro a S
  refine wpQuiet_nil ?_; intro w7 M
  replace S := S.keep [0, 1, 3, 21, 27, 5, 4]
  refine then_normal (wp_ret (qO S ?_))
  refine ⟨ret_bool ?_, Mem.backA (X := m.ents b s) ((M.drop 0).drop 0)⟩; clear S M
  have hcons : s.begun = g.pl :: (m.fs.drop 1).map FrM.pl := by
   rw [O.begun]
   cases hf : m.fs with
   | nil => rw [hf] at hg; cases hg
   | cons x t => rw [hf] at hg; cases hg; rfl
  have h1 : f.seq = s.seq := by omega
  have h2 : ¬ f.inc < s.inc := by omega
  unfold goodP
  rw [hlen]
  simp only [hcons]
  simp [h1, h2, *]
 intro h59 S
 refine qU S (fun w M => y_fieldAddr (k := 1) S (by kernel_rfl) rfl) ?_; intro a S
 refine qU S (fun w M => qV S M 1) ?_; intro a S
 refine qU S (fun w M => y_fieldAddr (k := 1) S (by kernel_rfl) rfl) ?_; intro a S
 refine qU S (fun w M => qV S M 0) ?_; intro a S
 refine qU S (fun w M => y_int S rfl rfl rfl) ?_; intro a S
 refine qU S (fun w M => y_pickT S rfl rfl) ?_; intro a S
 refine qU S (fun w M => y_assign S rfl) ?_; intro a S
 refine wpQuiet_nil ?_; intro w6 M
 replace S := S.keep [0, 1, 3, 21, 27, 5, 4]
 refine then_normal (wp_ret (qO S ?_))
 refine ⟨ret_bool ?_, Mem.backA (X := m.ents b s) ((M.drop 0).drop 0)⟩; clear S M
 have hcons : s.begun = g.pl :: (m.fs.drop 1).map FrM.pl := by
  rw [O.begun]
  cases hf : m.fs with
  | nil => rw [hf] at hg; cases hg
  | cons x t => rw [hf] at hg; cases hg; rfl
 have h1 : f.seq = s.seq := by omega
 have h2 : ¬ f.inc < s.inc := by omega
 unfold goodP
 rw [hlen]
 simp only [hcons]
 simp [h1, h2, *]
end Go.Proofs.YtdcgcgifgnaccaaGreat

namespace Go.Proofs.YtdcgcgifgnaccaaGreat
open Go.RowKit Go.Sort
theorem frC_snoc (fs : List FrM) (x : FrM) : frC (fs ++ [x]) = frC fs ++ x.cellsL := by simp [frC]
theorem fdC_snoc (ls : List FdM) (x : FdM) : fdC (ls ++ [x]) = fdC ls ++ x.cellsL := by simp [fdC]
theorem perm_in {α : Type} (r : α) (X A : List α) : (r :: (X ++ A)).Perm ((X ++ [r]) ++ A) := by
 rw [List.append_assoc]; exact List.perm_middle.symm
set_option maxHeartbeats 2000000 in
theorem take_any {wc w : World} {A E : List Ent} {b : Nat} {s : Sc} (f : Fr) (r : RB) (hE : ScE b s E) (M : Mem wc w (r.ent :: (A ++ E))) (hb : s.begun.length ≤ 900) (hl : s.l.length ≤ 1000) (hs : -1099511627776 ≤ s.seq ∧ s.seq ≤ 1099511627776) (hm : f.may r.bs.length = true) :
 Calls Tryz.prog 280 #[.pointer (some ⟨b, 0, none⟩), .agg (f.cells r.val).toArray] w fun e w' => e = .returned (.bool (takeP s (f, r.bs)).2) ∧ ∃ E', ScE b (takeP s (f, r.bs)).1 E' ∧ Mem wc w' (A ++ E') := by
 obtain ⟨m, O, rfl⟩ := hE
 replace M : Mem wc w (.blk b (scC s m).toArray 354 :: rowE m.lo m.hi 453 6 m.bv m.fs.length (frC m.fs) :: rowE m.lo2 m.hi2 358 2 m.lv m.ls.length (fdC m.ls) :: (r.ent :: (m.rows ++ A))) := M.perm ((List.Perm.cons _ List.perm_append_comm).trans (List.perm_middle (l₁ := [_, _, _]) (l₂ := m.rows ++ A)).symm)
 have hlen : s.begun.length = m.fs.length := by rw [O.begun, List.length_map]
 have hlen2 : s.l.length = m.ls.length := by rw [O.l, List.length_map]
 rw [hlen] at hb
 rw [hlen2] at hl
 obtain ⟨fs2, hfs2⟩ : ∃ fs2, fs2 = m.fs ++ [(f, r)] := ⟨_, rfl⟩
 have hf2l : fs2.length = m.fs.length + 1 := by rw [hfs2, List.length_append]; rfl
 have hpl2 : fs2.map FrM.pl = s.begun ++ [(f, r.bs)] := by rw [hfs2, List.map_append, O.begun]; rfl
 have hmay2 : ∀ p ∈ fs2, p.1.may p.2.bs.length = true := fun p hp => by
  rw [hfs2] at hp
  rcases List.mem_append.1 hp with h | h
  ·exact O.may p h
  ·rw [List.mem_singleton.1 h]; exact hm
 have hin : ∀ p ∈ fs2, p.2.ent ∈ r.ent :: (m.rows ++ A) := fun p hp => by
  rw [hfs2] at hp
  rcases List.mem_append.1 hp with h | h
  ·exact .tail _ (List.mem_append_left _ (by unfold ScM.rows; exact List.mem_append_left _ (List.mem_map_of_mem h)))
  ·rw [List.mem_singleton.1 h]; exact .head _
 have hbig : ∀ x ∈ fs2.map FrM.pl, x.2.length ≤ 1000 := fun x hx => by
  obtain ⟨p, hp, rfl⟩ := List.mem_map.1 hx
  have := hmay2 p hp
  simp only [Fr.may, decide_eq_true_eq] at this
  show p.2.bs.length ≤ 1000
  omega
 have hsq : ∀ x ∈ fs2.map FrM.pl, -9223372036854775808 ≤ x.1.seq ∧ x.1.seq ≤ 9223372036854775807 := fun x hx => by
  obtain ⟨p, hp, rfl⟩ := List.mem_map.1 hx
  have := hmay2 p hp
  simp only [Fr.may, decide_eq_true_eq] at this
  show -9223372036854775808 ≤ p.1.seq ∧ p.1.seq ≤ 9223372036854775807
  omega
 have hlenT : ((s.begun ++ [((f, r.bs) : FrB)]).length : Int) = ((m.fs.length + 1 : Nat) : Int) := by rw [List.length_append, hlen]; rfl
 refine qI Tryz.func280 75 ?_; intro a S
 refine wp_seq ?_
 skip
 refine wp_region_lit (st_box S M rfl rfl rfl #[_, _, _, _, _, _] rfl ?_); intro a w1 bF S M hB
 refine qG [1] S ?_; intro a S
 refine nxA (qR [1, 1, 1, 2] S M ?_); intro a S
 refine qA S ?_; intro a S
 refine qG [1, 1] S ?_; intro a S
 refine qS (sz := 1) (us := [_]) S M 1 ?_; intro w2 M
 refine nxA (qR [1, 2, 1, 1, 2] S M ?_); intro a S
 refine qS (sz := 1) (us := [_]) S M 1 ?_; intro w3 M
 refine nxC (wp_seq (wp_regionK [7, 10] #[false, false, false, false, false, false, false, false, false, false, false] rfl M (by kernel_rfl) ?_)); intro w4 M
 refine kP 0 S ?_; intro a S
 refine kP 1 S ?_; intro a S
 refine kP 2 S ?_; intro a S
 refine kF 3 2 S ?_; intro a S
 refine kR 4 S rfl M (fun w M => qV S M 1) ?_; intro a S
 refine kR 5 S rfl M (fun w M => qL6 S M 0) ?_; intro a S
 refine k_one 6 rfl (by kernel_rfl) ?_
 refine st_lit (ps := [(0, .tmp 24)]) (e := 453) (sz := 6) (zl := [.int .i64 0, .int .i64 0, .int .i64 0, .int .i64 0, .int .u32 0, .slice none 0 0]) (cs := [_, _, _, _, _, _]) S M rfl rfl (by kernel_rfl) rfl (rfl) ?_; intro a w5 bZ S M hB
 refine nxC ⟨fun _ => hB, ?_⟩
 refine k_one 7 rfl (by kernel_rfl) ?_
 refine st_append (e := 453) (sz := 6) (by_ := 64) (zc := [.int .i64 0, .int .i64 0, .int .i64 0, .int .i64 0, .int .u32 0, .slice none 0 0]) S M 3 rfl rfl (by kernel_rfl) rfl (by decide) rfl rfl rfl (show Rd _ _ _ 6 _ 1 (f.cells r.val) from M.sliceAt 0 rfl (M.cellsAt (k := 6) 0 rfl rfl) rfl (Nat.le_refl _) (by unfold maxLen; omega)) (rfl) (by omega) (by unfold maxLen; omega) ?_; intro a w6 vA loA hiA S M
 refine nxC ⟨fun h => absurd h (by decide), ?_⟩
 refine kP 8 S ?_; intro a S
 refine kF 9 2 S ?_; intro a S
 refine k_one 10 rfl (by kernel_rfl) ?_
 obtain ⟨aA, cA, rfl, -, -⟩ := (M.readAll 0 rfl (by unfold maxLen; omega)).form
 refine qS (sz := 1) (us := [_]) S M 3 ?_; intro w7 M
 refine nxC ⟨fun h => absurd h (by decide), ?_⟩
 refine k_end (by kernel_rfl) ?_
 replace S := S.keep [0, 1, 3, 4]
 refine then_normal (wp_seq (wp_seq ?_))
 skip
 replace M := M.drp 1
 replace M := M.ord [3, 1, 3] (by simp only [ordO, oG, oS, oE, oZ, oB] <;> rfl)
 have hM2 : rowE loA hiA 453 6 (.slice aA (m.fs.length + 1) cA) (m.fs.length + 1) (frC m.fs ++ f.cells r.val) = rowE loA hiA 453 6 (.slice aA fs2.length cA) fs2.length (frC fs2) := by rw [hf2l, hfs2, frC_snoc]
 replace M : Mem wc w7 (.blk b #[.int .i64 (s.seq + 1), .int .i64 f.inc, .slice aA (m.fs.length + 1) cA, m.lv, .int .i64 s.next] 354 :: rowE loA hiA 453 6 (.slice aA (m.fs.length + 1) cA) (m.fs.length + 1) (frC m.fs ++ f.cells r.val) :: rowE m.lo2 m.hi2 358 2 m.lv m.ls.length (fdC m.ls) :: .blk bF (f.cells r.val).toArray 453 :: (r.ent :: (m.rows ++ A))) := M
 rw [hM2, ← hf2l] at M
 obtain ⟨m2, hm2⟩ : ∃ m2 : ScM, m2 = { m with fs := fs2, ba := aA, bc := cA, lo := loA, hi := hiA } := ⟨_, rfl⟩
 have hmid : ∀ {W : World} {X Y : Ent} {R : List Ent}, Mem wc W (X :: Y :: R ++ (r.ent :: (m.rows ++ A))) → Mem wc W ((X :: Y :: R) ++ (m2.rows ++ A)) := fun M => M.perm (List.Perm.append_left _ (by rw [hm2, hfs2]; unfold ScM.rows; simp only [List.map_append, List.map_cons, List.map_nil, List.append_assoc, List.cons_append, List.nil_append]; exact List.perm_middle.symm))
 refine wp_quiet M (by kernel_rfl) (by kernel_rfl) ?_
 refine qU S (fun w M => y_move S rfl) ?_; intro a S
 refine qU S (fun w M => y_nilCheck S rfl) ?_; intro a S
 refine qU S (fun w M => y_fieldAddr (k := 2) S (by kernel_rfl) rfl) ?_; intro a S
 refine qU S (fun w M => qV S M 0) ?_; intro a S
 refine qU S (fun w M => y_lenR (E := 453) S rfl (M.readAll 1 rfl (by unfold maxLen; omega)) (by kernel_rfl)) ?_; intro a S
 refine qU S (fun w M => y_fieldAddr (k := 3) S (by kernel_rfl) rfl) ?_; intro a S
 refine qU S (fun w M => qV S M 3) ?_; intro a S
 refine qU S (fun w M => y_int S rfl rfl rfl) ?_; intro a S
 refine wpQuiet_nil ?_; intro w8 M
 refine then_normal (qi 36 S ?_ ?_)
 ·intro h36 S
  refine cT S (nxD (qG [1] S ?_)); intro a S
  refine nxC (wp_ret (then_ret (qO S ?_)))
  have hlt : ((s.begun ++ [((f, r.bs) : FrB)]).length : Int) < f.of := by rw [hlenT]; omega
  unfold takeP
  rw [if_pos hlt]
  refine ⟨rfl, m2.ents b ⟨s.seq + 1, f.inc, s.begun ++ [(f, r.bs)], s.l, s.next⟩, ⟨m2, ⟨by rw [hm2]; exact hpl2.symm, by rw [hm2]; exact O.l, by rw [hm2]; exact hmay2, by rw [hm2]; exact O.short⟩, rfl⟩, ?_⟩
  replace M := M.drp 3
  refine Mem.backA ?_
  have M5 := hmid (R := [_]) M
  rw [hm2] at M5 ⊢
  exact M5
 intro h36 S
 refine cF S (wp_skip (then_normal (wp_seq ?_)))
 have hnl : ¬ ((s.begun ++ [((f, r.bs) : FrB)]).length : Int) < f.of := by rw [hlenT]; omega
 refine wp_region_lit (qR [1, 1, 3, 1] S M ?_); intro a S
 refine qC (xs := [.tmp 41]) S (qE Tryz.func360) rfl (join_any (.slice aA fs2.length cA) (frC fs2) (fs2.map FrM.pl) _ (frs_of M (.tail _ (.head _)) (by omega) (fun p hp => .tail _ (.tail _ (.tail _ (.tail _ (hin p hp))))) hmay2) hbig hsq) ?_
 rintro _ w9 ⟨vj, rfl, hK, hJ1, hJ2⟩; refine ⟨_, rfl, ?_⟩; intro a S
 rw [hpl2] at hJ1 hJ2 S
 refine qG [1, 1, 1, 1, 1] S ?_; intro a S
 replace S := S.keep [0, 1, 3, 4, 36, 5, 6]
 refine nxC (wp_seq (nxD (qG [1, 1] S ?_))); intro a S
 refine nxC (st_split (t := 46) S rfl ?_ ?_)
 ·intro h46 S
  refine cT S (nxD (qG [1] S ?_)); intro a S
  refine nxC (wp_ret (then_ret (qO S ?_)))
  have hnj : ¬ joinOk (s.begun ++ [((f, r.bs) : FrB)]) := fun h => by unfold joinE at h46; rw [if_pos h] at h46; simp at h46
  unfold takeP
  rw [if_neg hnl, if_neg hnj]
  replace M := M.grow hK
  refine ⟨rfl, m2.ents b ⟨s.seq + 1, f.inc, s.begun ++ [(f, r.bs)], s.l, s.next⟩, ⟨m2, ⟨by rw [hm2]; exact hpl2.symm, by rw [hm2]; exact O.l, by rw [hm2]; exact hmay2, by rw [hm2]; exact O.short⟩, rfl⟩, ?_⟩
  replace M := M.drp 3
  refine Mem.backA ?_
  have M5 := hmid (R := [_]) M
  rw [hm2] at M5 ⊢
  exact M5
 intro h46 S
 refine cF S (wp_skip (then_normal (wp_seq ?_)))
 have hjo : joinOk (s.begun ++ [((f, r.bs) : FrB)]) := by
  by_cases h : joinOk (s.begun ++ [((f, r.bs) : FrB)])
  ·exact h
  ·unfold joinE at h46; rw [if_neg h] at h46; simp at h46
 have ho90 : (outF (s.begun ++ [((f, r.bs) : FrB)])).length ≤ 90 := by obtain ⟨_, _, _, -, -, -, h, -⟩ := hjo; exact h.2.2.2.1
 obtain ⟨lj, hj, -, M2⟩ := M.pushFresh (hJ1 hjo); clear M; have M := M2; clear M2
 obtain ⟨ja, jc, rfl, -, -⟩ := ((hJ1 hjo).rd (by unfold maxLen; omega)).form
 obtain ⟨g, hg⟩ : ∃ g, fs2[0]? = some g := ⟨_, List.getElem?_eq_getElem (by omega)⟩
 refine wp_regionK [15, 18] #[false, false, false, false, false, false, false, false, false, false, false, false, false, false, false, false, false, false, false] rfl M (by kernel_rfl) ?_; intro w10 M
 refine kP 0 S ?_; intro a S
 refine kP 1 S ?_; intro a S
 refine kP 2 S ?_; intro a S
 refine kF 3 3 S ?_; intro a S
 refine kR 4 S rfl M (fun w M => qV S M 1) ?_; intro a S
 refine kP 5 S ?_; intro a S
 refine kP 6 S ?_; intro a S
 refine kF 7 2 S ?_; intro a S
 refine kR 8 S rfl M (fun w M => qV S M 1) ?_; intro a S
 refine kR 9 S rfl M (fun w M => qX 453 6 S (M.readAll 2 rfl (by unfold maxLen; omega))) ?_; intro a S
 refine kF 10 0 S ?_; intro a S
 refine kR 11 S rfl M (fun w M => y_load S (by kernel_rfl) rfl ((M.readAll 2 rfl (by unfold maxLen; omega)).at_.row (i := 0) (frC_get hg) rfl 0 (by show 0 < 6; omega))) ?_; intro a S
 refine kP 12 S ?_; intro a S
 refine k_pure 13 S rfl (fun w => y_build (ps := [(0, .tmp 58), (1, .tmp 59)]) (pl := [(0, 1), (1, 1)]) (z := [.int .i64 0, .slice none 0 0]) (cs := [_, _]) S (by kernel_rfl) rfl (rfl)) ?_; intro a S
 refine k_one 14 rfl (by kernel_rfl) ?_
 refine st_lit (ps := [(0, .tmp 60)]) (e := 358) (sz := 2) (zl := [.int .i64 0, .slice none 0 0]) (cs := [_, _]) S M rfl rfl (by kernel_rfl) rfl (rfl) ?_; intro a w11 bY S M hB
 refine nxC ⟨fun _ => hB, ?_⟩
 refine k_one 15 rfl (by kernel_rfl) ?_
 refine st_append (e := 358) (sz := 2) (by_ := 32) (zc := [.int .i64 0, .slice none 0 0]) S M 4 rfl rfl (by kernel_rfl) rfl (by decide) rfl rfl rfl (show Rd _ _ _ 2 _ 1 [Value.int .i64 g.1.seq, _] from M.sliceAt 0 rfl (M.cellsAt (k := 2) 0 rfl rfl) rfl (Nat.le_refl _) (by unfold maxLen; omega)) (rfl) (by omega) (by unfold maxLen; omega) ?_; intro a w12 vA loA hiA S M
 refine nxC ⟨fun h => absurd h (by decide), ?_⟩
 refine kP 16 S ?_; intro a S
 refine kF 17 3 S ?_; intro a S
 refine k_one 18 rfl (by kernel_rfl) ?_
 obtain ⟨aD, cD, rfl, -, -⟩ := (M.readAll 0 rfl (by unfold maxLen; omega)).form
 refine qS (sz := 1) (us := [_]) S M 3 ?_; intro w13 M
 refine nxC ⟨fun h => absurd h (by decide), ?_⟩
 refine k_end (by kernel_rfl) ?_
 replace S := S.keep [0, 1, 3, 4, 36, 5, 6, 46]
 refine nxE (qG [1, 1, 3] S ?_); intro a S
 refine qS (sz := 1) (us := [_]) S M 3 ?_; intro w14 M
 refine nxA (qR [1, 1, 1, 1, 4, 1, 5] S M ?_); intro a S
 refine qS (sz := 1) (us := [_]) S M 3 ?_; intro w15 M
 refine nxA (qG [1] S ?_); intro a S
 refine nxC (wp_ret (qO S ?_))
 have hnl2 := hnl
 replace M := M.drp 1
 replace M := M.drp 3
 replace M := M.drp 3
 replace M := M.ord [1, 1, 2] (by simp only [ordO, oG, oS, oE, oZ, oB] <;> rfl)
 have M3 := (M.rowNil 453 6).perm (List.Perm.swap _ _ _)
 clear M
 obtain ⟨r2, hr2⟩ : ∃ r2 : RB, r2 = ⟨lj, hj, ja, jc, outF (s.begun ++ [((f, r.bs) : FrB)])⟩ := ⟨_, rfl⟩
 obtain ⟨ls2, hls2⟩ : ∃ ls2, ls2 = m.ls ++ [(g.1.seq, r2)] := ⟨_, rfl⟩
 have hl2l : ls2.length = m.ls.length + 1 := by rw [hls2, List.length_append]; rfl
 unfold takeP
 rw [if_neg hnl, if_pos hjo]
 have hhd : (s.begun ++ [((f, r.bs) : FrB)]).head?.elim 0 (·.1.seq) = g.1.seq := by
  rw [← hpl2, List.head?_eq_getElem?, List.getElem?_map, hg]; rfl
 rw [hhd]
 obtain ⟨m3, hm3⟩ : ∃ m3 : ScM, m3 = ⟨[], ls2, none, 0, aD, cD, w15.heap.size, w15.heap.size, loA, hiA⟩ := ⟨_, rfl⟩
 refine ⟨rfl, m3.ents b ⟨s.seq + 1, f.inc, [], s.l ++ [(g.1.seq, outF (s.begun ++ [((f, r.bs) : FrB)]))], s.seq + 1⟩, ⟨m3, ⟨by rw [hm3]; rfl, ?_, ?_, ?_⟩, rfl⟩, ?_⟩
 ·rw [hm3]
  show _ = ls2.map FdM.pl
  rw [hls2, List.map_append, O.l, hr2]; rfl
 ·rw [hm3]; intro p hp; cases hp
 ·rw [hm3]
  intro p hp
  replace hp : p ∈ ls2 := hp
  rw [hls2] at hp
  rcases List.mem_append.1 hp with h | h
  ·exact O.short p h
  ·rw [List.mem_singleton.1 h, hr2]; exact ho90
 ·refine Mem.backA ?_
  have hr2e : r2.ent = rowE lj hj 5 1 (.slice ja (outF (s.begun ++ [((f, r.bs) : FrB)])).length jc) (outF (s.begun ++ [((f, r.bs) : FrB)])).length (bcells (outF (s.begun ++ [((f, r.bs) : FrB)]))) := by rw [hr2]; rfl
  have hrow : rowE loA hiA 358 2 (.slice aD (m.ls.length + 1) cD) (m.ls.length + 1) (fdC m.ls ++ [.int .i64 g.1.seq, r2.val]) = rowE loA hiA 358 2 (.slice aD ls2.length cD) ls2.length (fdC ls2) := by rw [hl2l, hls2, fdC_snoc]
  have M4 : Mem wc w15 (.blk b #[.int .i64 (s.seq + 1), .int .i64 f.inc, .slice none 0 0, .slice aD (m.ls.length + 1) cD, .int .i64 (s.seq + 1)] 354 :: rowE w15.heap.size w15.heap.size 453 6 (.slice none 0 0) 0 [] :: rowE loA hiA 358 2 (.slice aD (m.ls.length + 1) cD) (m.ls.length + 1) (fdC m.ls ++ [.int .i64 g.1.seq, r2.val]) :: r2.ent :: (m.ls.map (fun p => p.2.ent) ++ A)) := by
   rw [hr2e, show r2.val = .slice ja (outF (s.begun ++ [((f, r.bs) : FrB)])).length jc by rw [hr2]]
   exact M3.sub (.cons_cons _ (.cons_cons _ (.cons_cons _ (.cons_cons _ (.cons _ (by unfold ScM.rows; rw [List.append_assoc]; exact List.sublist_append_right _ _))))))
  rw [hrow, ← hl2l] at M4
  have hro : m3.rows = m.ls.map (fun p => p.2.ent) ++ [r2.ent] := by
   rw [hm3]; unfold ScM.rows
   show [] ++ ls2.map (fun p => p.2.ent) = _
   rw [hls2, List.map_append]; rfl
  have M6 : Mem wc w15 (_ :: _ :: _ :: (m3.rows ++ A)) := M4.perm (List.Perm.append_left [_, _, _] (by rw [hro]; exact perm_in _ _ _))
  rw [hm3] at M6 ⊢
  exact M6
theorem rd_zero {bs : List UInt8} (h : rdE bs = 0) : readF bs = some (rdF bs, rdL bs) := by
 unfold rdE at h; unfold rdF rdL
 cases hR : readF bs with
 | none => rw [hR] at h; simp at h
 | some x => rfl
theorem rd_none {bs : List UInt8} (h : ¬ rdE bs = 0) : readF bs = none := by
 unfold rdE at h
 cases hR : readF bs with
 | none => rfl
 | some x => rw [hR] at h; exact absurd rfl h
theorem rd_may {bs : List UInt8} (h : rdE bs = 0) : (rdF bs).may (rdL bs).length = true := (readF_spec (rd_zero h)).1
theorem stepP_none {s : Sc} {x : List UInt8} (h : ¬ rdE x = 0) : stepP s x = (s, false) := by unfold stepP; rw [rd_none h]
theorem stepP_bad {s : Sc} {x : List UInt8} (h : rdE x = 0) (hg : ¬ goodP s (rdF x) = true) : stepP s x = (s, false) := by unfold stepP; rw [rd_zero h]; exact if_neg hg
theorem stepP_take {s : Sc} {x : List UInt8} (h : rdE x = 0) (hg : goodP s (rdF x) = true) : stepP s x = takeP s (rdF x, rdL x) := by unfold stepP; rw [rd_zero h]; exact if_pos hg
theorem scanP_cons (s : Sc) (x : List UInt8) (t : List (List UInt8)) : scanP s (x :: t) = if (stepP s x).2 = true then scanP (stepP s x).1 t else (stepP s x).1 := by rw [scanP]
theorem takeP_len (s : Sc) (x : FrB) : (takeP s x).1.seq = s.seq + 1 ∧ (takeP s x).1.begun.length ≤ s.begun.length + 1 ∧ (takeP s x).1.l.length ≤ s.l.length + 1 := by
 unfold takeP
 split
 ·exact ⟨rfl, by simp, Nat.le_succ _⟩
 ·split
  ·exact ⟨rfl, Nat.zero_le _, by simp⟩
  ·exact ⟨rfl, by simp, Nat.le_succ _⟩
theorem perm_rt {α : Type} (P : List α) (t r : α) (B E : List α) : (P ++ t :: r :: (B ++ E)).Perm ((P ++ (E ++ B)) ++ [t, r]) := by
 rw [List.append_assoc]
 exact List.Perm.append_left _ ((List.perm_append_comm (l₁ := [t, r]) (l₂ := B ++ E)).trans (List.Perm.append_right _ List.perm_append_comm))
theorem perm_scan {α : Type} (x y f d t g s n r : α) (B : List α) : (x :: y :: f :: d :: t :: g :: s :: n :: r :: B).Perm (f :: d :: t :: g :: n :: r :: s :: x :: y :: B) :=
 ((List.perm_append_comm (l₁ := [x, y]) (l₂ := [f, d, t, g, s, n, r])).append_right B).trans ((((List.perm_append_comm (l₁ := [s]) (l₂ := [n, r])).append_right [x, y]).append_left [f, d, t, g]).append_right B)
def SfH (tail : Int) (bf bd bT bG bN bR bS b : Nat) (A E E1 : List Ent) : List Ent :=
 .blk bf #[.int .i64 tail] 3 :: .blk bd #[.pointer (some ⟨b, 0, none⟩)] 106 :: .blk bT #[.func (.func 280) #[.pointer (some ⟨bS, 0, none⟩)] #[]] 448 :: .blk bG #[.func (.func 279) #[.pointer (some ⟨bS, 0, none⟩)] #[]] 448 :: .blk bN #[.int .i64 0] 24 :: .blk bR #[.int .i64 0, .int .i64 0, .slice none 0 0, .slice none 0 0, .int .i64 0] 354 :: (E1 ++ (A ++ E))
noncomputable def sc0 (tail : Int) : Sc := ⟨tail, 0, [], [], tail⟩
noncomputable def scanOf (S : DS) (tail : Int) : Sc := scanP (sc0 tail) (secsOf S tail)
noncomputable def scanG (S : DS) (tail : Int) : Sc := scanP (sc0 tail) (secsG S tail)
theorem scanG_eq (S : DS) {tail : Int} (h : tail ≤ 4294967296) : scanG S tail = scanOf S tail := by unfold scanG scanOf; rw [secsG_eq S h]
def ScanP (wc : World) (A E : List Ent) (s : Sc) (e : Ending) (w' : World) : Prop := ∃ (sq ic : Int) (ba : Option Addr) (bn bc : Nat) (ls : List FdM) (la : Option Addr) (lc lo hi : Nat), e = .returned (.tuple #[.agg #[.int .i64 sq, .int .i64 ic, .slice ba bn bc, .slice la ls.length lc, .int .i64 s.next], .int .i64 0]) ∧ s.l = ls.map FdM.pl ∧ (∀ p ∈ ls, p.2.bs.length ≤ 90) ∧ ls.length ≤ 24 ∧ Mem wc w' (rowE lo hi 358 2 (.slice la ls.length lc) ls.length (fdC ls) :: (ls.map (fun p => p.2.ent) ++ (A ++ E)))
set_option maxHeartbeats 4000000 in
theorem scan_anyG {wc w : World} {A E : List Ent} {b : Nat} {S0 : DS} (tail : Int) (hE : DkE b S0 E) (M : Mem wc w (A ++ E)) (hup : S0.down = false) (hw : ∀ k, (S0.cache k).length ≤ 1000000) (ht : 1 ≤ tail ∧ tail ≤ 1099511627776) :
 Calls Tryz.prog 207 #[.pointer (some ⟨b, 0, none⟩), .int .i64 tail] w (ScanP wc A E (scanG S0 tail)) := by
 refine calls_enterM Tryz.func207 rfl 60 rfl rfl ?_; intro a S
 refine nxD (qN S M #[.int .i64 0, .int .i64 0, .slice none 0 0, .slice none 0 0, .int .i64 0] ?_); intro a w1 bR S M hB
 refine qN S M #[.int .i64 0] ?_; intro a w2 bN S M hB
 refine nxC (wp_scope_straight ?_)
 refine wp_seq (nxD (qG [1] S ?_)); intro a S
 refine qY S (y_eqlPS (by kernel_rfl) S rfl) ?_; intro a S
 refine nxC (cF S (wp_skip (then_normal (wp_seq (nxD (qG [1] S ?_)))))); intro a S
 refine qQ (xs := [.tmp 19]) S (qE Tryz.func278) rfl (PlaceJ tail _) M ?_; intro a w3 S hK M
 refine qG [1, 1, 1, 1, 1] S ?_; intro a S
 refine nxC (wp_seq ?_)
 have hpe : plE tail = 0 := by unfold plE; rw [if_pos (by omega)]
 rw [hpe] at S
 refine wp_region_lit (qG [1, 1] S ?_); intro a S
 refine nxC (qi 24 S ?_ ?_)
 ·intro h24 S
  exact absurd rfl h24
 intro h24 S
 refine cF S (wp_skip (nxE (qG [1, 1] S ?_))); intro a S
 refine qY S (y_build (ps := [(0, .tmp 26), (4, .tmp 27)]) (pl := [(0, 1), (1, 1), (2, 1), (3, 1), (4, 1)]) (z := [.int .i64 0, .int .i64 0, .slice none 0 0, .slice none 0 0, .int .i64 0]) (cs := [_, _, _, _, _]) S (by kernel_rfl) rfl (rfl)) ?_; intro a S
 refine qN S M #[.int .i64 0, .int .i64 0, .slice none 0 0, .slice none 0 0, .int .i64 0] ?_; intro a w4 bS S M hB
 refine qS (sz := 5) (us := [_, _, _, _, _]) S M 0 ?_; intro w5 M
 refine nxA (qY S (y_makeFunc (fs := [.tmp 8]) (cs := []) S rfl rfl) ?_); intro a S
 refine qY S (y_makeFunc (fs := [.tmp 8]) (cs := []) S rfl rfl) ?_; intro a S
 refine qN S M #[.nilFunc] ?_; intro a w6 bG S M hB
 refine qN S M #[.nilFunc] ?_; intro a w7 bT S M hB
 refine qS (sz := 1) (us := [_]) S M 1 ?_; intro w8 M
 refine qS (sz := 1) (us := [_]) S M 0 ?_; intro w9 M
 refine nxC (wp_seq (wp_label ?_))
 refine then_normal (wp_seq (nxD (qG [1, 1] S ?_))); intro a S
 refine qC (xs := [.tmp 31, .tmp 32]) S (qE Tryz.func281) rfl (sectors_any b tail _) ?_
 rintro _ w10 ⟨bf, bd, rfl, M1⟩; refine ⟨_, rfl, ?_⟩; intro a S; replace M := M.join M1; clear M1
 simp only [List.cons_append, List.nil_append] at M
 replace S := S.keep [0, 1, 4, 5, 16, 7, 24, 8, 9, 10, 33]
 refine nxC (wp_block ?_)
 replace M : Mem wc w10 (SfH tail bf bd bT bG bN bR bS b A E (ScM.ents bS (sc0 tail) ⟨[], [], none, 0, none, 0, w10.heap.size, w10.heap.size, w10.heap.size, w10.heap.size⟩)) := by
  have M1 := (M.rowNil 358 2).rowNil 453 6
  exact M1.perm (perm_scan _ _ _ _ _ _ _ _ _ _)
 refine wp_rangeV (V := secV) (xs := secsG S0 tail) S M rfl (enters_of Tryz.func361 (by decide) rfl) (sectors1_gen b bf bd tail S0 hup hw ht) (fun x vs E hV => by obtain ⟨v, lo, hi, rfl, -, -⟩ := hV; rfl) (by kernel_rfl) (fun pre Hs => ∃ s E1, (∀ t, scanP (sc0 tail) (pre ++ t) = scanP s t) ∧ s.begun.length ≤ pre.length ∧ s.l.length ≤ pre.length ∧ s.seq = tail + (pre.length : Int) ∧ ScE bS s E1 ∧ Hs = SfH tail bf bd bT bG bN bR bS b A E E1) (fun c pre Hs => c = .exit 0 ∧ ∃ s E1, (∀ t, scanP (sc0 tail) (pre ++ t) = s) ∧ s.l.length ≤ pre.length ∧ ScE bS s E1 ∧ Hs = SfH tail bf bd bT bG bN bR bS b A E E1) (⟨sc0 tail, _, fun t => rfl, Nat.le_refl _, Nat.le_refl _, by simp [sc0], ⟨_, ⟨rfl, rfl, fun p hp => (by cases hp), fun p hp => (by cases hp)⟩, rfl⟩, rfl⟩) (fun pre Hs W TT hI M => by obtain ⟨s, E1, -, -, -, -, -, rfl⟩ := hI; exact ⟨⟨wc, [], E, hE, M.sub (((((List.sublist_append_right A E).trans (List.sublist_append_right E1 _)).trans (List.sublist_append_right [_, _, _, _, _, _] _))).trans (List.sublist_append_left _ _))⟩, M.blk 0 rfl, M.blk 1 rfl⟩) ?_ ?_ ?_
 ·intro lY pre x tX Hs EY vs wr BT a hx hV hI M S
  obtain ⟨v, lo, hi, rfl, rfl, h64⟩ := hV
  obtain ⟨s, E1, hrun, hbl, hll, hsq, hE1, rfl⟩ := hI
  have hpl : pre.length < secN tail := by
   have e := congrArg List.length hx
   rw [secsG_len] at e
   simp at e
   omega
  have hpl24 : pre.length ≤ 24 ∧ tail + (pre.length : Int) ≤ 1099511627776 := by unfold secN at hpl; omega
  unfold SfH at M
  simp only [List.cons_append] at M
  simp only [putsL] at S
  refine wpIn_seq ?_
  refine wpI_region (by kernel_rfl) (fun _ _ h => h) ?_
  refine qG [1] S ?_; intro a S
  refine nxC (wpI_region (by kernel_rfl) (fun _ _ h => h) ?_)
  refine qG [1] S ?_; intro a S
  refine nxC ?_
  refine ⟨_ :: _ :: _ :: _ :: _ :: _ :: (E1 ++ (A ++ E)), M, ?_⟩; intro wb TT M; simp only [List.cons_append, List.nil_append] at M
  refine wpIn_block ?_
  refine wpIn_seq ?_
  refine wpIn_seq ?_
  replace M := M.perm (perm_rt [_, _, _, _, _, _] _ _ _ _).symm
  simp only [List.cons_append, List.nil_append] at M
  refine wpI_region (by kernel_rfl) (fun _ _ h => h) ?_
  refine qG [1, 1] S ?_; intro a S
  refine nxC (qi 37 S ?_ ?_)
  ·intro h37 S
   exact absurd rfl h37
  intro h37 S
  refine stI_condF S rfl ?_
  refine wpIn_skip ?_
  refine then_normal (wpIn_seq ?_)
  refine wpI_region (by kernel_rfl) (fun _ _ h => h) ?_
  refine qG [1] S ?_; intro a S
  refine qC (xs := [.tmp 41]) S (qE Tryz.func282) rfl (read_any v x _ (M.readAll 7 rfl (by unfold maxLen; omega)) (by omega)) ?_
  rintro _ w11 hP; obtain ⟨ad, cap, loX, hiX, rfl, hK, M2⟩ := read_uni M hP; refine ⟨_, rfl, ?_⟩; intro a S; have M := M2; clear M2 hP
  refine qG [1, 1, 1] S ?_; intro a S
  refine qN S M #[.int .i64 0, .int .i64 0, .int .i64 0, .int .i64 0, .int .u32 0, .slice none 0 0] ?_; intro a w12 bX S M hB
  refine qS (sz := 6) (us := [_, _, _, _, _, _]) S M 0 ?_; intro w13 M
  refine qG [1] S ?_; intro a S
  refine nxC (wpIn_seq ?_)
  refine wpI_region (by kernel_rfl) (fun _ _ h => h) ?_
  refine qG [1, 1, 1] S ?_; intro a S
  refine qi 47 S ?_ ?_
  ·intro h47 S
   refine qG [0, 0, 0, 0, 1, 1] S ?_; intro a S
   refine st_no S rfl rfl rfl ?_; intro a S
   refine qG [0, 0, 0, 1] S ?_; intro a S
   replace S := S.keep [0, 1, 4, 5, 16, 7, 24, 8, 9, 10, 33, 11, 12, 37, 13, 14, 58]
   refine nxC (stI_condT S rfl ?_)
   refine wpIn_exit ?_
   refine block_miss rfl ?_
   obtain ⟨s9, E9, hst, hl9, hE9, M5⟩ : ∃ s9 E9, stepP s x = (s9, false) ∧ s9.l.length ≤ s.l.length + 1 ∧ ScE bS s9 E9 ∧ Mem wc w13 (SfH tail bf bd bT bG bN bR bS b A E E9 ++ [TT, rowE lo hi 5 1 v x.length (bcells x)]) := by
    first
     | exact ⟨s, E1, stepP_none h47, by omega, hE1, by unfold SfH; exact ((M.drop 0).drop 0).perm (perm_rt [_, _, _, _, _, _] _ _ _ _)⟩
     | exact ⟨s, E1, stepP_bad h47 (by rw [h53]; simp), by omega, hE1, by unfold SfH; exact ((M.drop 0).drop 0).perm (perm_rt [_, _, _, _, _, _] _ _ _ _)⟩
     | exact ⟨_, E2, (stepP_take h47 h53).trans (Prod.ext rfl h58), (takeP_len _ _).2.2, hE2, by unfold SfH; exact (M.drop 0).perm (perm_rt [_, _, _, _, _, _] _ _ _ _)⟩
   refine ⟨_, M5, rfl, s9, E9, fun t => ?_, by rw [List.length_append]; simp; omega, hE9, rfl⟩
   rw [List.append_assoc, List.singleton_append, hrun, scanP_cons, hst]; rfl
  intro h47 S
  refine qR [6] S M ?_; intro a S
  refine qY S (qL6 S M 0) ?_; intro a S
  refine st_callB (xs := [.tmp 49]) (fi := [_]) (ca := []) S (enters_of Tryz.func279 (by decide) rfl) rfl rfl (rfl) rfl (good_any (A := _ :: _ :: _ :: _ :: _ :: _ :: _ :: _ :: _ :: _ :: (A ++ E)) (rdF x) ad (rdL x).length cap hE1 M (by omega)) ?_
  rintro _ w14 ⟨rfl, M2⟩; refine ⟨_, rfl, ?_⟩; intro a S; have M := M2; clear M2
  simp only [List.cons_append, List.nil_append] at M
  refine qG [1, 1, 1] S ?_; intro a S
  refine qi 53 S ?_ ?_
  ·intro h53 S
   refine st_no S rfl rfl rfl ?_; intro a S
   refine qG [0, 0, 0, 1] S ?_; intro a S
   replace S := S.keep [0, 1, 4, 5, 16, 7, 24, 8, 9, 10, 33, 11, 12, 37, 13, 14, 58]
   refine nxC (stI_condT S rfl ?_)
   refine wpIn_exit ?_
   refine block_miss rfl ?_
   obtain ⟨s9, E9, hst, hl9, hE9, M5⟩ : ∃ s9 E9, stepP s x = (s9, false) ∧ s9.l.length ≤ s.l.length + 1 ∧ ScE bS s9 E9 ∧ Mem wc w14 (SfH tail bf bd bT bG bN bR bS b A E E9 ++ [TT, rowE lo hi 5 1 v x.length (bcells x)]) := by
    first
     | exact ⟨s, E1, stepP_none h47, by omega, hE1, by unfold SfH; exact ((M.drop 0).drop 0).perm (perm_rt [_, _, _, _, _, _] _ _ _ _)⟩
     | exact ⟨s, E1, stepP_bad h47 (by rw [h53]; simp), by omega, hE1, by unfold SfH; exact ((M.drop 0).drop 0).perm (perm_rt [_, _, _, _, _, _] _ _ _ _)⟩
     | exact ⟨_, E2, (stepP_take h47 h53).trans (Prod.ext rfl h58), (takeP_len _ _).2.2, hE2, by unfold SfH; exact (M.drop 0).perm (perm_rt [_, _, _, _, _, _] _ _ _ _)⟩
   refine ⟨_, M5, rfl, s9, E9, fun t => ?_, by rw [List.length_append]; simp; omega, hE9, rfl⟩
   rw [List.append_assoc, List.singleton_append, hrun, scanP_cons, hst]; rfl
  intro h53 S
  skip
  replace M := M.frn 1
  refine qY S (qV S M 4) ?_; intro a S
  refine qY S (qL6 S M 1) ?_; intro a S
  refine st_callB (xs := [.tmp 55]) (fi := [_]) (ca := []) S (enters_of Tryz.func280 (by decide) rfl) rfl rfl (rfl) rfl (take_any (A := _ :: _ :: _ :: _ :: _ :: _ :: _ :: _ :: _ :: (A ++ E)) (rdF x) ⟨loX, hiX, ad, cap, rdL x⟩ hE1 M (by omega) (by omega) (by omega) (rd_may h47)) ?_
  rintro _ w15 ⟨rfl, E2, hE2, M2⟩; refine ⟨_, rfl, ?_⟩; intro a S; have M := M2; clear M2
  simp only [List.cons_append, List.nil_append] at M
  refine qG [1, 1] S ?_; intro a S
  replace S := S.keep [0, 1, 4, 5, 16, 7, 24, 8, 9, 10, 33, 11, 12, 37, 13, 14, 58]
  refine nxC (qf 58 S ?_ ?_)
  ·intro h58 S
   refine stI_condF S rfl ?_
   refine wpIn_skip ?_
   refine block_normal ?_
   have hst := (stepP_take h47 h53).trans (show takeP s (rdF x, rdL x) = ((takeP s (rdF x, rdL x)).1, true) from Prod.ext rfl h58)
   have hln := takeP_len s (rdF x, rdL x)
   have M5 : Mem wc w15 (SfH tail bf bd bT bG bN bR bS b A E E2 ++ [TT, rowE lo hi 5 1 v x.length (bcells x)]) := by unfold SfH; exact (M.drop 0).perm (perm_rt [_, _, _, _, _, _] _ _ _ _)
   refine ⟨_, M5, _, E2, fun t => ?_, ?_, ?_, ?_, hE2, rfl⟩
   ·rw [List.append_assoc, List.singleton_append, hrun, scanP_cons, hst]; rfl
   ·rw [List.length_append]; exact Nat.le_trans hln.2.1 (by simp; omega)
   ·rw [List.length_append]; exact Nat.le_trans hln.2.2 (by simp; omega)
   ·rw [List.length_append]; refine hln.1.trans ?_; simp; omega
  intro h58 S
  refine stI_condT S rfl ?_
  refine wpIn_exit ?_
  refine block_miss rfl ?_
  obtain ⟨s9, E9, hst, hl9, hE9, M5⟩ : ∃ s9 E9, stepP s x = (s9, false) ∧ s9.l.length ≤ s.l.length + 1 ∧ ScE bS s9 E9 ∧ Mem wc w15 (SfH tail bf bd bT bG bN bR bS b A E E9 ++ [TT, rowE lo hi 5 1 v x.length (bcells x)]) := by
   first
    | exact ⟨s, E1, stepP_none h47, by omega, hE1, by unfold SfH; exact ((M.drop 0).drop 0).perm (perm_rt [_, _, _, _, _, _] _ _ _ _)⟩
    | exact ⟨s, E1, stepP_bad h47 (by rw [h53]; simp), by omega, hE1, by unfold SfH; exact ((M.drop 0).drop 0).perm (perm_rt [_, _, _, _, _, _] _ _ _ _)⟩
    | exact ⟨_, E2, (stepP_take h47 h53).trans (Prod.ext rfl h58), (takeP_len _ _).2.2, hE2, by unfold SfH; exact (M.drop 0).perm (perm_rt [_, _, _, _, _, _] _ _ _ _)⟩
  refine ⟨_, M5, rfl, s9, E9, fun t => ?_, by rw [List.length_append]; simp; omega, hE9, rfl⟩
  rw [List.append_assoc, List.singleton_append, hrun, scanP_cons, hst]; rfl
 ·intro D1 wd Hs a hI M S
  obtain ⟨s, E1, hrun, hbl, hll, hsq, hE1, rfl⟩ := hI
  have hfin : scanG S0 tail = s := by
   have := hrun []
   rw [List.append_nil] at this
   exact this
  have hll2 : s.l.length ≤ 24 := by
   rw [secsG_len] at hll; unfold secN at hll; omega
  obtain ⟨m, O, rfl⟩ := hE1
  simp only [SfH, ScM.ents, List.cons_append] at M
  refine block_normal (nxE (qY S (y_loadAgg (cs := [_, _, _, _, _]) S (by kernel_rfl) rfl rfl (M.cellsAt (k := 5) 7 rfl rfl)) ?_)); intro a S
  refine qS (sz := 5) (us := [_, _, _, _, _]) S M 6 ?_; intro w16 M
  refine qS (sz := 1) (us := [_]) S M 5 ?_; intro w17 M
  refine nxC (wp_ret (sc_ret ?_))
  refine end_mark S M 0 rfl ?_; intro a wM S M
  simp only [List.eraseIdx_cons_succ, List.eraseIdx_cons_zero] at M
  refine end_plain ?_
  refine end_two S rfl (res_agg (cs := [_, _, _, _, _]) (by kernel_rfl) rfl rfl (M.cellsAt (k := 5) 5 rfl rfl)) (res_cell (by kernel_rfl) rfl (M.cell 4 rfl rfl)) ?_
  rw [hfin]
  have hlsl : s.l.length = m.ls.length := by rw [O.l, List.length_map]
  replace M := M.drp 0
  replace M := M.drp 0
  replace M := M.drp 0
  replace M := M.drp 0
  replace M := M.drp 0
  replace M := M.drp 0
  replace M := M.drp 0
  replace M := M.drp 0
  exact ⟨_, _, _, _, _, m.ls, m.la, m.lc, m.lo2, m.hi2, rfl, O.l, O.short, by omega, M.sub (.cons_cons _ (by unfold ScM.rows; rw [List.append_assoc]; exact List.sublist_append_right _ _))⟩
 intro D1 wd Hs a cX pre x tX hx hX M S
 obtain ⟨rfl, s, E1, hrun, hll, hE1, rfl⟩ := hX
 have hfin : scanG S0 tail = s := by
  have := hrun tX
  rw [List.append_assoc, List.singleton_append, ← hx] at this
  exact this
 have hll2 : s.l.length ≤ 24 := by
  have e := congrArg List.length hx
  rw [secsG_len] at e
  simp at e hll
  unfold secN at e
  omega
 obtain ⟨m, O, rfl⟩ := hE1
 simp only [SfH, ScM.ents, List.cons_append] at M
 refine wp_exit (block_hit (nxE (qY S (y_loadAgg (cs := [_, _, _, _, _]) S (by kernel_rfl) rfl rfl (M.cellsAt (k := 5) 7 rfl rfl)) ?_))); intro a S
 refine qS (sz := 5) (us := [_, _, _, _, _]) S M 6 ?_; intro w18 M
 refine qS (sz := 1) (us := [_]) S M 5 ?_; intro w19 M
 refine nxC (wp_ret (sc_ret ?_))
 refine end_mark S M 0 rfl ?_; intro a wM S M
 simp only [List.eraseIdx_cons_succ, List.eraseIdx_cons_zero] at M
 refine end_plain ?_
 refine end_two S rfl (res_agg (cs := [_, _, _, _, _]) (by kernel_rfl) rfl rfl (M.cellsAt (k := 5) 5 rfl rfl)) (res_cell (by kernel_rfl) rfl (M.cell 4 rfl rfl)) ?_
 rw [hfin]
 have hlsl : s.l.length = m.ls.length := by rw [O.l, List.length_map]
 replace M := M.drp 0
 replace M := M.drp 0
 replace M := M.drp 0
 replace M := M.drp 0
 replace M := M.drp 0
 replace M := M.drp 0
 replace M := M.drp 0
 replace M := M.drp 0
 exact ⟨_, _, _, _, _, m.ls, m.la, m.lc, m.lo2, m.hi2, rfl, O.l, O.short, by omega, M.sub (.cons_cons _ (by unfold ScM.rows; rw [List.append_assoc]; exact List.sublist_append_right _ _))⟩
abbrev kcellsL (p : Int × Int) : List Value := [.int .i64 p.1, .int .i64 p.2]
abbrev kcells (l : List (Int × Int)) : List Value := l.flatMap kcellsL
def keptAt (secs : List Sec) (p : Int × Int) : Option RB := match secOf secs p.1 with
 | some s => if 1 ≤ p.2 then s.ws[(p.2 - 1).toNat]? else none
 | none => none
def keptP (secs : List Sec) : List (Int × Int) → List Int → List (Nat × RB)
 | [], _ => []
 | p :: l, told => if (0 ≤ p.1 ∧ p.1 < 34) ∧ p.1 ∉ told then (match keptAt secs p with
    | some r => [(p.1.toNat, r)]
    | none => []) ++ keptP secs l (p.1 :: told) else keptP secs l told
abbrev encK (x : Nat × RB) : List Value := [.int .i64 (x.1 : Int), x.2.val]
def tcells (told : List Int) : List Value := (List.range 34).map fun i : Nat => .bool (decide ((i : Int) ∈ told))
structure KC (D : Dk) (bp bd : Nat) (pa : Option Addr) (pc : Nat) (plan : List (Int × Int)) (W : World) : Prop where
 disk : ∃ dur, dur.length = 2176 ∧ Blk W D.b (dcells dur D.m D.down).toArray 216
 map : W.heap[D.m]? = some (.map (D.ml.map (·.2)).toArray D.cl)
 rows : ∀ s ∈ D.secs, Rd 0 W.heap.size W 1 s.val s.ws.length (s.ws.map RB.val)
 pl : Blk W bp #[.slice pa plan.length pc] 42
 dp : Blk W bd #[.pointer (some ⟨D.b, 0, none⟩)] 106
 plan : Rd 0 W.heap.size W 2 (.slice pa plan.length pc) plan.length (kcells plan)
def putF (S : DS) (fs : List (Fr × List UInt8)) : DS := fs.foldl (fun S x => S.write (2 + x.1.seq % 24) (bytesF x.1 x.2)) S
def appOk (t n : Int) (bs : List UInt8) : Prop := bs ≠ [] ∧ bs.length ≤ 90 ∧ (nOf bs.length : Int) ≤ 24 - (n - t)
instance (t n : Int) (bs : List UInt8) : Decidable (appOk t n bs) := by unfold appOk; infer_instance
def AppP (t n inc : Int) (bs : List UInt8) (S0 : DS) (n' er : Int) (S1 : DS) : Prop := (appOk t n bs ∧ n' = n + (nOf bs.length : Nat) ∧ er = 0 ∧ S1 = putF S0 (cutF bs n inc)) ∨ (¬ appOk t n bs ∧ n' = n ∧ er ≠ 0 ∧ S1 = S0)
theorem write_cache_le {S : DS} {k : Int} {bs : List UInt8} {m : Nat} (h : ∀ j, (S.cache j).length ≤ m) (j : Int) : ((S.write k bs).cache j).length ≤ m + 1 := by
 unfold DS.write
 simp only
 split
 ·rw [List.length_append]; have := h k; simp; omega
 ·have := h j; omega
theorem nOf_le {n : Nat} (h : n ≤ 90) : nOf n ≤ 2 := by unfold nOf; omega
abbrev secB (x : FrB) : List UInt8 := bytesF x.1 x.2
def zero64 : List UInt8 := List.replicate 64 0
theorem frIn_zero : (frIn (zero64.take 60)).may (ldIn (zero64.take 60)).length = false := by kernel_rfl
theorem readF_zero : readF zero64 = none := by
 unfold readF
 rw [if_neg]
 rintro ⟨_, _, _, h, _⟩
 rw [frIn_zero] at h; cases h
def framesL (inc : Int) : Int → List (List UInt8) → List FrB
 | _, [] => []
 | q, r :: rs => cutF r q inc ++ framesL inc (q + (nOf r.length : Nat)) rs
def beginsL : Int → List (List UInt8) → List (Int × List UInt8)
 | _, [] => []
 | q, r :: rs => (q, r) :: beginsL (q + (nOf r.length : Nat)) rs
theorem nOf_pos {n : Nat} (h : 0 < n) : 1 ≤ nOf n := by unfold nOf; omega
theorem cutOk_n {r : List UInt8} {q inc : Int} (h : cutOk r q inc) : nOf r.length = 1 ∨ nOf r.length = 2 := by
 have h1 := nOf_pos (List.length_pos_iff.2 h.1)
 have h2 := nOf_le h.2.2.2.1
 omega
theorem frOf_read {r : List UInt8} {q inc : Int} (h : cutOk r q inc) {i : Nat} (hi : i < nOf r.length) : readF (secB (frOf r q inc i)) = some (frOf r q inc i) := read_bytes (frOf_may h hi)
theorem goodP_iff {s : Sc} {f : Fr} : goodP s f = true ↔ f.seq = s.seq ∧ s.inc ≤ f.inc ∧ (match s.begun with
 | [] => f.part = 0
 | g :: _ => f.part = (s.begun.length : Int) ∧ f.of = g.1.of ∧ f.mark = g.1.mark ∧ f.inc = g.1.inc) := by
 unfold goodP
 cases s.begun with
 | nil => simp [and_assoc]
 | cons g t => simp [and_assoc]
theorem scan_one {r : List UInt8} {q inc inc' nx : Int} {l : List (Int × List UInt8)} (h : cutOk r q inc') (hi : inc ≤ inc') (rest : List (List UInt8)) :
 scanP ⟨q, inc, [], l, nx⟩ ((cutF r q inc').map secB ++ rest) = scanP ⟨q + (nOf r.length : Nat), inc', [], l ++ [(q, r)], q + (nOf r.length : Nat)⟩ rest := by
 have hcR : cutR r q inc' = cutF r q inc' := by unfold cutR; rw [if_pos h]
 obtain ⟨hj, ho⟩ := join_cut h
 rw [hcR] at hj ho
 have h0 := frOf_read h (i := 0) (by have := cutOk_n h; omega)
 rcases cutOk_n h with e | e
 ·have hc : cutF r q inc' = [frOf r q inc' 0] := by unfold cutF; rw [e]; rfl
  have hof : (frOf r q inc' 0).1.of = 1 := by simp [frOf, e]
  rw [hc] at hj ho ⊢
  rw [List.map_cons, List.map_nil, List.singleton_append, scanP_cons]
  have hst : stepP ⟨q, inc, [], l, nx⟩ (secB (frOf r q inc' 0)) = (⟨q + (nOf r.length : Nat), inc', [], l ++ [(q, r)], q + (nOf r.length : Nat)⟩, true) := by
   unfold stepP
   rw [h0]
   have hg : goodP ⟨q, inc, [], l, nx⟩ (frOf r q inc' 0).1 = true := goodP_iff.2 ⟨by simp [frOf], by simp [frOf]; exact hi, by simp [frOf]⟩
   simp only [hg, if_true]
   unfold takeP
   rw [if_neg (by simp [hof]), if_pos (by simpa using hj)]
   simp only [List.nil_append, ho, e]
   simp [frOf]
  rw [hst]; rfl
 ·have hc : cutF r q inc' = [frOf r q inc' 0, frOf r q inc' 1] := by unfold cutF; rw [e]; rfl
  have hof : (frOf r q inc' 0).1.of = 2 := by simp [frOf, e]
  have hof1 : (frOf r q inc' 1).1.of = 2 := by simp [frOf, e]
  have h1 := frOf_read h (i := 1) (by omega)
  rw [hc] at hj ho ⊢
  simp only [List.map_cons, List.map_nil, List.cons_append, List.nil_append]
  rw [scanP_cons]
  have hst : stepP ⟨q, inc, [], l, nx⟩ (secB (frOf r q inc' 0)) = (⟨q + 1, inc', [frOf r q inc' 0], l, nx⟩, true) := by
   unfold stepP
   rw [h0]
   have hg : goodP ⟨q, inc, [], l, nx⟩ (frOf r q inc' 0).1 = true := goodP_iff.2 ⟨by simp [frOf], by simp [frOf]; exact hi, by simp [frOf]⟩
   simp only [hg, if_true]
   unfold takeP
   rw [if_pos (by simp [hof])]
   simp [frOf]
  have hst2 : stepP ⟨q + 1, inc', [frOf r q inc' 0], l, nx⟩ (secB (frOf r q inc' 1)) = (⟨q + (nOf r.length : Nat), inc', [], l ++ [(q, r)], q + (nOf r.length : Nat)⟩, true) := by
   unfold stepP
   rw [h1]
   have hg : goodP ⟨q + 1, inc', [frOf r q inc' 0], l, nx⟩ (frOf r q inc' 1).1 = true := goodP_iff.2 ⟨by simp [frOf], by simp [frOf], by simp [frOf]⟩
   simp only [hg, if_true]
   unfold takeP
   rw [if_neg (by simp [hof1]), if_pos (by simpa using hj)]
   simp only [List.cons_append, List.nil_append, ho, e]
   simp [frOf]
   omega
  rw [hst]
  simp only [if_true]
  rw [scanP_cons, hst2]; rfl
def Ends (q inc : Int) (rest : List (List UInt8)) : Prop := ∀ x t, rest = x :: t → ∀ f ld, readF x = some (f, ld) → f.seq = q → inc ≤ f.inc → f.part = 0 →
 (1 : Int) < f.of ∧ ∀ y t', t = y :: t' → ∀ g le, readF y = some (g, le) → g.seq = q + 1 → g.part = 1 → g.inc = f.inc → False
theorem scan_end {q inc nx : Int} {l : List (Int × List UInt8)} {rest : List (List UInt8)} (h : Ends q inc rest) : (scanP ⟨q, inc, [], l, nx⟩ rest).l = l ∧ (scanP ⟨q, inc, [], l, nx⟩ rest).next = nx := by
 cases rest with
 | nil => exact ⟨rfl, rfl⟩
 | cons x t =>
   by_cases hst : (stepP ⟨q, inc, [], l, nx⟩ x).2 = true
   ·rw [scanP_cons, if_pos hst]
    unfold stepP at hst ⊢
    cases hx : readF x with
    | none => rw [hx] at hst; cases hst
    | some p =>
      obtain ⟨f, ld⟩ := p
      rw [hx] at hst
      simp only at hst ⊢
      by_cases hg : goodP ⟨q, inc, [], l, nx⟩ f = true
      ·obtain ⟨g1, g2, g3⟩ := goodP_iff.1 hg
       obtain ⟨hof, h2⟩ := h x t rfl f ld hx g1 g2 g3
       have ht : takeP ⟨q, inc, [], l, nx⟩ (f, ld) = (⟨q + 1, f.inc, [(f, ld)], l, nx⟩, true) := by
        unfold takeP
        exact if_pos (by simpa using hof)
       rw [if_pos hg, ht]
       cases t with
       | nil => exact ⟨rfl, rfl⟩
       | cons y t' =>
         have hst2 : stepP ⟨q + 1, f.inc, [(f, ld)], l, nx⟩ y = (⟨q + 1, f.inc, [(f, ld)], l, nx⟩, false) := by
          unfold stepP
          cases hy : readF y with
          | none => rfl
          | some p2 =>
            obtain ⟨g, le⟩ := p2
            refine if_neg fun hg2 => ?_
            obtain ⟨k1, k2, k3⟩ := goodP_iff.1 hg2
            exact h2 y t' rfl g le hy k1 (by simpa using k3.1) k3.2.2.2
         rw [scanP_cons, hst2]
         exact ⟨rfl, rfl⟩
      ·rw [if_neg hg] at hst; cases hst
   ·rw [scanP_cons, if_neg hst]
    unfold stepP at hst ⊢
    cases hx : readF x with
    | none => exact ⟨rfl, rfl⟩
    | some p =>
      obtain ⟨f, ld⟩ := p
      rw [hx] at hst
      simp only at hst ⊢
      by_cases hg : goodP ⟨q, inc, [], l, nx⟩ f = true
      ·obtain ⟨g1, g2, g3⟩ := goodP_iff.1 hg
       obtain ⟨hof, h2⟩ := h x t rfl f ld hx g1 g2 g3
       have ht : takeP ⟨q, inc, [], l, nx⟩ (f, ld) = (⟨q + 1, f.inc, [(f, ld)], l, nx⟩, true) := by
        unfold takeP
        exact if_pos (by simpa using hof)
       rw [if_pos hg, ht] at hst
       exact absurd rfl hst
      ·rw [if_neg hg]; exact ⟨rfl, rfl⟩
def keptB (c : Int → List (List UInt8)) : List (Int × Int) → List Int → List (Nat × List UInt8)
 | [], _ => []
 | p :: l, told => if (0 ≤ p.1 ∧ p.1 < 34) ∧ p.1 ∉ told then (match if 1 ≤ p.2 then (c p.1)[(p.2 - 1).toNat]? else none with
    | some r => [(p.1.toNat, r)]
    | none => []) ++ keptB c l (p.1 :: told) else keptB c l told
def durK (dur : Nat → List UInt8) (l : List (Nat × List UInt8)) : Nat → List UInt8 := l.foldl (fun d x j => if j = x.1 then x.2 else d j) dur
def DS.crash (S : DS) (plan : List (Int × Int)) : DS := ⟨durK S.dur (keptB S.cache plan []), fun _ => [], true⟩
def durS (S : DS) (t : Int) (j : Nat) : List UInt8 := S.dur (2 + (t + (j : Int)) % 24).toNat
def cacS (S : DS) (t : Int) (j : Nat) : List (List UInt8) := S.cache (2 + (t + (j : Int)) % 24)
theorem secAt_eq (S : DS) (t : Int) (j : Nat) : secAt S t j = match (cacS S t j).getLast? with
 | some b => b
 | none => durS S t j := by
 unfold secAt DS.get cacS durS
 rw [show (((2 + (t + (j : Int)) % 24).toNat : Nat) : Int) = 2 + (t + (j : Int)) % 24 by omega]
 rfl
def DS.still (S : DS) : Prop := ∀ k, S.cache k = []
theorem snoc_rec {α : Type} {P : List α → Prop} (nil : P []) (snoc : ∀ l x, P l → P (l ++ [x])) (l : List α) : P l := by
 have : ∀ n (l : List α), l.length = n → P l := fun n => by
  induction n with
  | zero => intro l h; rw [List.eq_nil_of_length_eq_zero h]; exact nil
  | succ n ih =>
    intro l h
    have hne : l ≠ [] := fun e => by rw [e] at h; cases h
    rw [← List.dropLast_concat_getLast hne]
    exact snoc _ _ (ih _ (by rw [List.length_dropLast, h]; rfl))
 exact this _ l rfl
theorem secsOf_get (S : DS) (t : Int) {j : Nat} (h : j < 24) : (secsOf S t)[j]? = some (secAt S t j) := by unfold secsOf; simp [h]
theorem secsOf_len (S : DS) (t : Int) : (secsOf S t).length = 24 := by simp [secsOf]
theorem secAt_new (t : Int) (j : Nat) : secAt DS.new t j = zero64 := by
 unfold secAt DS.get DS.new zero64 durAt
 simp only [List.getLast?_nil]
 rw [List.drop_replicate, List.take_replicate]
 congr 1
 omega
structure JInv (S : DS) (t : Int) (G : List FrB) (c : Nat) : Prop where
 len : G.length ≤ 24
 le : c ≤ G.length
 old : ∀ j x, j < c → G[j]? = some x → durS S t j = secB x ∧ cacS S t j = []
 new : ∀ j, c ≤ j → j < 24 → durS S t j = zero64 ∧ cacS S t j = (match G[j]? with
  | some x => [secB x]
  | none => [])
def nmB (n : Nm) : List UInt8 := leB n.stamp 3 ++ (leB n.inc 3 ++ leB n.try_ 3)
def V8.bs (v : V8) : List UInt8 := [v.v0, v.v1, v.v2, v.v3, v.v4, v.v5, v.v6, v.v7]
def wrB (x : Wr) : List UInt8 := leB x.block 1 ++ x.val.bs
def wrsB (ws : List Wr) : List UInt8 := ws.flatMap wrB
def wsB (ws : List Wr) : List UInt8 := leB ws.length 1 ++ wrsB ws
theorem wrsB_succ {x : List Wr} {k : Nat} {p : Wr} (h : x[k]? = some p) : wrsB (x.take (k + 1)) = wrsB (x.take k) ++ wrB p := by
 obtain ⟨hlt, he⟩ := List.getElem?_eq_some_iff.1 h
 rw [List.take_succ_eq_append_getElem hlt, he]; simp [wrsB]
theorem wrsB_len (x : List Wr) : (wrsB x).length = x.length * 9 := by
 induction x with
 | nil => rfl
 | cons a ws ih => rw [show wrsB (a :: ws) = wrB a ++ wrsB ws by simp [wrsB], List.length_append, ih]; simp [wrB, leB_length, V8.bs]; omega
def Rc.body (r : Rc) (x : List Wr) : List UInt8 :=
 if r.kind = 1 then nmB r.name ++ wsB x
 else if r.kind = 2 then nmB r.name ++ (wsB x ++ (leB r.give 1 ++ leB r.take 1))
 else if r.kind = 3 then nmB r.name ++ leB (if r.yes then 1 else 0) 1
 else if r.kind = 4 then nmB r.name ++ (leB r.shards 1 ++ (leB (r.cs + 1) 1 ++ leB r.ct 1))
 else if r.kind = 5 then nmB r.name
 else leB r.n 3
def Rc.enc (r : Rc) (x : List Wr) : List UInt8 := leB r.kind 1 ++ r.body x
theorem i8_in {i : Int} (h : 0 ≤ i ∧ i < 128) : IntKind.i8.wrap i = i := by
 simp [IntKind.wrap, IntKind.bits, IntKind.signed]; omega
theorem leB1 (n : Int) : leB n 1 = [byteOf n] := by simp [leB]
theorem leB3 (n : Int) : leB n 3 = [byteOf n, byteOf (n / 256), byteOf (n / 65536)] := by simp [leB, List.range, List.range.loop]
theorem byteOf_toNat (i : Int) : ((byteOf i).toNat : Int) = i % 256 := by
 have h1 : 0 ≤ i % 256 := Int.emod_nonneg _ (by omega)
 have h2 : i % 256 < 256 := Int.emod_lt_of_pos _ (by omega)
 unfold byteOf
 have : (UInt8.ofNat (i % 256).toNat).toNat = (i % 256).toNat := by simp; omega
 rw [this]; omega
theorem leN_leB1 {n : Int} (h0 : 0 ≤ n) (h : n < 256) : (leN (leB n 1) : Int) = n := by
 rw [leB1]; simp only [leN]
 have := byteOf_toNat n
 have e := Int.emod_eq_of_lt h0 h
 omega
theorem leN_leB3 {n : Int} (h0 : 0 ≤ n) (h : n < 16777216) : (leN (leB n 3) : Int) = n := by
 rw [leB3]; simp only [leN]
 have e0 := byteOf_toNat n
 have e1 := byteOf_toNat (n / 256)
 have e2 := byteOf_toNat (n / 65536)
 omega
structure Rs where
 at_ : Nat
 bad : Bool
def tk (bs : List UInt8) (k : Nat) (s : Rs) : Int × Rs :=
 if s.at_ + k ≤ bs.length then (leN ((bs.drop s.at_).take k), ⟨s.at_ + k, s.bad⟩) else (0, ⟨s.at_, true⟩)
theorem tk_at (pre mid post : List UInt8) (b : Bool) : tk (pre ++ (mid ++ post)) mid.length ⟨pre.length, b⟩ = ((leN mid : Int), ⟨pre.length + mid.length, b⟩) := by
 unfold tk
 rw [if_pos (by simp only [List.length_append]; omega)]
 simp
def rdName (bs : List UInt8) (s : Rs) : Nm × Rs :=
 let a := tk bs 3 s
 let b := tk bs 3 a.2
 let c := tk bs 3 b.2
 (⟨a.1, b.1, c.1⟩, c.2)
def rdBs (bs : List UInt8) : Nat → Rs → List UInt8 × Rs
 | 0, s => ([], s)
 | k + 1, s => let a := tk bs 1 s; let r := rdBs bs k a.2; (byteOf a.1 :: r.1, r.2)
def v8 (l : List UInt8) : V8 := ⟨l.getD 0 0, l.getD 1 0, l.getD 2 0, l.getD 3 0, l.getD 4 0, l.getD 5 0, l.getD 6 0, l.getD 7 0⟩
def rdWr (bs : List UInt8) (s : Rs) : Wr × Rs := let a := tk bs 1 s; let v := rdBs bs 8 a.2; (⟨a.1, v8 v.1⟩, v.2)
def rdWrs (bs : List UInt8) : Nat → Rs → List Wr × Rs
 | 0, s => ([], s)
 | k + 1, s => let a := rdWr bs s; let r := rdWrs bs k a.2; (a.1 :: r.1, r.2)
def rdWs (bs : List UInt8) (s : Rs) : List Wr × Rs := let a := tk bs 1 s; rdWrs bs (min a.1 8).toNat a.2
def rdBody (bs : List UInt8) (kind : Int) (s : Rs) : Rc × List Wr × Rs :=
 if kind = 1 then
  let a := rdName bs s; let l := rdWs bs a.2
  ({ Rc.zero with kind := kind, name := a.1 }, l.1, l.2)
 else if kind = 2 then
  let a := rdName bs s; let l := rdWs bs a.2; let g := tk bs 1 l.2; let t := tk bs 1 g.2
  ({ Rc.zero with kind := kind, name := a.1, give := g.1, take := t.1 }, l.1, t.2)
 else if kind = 3 then
  let a := rdName bs s; let y := tk bs 1 a.2
  ({ Rc.zero with kind := kind, name := a.1, yes := y.1 == 1 }, [], y.2)
 else if kind = 4 then
  let a := rdName bs s; let x := tk bs 1 a.2; let y := tk bs 1 x.2; let z := tk bs 1 y.2
  ({ Rc.zero with kind := kind, name := a.1, shards := x.1, cs := y.1 - 1, ct := z.1 }, [], z.2)
 else if kind = 5 then
  let a := rdName bs s
  ({ Rc.zero with kind := kind, name := a.1 }, [], a.2)
 else
  let a := tk bs 3 s
  ({ Rc.zero with kind := kind, n := a.1 }, [], a.2)
theorem tk1 (pre post : List UInt8) (b : Bool) {n : Int} (h0 : 0 ≤ n) (h : n < 256) : tk (pre ++ (leB n 1 ++ post)) 1 ⟨pre.length, b⟩ = (n, ⟨(pre ++ leB n 1).length, b⟩) := by
 have := tk_at pre (leB n 1) post b
 rw [leB_length, leN_leB1 h0 h] at this
 rw [this, List.length_append, leB_length]
theorem tk3 (pre post : List UInt8) (b : Bool) {n : Int} (h0 : 0 ≤ n) (h : n < 16777216) : tk (pre ++ (leB n 3 ++ post)) 3 ⟨pre.length, b⟩ = (n, ⟨(pre ++ leB n 3).length, b⟩) := by
 have := tk_at pre (leB n 3) post b
 rw [leB_length, leN_leB3 h0 h] at this
 rw [this, List.length_append, leB_length]
theorem rdName_at (pre post : List UInt8) (b : Bool) {n : Nm} (h : n.named = true) : rdName (pre ++ (nmB n ++ post)) ⟨pre.length, b⟩ = (n, ⟨(pre ++ nmB n).length, b⟩) := by
 obtain ⟨h1, h2, h3⟩ := named_iff.1 h
 have e : pre ++ (nmB n ++ post) = pre ++ (leB n.stamp 3 ++ (leB n.inc 3 ++ (leB n.try_ 3 ++ post))) := by simp [nmB]
 have e1 := tk3 pre (leB n.inc 3 ++ (leB n.try_ 3 ++ post)) b (n := n.stamp) (by omega) (by omega)
 have e2 := tk3 (pre ++ leB n.stamp 3) (leB n.try_ 3 ++ post) b (n := n.inc) (by omega) (by omega)
 have e3 := tk3 (pre ++ leB n.stamp 3 ++ leB n.inc 3) post b (n := n.try_) (by omega) (by omega)
 simp only [List.append_assoc] at e2 e3
 unfold rdName
 simp only [e, e1, e2, e3]
 simp [nmB]
theorem leN_one (x : UInt8) : leN [x] = x.toNat := by simp [leN]
theorem byteOf_of (x : UInt8) : byteOf (x.toNat : Int) = x := by
 have := UInt8.toNat_lt x
 apply UInt8.toNat_inj.1
 have := byteOf_toNat (x.toNat : Int)
 omega
theorem rdBs_at : ∀ (mid pre post : List UInt8) (b : Bool), rdBs (pre ++ (mid ++ post)) mid.length ⟨pre.length, b⟩ = (mid, ⟨(pre ++ mid).length, b⟩)
 | [], pre, post, b => by simp [rdBs]
 | x :: mid, pre, post, b => by
   have e1 := tk_at pre [x] (mid ++ post) b
   have e2 := rdBs_at mid (pre ++ [x]) post b
   simp only [List.append_assoc, List.cons_append, List.nil_append, List.length_cons, List.length_nil, Nat.zero_add] at e1 e2
   simp only [List.cons_append, List.length_cons, rdBs, e1, leN_one, byteOf_of]
   have e3 : pre.length + 1 = (pre ++ [x]).length := by simp
   rw [e3, e2]
theorem v8_bs (v : V8) : v8 v.bs = v := by cases v; rfl
theorem rdWr_at (pre post : List UInt8) (b : Bool) {x : Wr} (h0 : 0 ≤ x.block) (h : x.block < 256) : rdWr (pre ++ (wrB x ++ post)) ⟨pre.length, b⟩ = (x, ⟨(pre ++ wrB x).length, b⟩) := by
 have e1 := tk1 pre (x.val.bs ++ post) b h0 h
 have e2 := rdBs_at x.val.bs (pre ++ leB x.block 1) post b
 simp only [List.append_assoc] at e2
 unfold rdWr wrB
 simp only [List.append_assoc, e1]
 rw [show (8 : Nat) = x.val.bs.length from rfl, e2]
 simp [v8_bs]
theorem rdWrs_at : ∀ (ws : List Wr) (pre post : List UInt8) (b : Bool), (∀ x ∈ ws, 0 ≤ x.block ∧ x.block < 256) → rdWrs (pre ++ (wrsB ws ++ post)) ws.length ⟨pre.length, b⟩ = (ws, ⟨(pre ++ wrsB ws).length, b⟩)
 | [], pre, post, b, _ => by simp [rdWrs, wrsB]
 | x :: ws, pre, post, b, h => by
   have hx := h x (List.mem_cons_self ..)
   have e1 := rdWr_at pre (wrsB ws ++ post) b hx.1 hx.2
   have e2 := rdWrs_at ws (pre ++ wrB x) post b (fun y hy => h y (List.mem_cons_of_mem _ hy))
   have ew : wrsB (x :: ws) = wrB x ++ wrsB ws := by simp [wrsB]
   simp only [List.append_assoc] at e2
   rw [ew]
   simp only [List.append_assoc, List.length_cons, rdWrs, e1, e2]
theorem rdWs_at (pre post : List UInt8) (b : Bool) {ws : List Wr} (h : writtenB ws = true) : rdWs (pre ++ (wsB ws ++ post)) ⟨pre.length, b⟩ = (ws, ⟨(pre ++ wsB ws).length, b⟩) := by
 simp only [writtenB, Bool.and_eq_true, decide_eq_true_eq] at h
 have e1 := tk1 pre (wrsB ws ++ post) b (n := (ws.length : Int)) (by omega) (by omega)
 have e2 := rdWrs_at ws (pre ++ leB ws.length 1) post b (fun x hx => by have := rising_mem h.2 x hx; omega)
 simp only [List.append_assoc] at e2
 unfold rdWs wsB
 simp only [List.append_assoc, e1]
 rw [show (min (ws.length : Int) 8).toNat = ws.length by omega, e2]
theorem rdBody_enc {r : Rc} {x : List Wr} (h : r.may x = true) (rest : List UInt8) : rdBody (r.enc x ++ rest) r.kind ⟨1, false⟩ = (r, x, ⟨(r.enc x).length, false⟩) := by
 have hl1 : (leB r.kind 1).length = 1 := leB_length _ _
 rcases may_cases h with ⟨hk, hr, hn, hw⟩ | ⟨hk, hr, hn, hw, hg, ht, -⟩ | ⟨hk, hr, rfl, hn⟩ | ⟨hk, hr, rfl, hn, hs, hc⟩ | ⟨hk, hr, rfl, hn⟩ | ⟨hk, hr, rfl, hn⟩ | ⟨hk, hr, rfl, hn⟩
 ·have e1 := rdName_at (leB r.kind 1) (wsB x ++ rest) false hn
  have e2 := rdWs_at (leB r.kind 1 ++ nmB r.name) rest false hw
  rw [hl1] at e1
  simp only [List.append_assoc] at e2
  unfold rdBody Rc.enc Rc.body
  simp only [hk, List.append_assoc, reduceIte] at e1 e2 ⊢
  simp only [e1, e2]
  rw [← hr]
 ·simp only [bitsB, decide_eq_true_eq] at hg ht
  have e1 := rdName_at (leB r.kind 1) (wsB x ++ (leB r.give 1 ++ (leB r.take 1 ++ rest))) false hn
  have e2 := rdWs_at (leB r.kind 1 ++ nmB r.name) (leB r.give 1 ++ (leB r.take 1 ++ rest)) false hw
  have e3 := tk1 (leB r.kind 1 ++ nmB r.name ++ wsB x) (leB r.take 1 ++ rest) false (n := r.give) (by omega) (by omega)
  have e4 := tk1 (leB r.kind 1 ++ nmB r.name ++ wsB x ++ leB r.give 1) rest false (n := r.take) (by omega) (by omega)
  rw [hl1] at e1
  simp only [List.append_assoc] at e2 e3 e4
  unfold rdBody Rc.enc Rc.body
  simp only [hk, List.append_assoc, reduceIte, show ¬ (2 : Int) = 1 by omega] at e1 e2 e3 e4 ⊢
  simp only [e1, e2, e3, e4]
  rw [← hr]
 ·have e1 := rdName_at (leB r.kind 1) (leB (if r.yes then 1 else 0) 1 ++ rest) false hn
  have e2 := tk1 (leB r.kind 1 ++ nmB r.name) rest false (n := if r.yes then 1 else 0) (by split <;> omega) (by split <;> omega)
  rw [hl1] at e1
  simp only [List.append_assoc] at e2
  unfold rdBody Rc.enc Rc.body
  simp only [hk, List.append_assoc, reduceIte, show ¬ (3 : Int) = 1 by omega, show ¬ (3 : Int) = 2 by omega] at e1 e2 ⊢
  simp only [e1, e2]
  have ey : ((if r.yes then (1 : Int) else 0) == 1) = r.yes := by cases r.yes <;> rfl
  rw [ey, ← hr]
 ·simp only [shardsB, changedB, decide_eq_true_eq] at hs hc
  have e1 := rdName_at (leB r.kind 1) (leB r.shards 1 ++ (leB (r.cs + 1) 1 ++ (leB r.ct 1 ++ rest))) false hn
  have e2 := tk1 (leB r.kind 1 ++ nmB r.name) (leB (r.cs + 1) 1 ++ (leB r.ct 1 ++ rest)) false (n := r.shards) (by omega) (by omega)
  have e3 := tk1 (leB r.kind 1 ++ nmB r.name ++ leB r.shards 1) (leB r.ct 1 ++ rest) false (n := r.cs + 1) (by omega) (by omega)
  have e4 := tk1 (leB r.kind 1 ++ nmB r.name ++ leB r.shards 1 ++ leB (r.cs + 1) 1) rest false (n := r.ct) (by omega) (by omega)
  rw [hl1] at e1
  simp only [List.append_assoc] at e2 e3 e4
  unfold rdBody Rc.enc Rc.body
  simp only [hk, List.append_assoc, reduceIte, show ¬ (4 : Int) = 1 by omega, show ¬ (4 : Int) = 2 by omega, show ¬ (4 : Int) = 3 by omega] at e1 e2 e3 e4 ⊢
  simp only [e1, e2, e3, e4]
  have ec : r.cs + 1 - 1 = r.cs := by omega
  rw [ec, ← hr]
 ·have e1 := rdName_at (leB r.kind 1) rest false hn
  rw [hl1] at e1
  unfold rdBody Rc.enc Rc.body
  simp only [hk, List.append_assoc, reduceIte, show ¬ (5 : Int) = 1 by omega, show ¬ (5 : Int) = 2 by omega, show ¬ (5 : Int) = 3 by omega, show ¬ (5 : Int) = 4 by omega] at e1 ⊢
  simp only [e1]
  rw [← hr]
 ·simp only [withinB, decide_eq_true_eq] at hn
  have e1 := tk3 (leB r.kind 1) rest false (n := r.n) (by omega) (by omega)
  rw [hl1] at e1
  unfold rdBody Rc.enc Rc.body
  simp only [hk, List.append_assoc, reduceIte, show ¬ (6 : Int) = 1 by omega, show ¬ (6 : Int) = 2 by omega, show ¬ (6 : Int) = 3 by omega, show ¬ (6 : Int) = 4 by omega, show ¬ (6 : Int) = 5 by omega] at e1 ⊢
  simp only [e1]
  rw [← hr]
 ·simp only [withinB, decide_eq_true_eq] at hn
  have e1 := tk3 (leB r.kind 1) rest false (n := r.n) (by omega) (by omega)
  rw [hl1] at e1
  unfold rdBody Rc.enc Rc.body
  simp only [hk, List.append_assoc, reduceIte, show ¬ (7 : Int) = 1 by omega, show ¬ (7 : Int) = 2 by omega, show ¬ (7 : Int) = 3 by omega, show ¬ (7 : Int) = 4 by omega, show ¬ (7 : Int) = 5 by omega] at e1 ⊢
  simp only [e1]
  rw [← hr]
theorem enc_head (r : Rc) (x : List Wr) : r.enc x = byteOf r.kind :: r.body x := by unfold Rc.enc; rw [leB1]; rfl
theorem enc_inj {r s : Rc} {x y : List Wr} (hr : r.may x = true) (hs : s.may y = true) {rest : List UInt8} (h : r.enc x = s.enc y ++ rest) : r = s ∧ x = y ∧ rest = [] := by
 have hk : r.kind = s.kind := by
  have k1 := kinds hr; have k2 := kinds hs
  rw [enc_head, enc_head, List.cons_append] at h
  have := (List.cons.inj h).1
  have e1 := byteOf_toNat r.kind; have e2 := byteOf_toNat s.kind
  rw [this] at e1
  omega
 have h1 := rdBody_enc hr []
 have h2 := rdBody_enc hs rest
 rw [List.append_nil, h, hk, h2] at h1
 simp only [Prod.mk.injEq, Rs.mk.injEq, and_true] at h1
 obtain ⟨rfl, rfl, hl⟩ := h1
 rw [List.length_append] at hl
 exact ⟨rfl, rfl, List.eq_nil_of_length_eq_zero (by omega)⟩
theorem enc_len {r : Rc} {x : List Wr} (h : r.may x = true) : 1 ≤ (r.enc x).length ∧ (r.enc x).length ≤ 90 := by
 have hw : ∀ ws : List Wr, (wrsB ws).length = ws.length * 9 := fun ws => by
  induction ws with
  | nil => rfl
  | cons a ws ih => rw [show wrsB (a :: ws) = wrB a ++ wrsB ws by simp [wrsB], List.length_append, ih]; simp [wrB, leB_length, V8.bs]; omega
 have hn : ∀ n : Nm, (nmB n).length = 9 := fun n => by simp [nmB, leB_length]
 have h8 : writtenB x = true → x.length ≤ 8 := fun h => by simp only [writtenB, Bool.and_eq_true, decide_eq_true_eq] at h; exact h.1
 unfold Rc.enc Rc.body
 rcases may_cases h with ⟨hk, -, -, h1⟩ | ⟨hk, -, -, h1, -⟩ | ⟨hk, -⟩ | ⟨hk, -⟩ | ⟨hk, -⟩ | ⟨hk, -⟩ | ⟨hk, -⟩ <;> simp [hk, leB_length, hn, wsB, hw]
 ·have := h8 h1; omega
 ·have := h8 h1; omega
abbrev rdC (bv : Value) (s : Rs) : Array Value := #[bv, .int .i64 (s.at_ : Int), .bool s.bad]
theorem rdBs_snoc (bs : List UInt8) : ∀ (j : Nat) (s : Rs), rdBs bs (j + 1) s = ((rdBs bs j s).1 ++ [byteOf (tk bs 1 (rdBs bs j s).2).1], (tk bs 1 (rdBs bs j s).2).2)
 | 0, s => rfl
 | j + 1, s => by
   show (byteOf (tk bs 1 s).1 :: (rdBs bs (j + 1) (tk bs 1 s).2).1, (rdBs bs (j + 1) (tk bs 1 s).2).2) = _
   rw [rdBs_snoc bs j (tk bs 1 s).2]; rfl
theorem rdBs_len (bs : List UInt8) : ∀ (j : Nat) (s : Rs), (rdBs bs j s).1.length = j
 | 0, s => rfl
 | j + 1, s => by rw [rdBs_snoc]; simp [rdBs_len bs j]
theorem rdWrs_snoc (bs : List UInt8) : ∀ (j : Nat) (s : Rs), rdWrs bs (j + 1) s = ((rdWrs bs j s).1 ++ [(rdWr bs (rdWrs bs j s).2).1], (rdWr bs (rdWrs bs j s).2).2)
 | 0, s => rfl
 | j + 1, s => by
   show ((rdWr bs s).1 :: (rdWrs bs (j + 1) (rdWr bs s).2).1, (rdWrs bs (j + 1) (rdWr bs s).2).2) = _
   rw [rdWrs_snoc bs j (rdWr bs s).2]; rfl
theorem rdWrs_len (bs : List UInt8) : ∀ (j : Nat) (s : Rs), (rdWrs bs j s).1.length = j
 | 0, s => rfl
 | j + 1, s => by rw [rdWrs_snoc]; simp [rdWrs_len bs j]
def padB (l : List UInt8) : List UInt8 := l ++ List.replicate (8 - l.length) 0
theorem padB_set {l : List UInt8} (b : Value) (x : UInt8) (h : l.length < 8) : putL (b :: bcells (padB l)) (1 + l.length) [.int .u8 (x.toNat : Int)] = b :: bcells (padB (l ++ [x])) := by
 have e : padB l = l ++ (0 :: List.replicate (8 - (l.length + 1)) 0) := by unfold padB; rw [show 8 - l.length = (8 - (l.length + 1)) + 1 by omega, List.replicate_succ]
 rw [e]; unfold padB
 simp only [putL, bcells, List.map_append, List.map_cons, List.map_nil, List.length_append, List.length_cons, List.length_nil, Nat.add_comm 1 l.length, List.set_cons_succ]
 rw [List.set_append_right _ _ (by simp)]
 simp
theorem padB_full {l : List UInt8} (h : l.length = 8) : bcells (padB l) = (v8 l).cellsL := by
 match l, h with
 | [a, b, c, d, e, f, g, i], _ => rfl
theorem tk1_bd (bs : List UInt8) (s : Rs) : 0 ≤ (tk bs 1 s).1 ∧ (tk bs 1 s).1 ≤ 255 := by
 unfold tk; split
 ·have h1 := leN_lt ((bs.drop s.at_).take 1)
  have h2 : ((bs.drop s.at_).take 1).length ≤ 1 := by simp; omega
  have h3 : 256 ^ ((bs.drop s.at_).take 1).length ≤ 256 ^ 1 := Nat.pow_le_pow_right (by omega) h2
  simp only; omega
 ·simp
abbrev RI := Rc × Int
def encR (r : Rc) : List UInt8 := r.enc []
def recOk (r : Rc) : Prop := r.may [] = true ∧ (r.kind = 4 ∨ r.kind = 5 ∨ r.kind = 6)
theorem encR_len {r : Rc} (h : recOk r) : 0 < (encR r).length ∧ (encR r).length ≤ 13 := by
 have h1 : (leB r.kind 1).length = 1 := leB_length _ _
 unfold encR Rc.enc Rc.body
 rw [List.length_append, h1]
 rcases h.2 with e | e | e <;> simp [e, nmB, leB_length]
theorem nOf_rec {r : Rc} (h : recOk r) : nOf (encR r).length = 1 := by have := encR_len h; unfold nOf; omega
def frR (q : Int) (p : RI) : FrB := frOf (encR p.1) q p.2 0
theorem cutF_rec {r : Rc} (h : recOk r) (q inc : Int) : cutF (encR r) q inc = [frR q (r, inc)] := by
 unfold cutF frR; rw [nOf_rec h]; rfl
theorem cutOk_rec {r : Rc} (h : recOk r) {q inc : Int} (hq : 1 ≤ q ∧ q ≤ 1099511627776) (hi : 0 ≤ inc ∧ inc ≤ 1048576) : cutOk (encR r) q inc := by
 have h1 := encR_len h
 refine ⟨fun e => by rw [e] at h1; simp at h1, hq, hi, by omega, by rw [nOf_rec h]; omega⟩
def Stale (x : List UInt8) (q K : Int) : Prop := ∀ f ld, readF x = some (f, ld) → f.seq = q → f.inc < K
theorem stale_zero (q : Int) : Stale zero64 q 0 := fun f ld h _ => by rw [readF_zero] at h; cases h
def lastI (L : List RI) : Nat → Int
 | 0 => 0
 | c + 1 => ((L[c]?).map (·.2)).getD 0
theorem lastI_succ (L : List RI) (c : Nat) : lastI L (c + 1) = ((L[c]?).map (·.2)).getD 0 := rfl
structure Phys (S : DS) (t : Int) (L : List RI) (c : Nat) (inc K : Int) (x : Nat) : Prop where
 len : L.length + x ≤ 24
 le : c ≤ L.length
 t1 : 1 ≤ t ∧ t ≤ 2147483648
 incs : 0 ≤ inc ∧ inc ≤ 1048576
 K0 : 0 ≤ K
 ok : ∀ p ∈ L, recOk p.1 ∧ 0 ≤ p.2 ∧ p.2 ≤ inc
 up : ∀ (i j : Nat) p q, i ≤ j → L[i]? = some p → L[j]? = some q → p.2 ≤ q.2
 old : ∀ (j : Nat) p, j < c → L[j]? = some p → durS S t j = secB (frR (t + (j : Int)) p) ∧ cacS S t j = []
 new : ∀ (j : Nat) p, c ≤ j → L[j]? = some p → cacS S t j = [secB (frR (t + (j : Int)) p)] ∧ p.2 = inc ∧ Stale (durS S t j) (t + (j : Int)) K
 rest : ∀ j : Nat, L.length ≤ j → j < 24 → cacS S t j = [] ∧ Stale (durS S t j) (t + (j : Int)) (if j < L.length + x then K else 0)
 stop : c < 24 → Stale (durS S t c) (t + (c : Int)) (lastI L c)
theorem Phys.lt {S : DS} {t : Int} {L : List RI} {c : Nat} {inc K : Int} {x : Nat} (h : Phys S t L c inc K x) : L.length ≤ 24 := by have := h.len; omega
theorem durS_new (t : Int) (j : Nat) : durS DS.new t j = zero64 := by
 have := secAt_new t j; rw [secAt_eq] at this; exact this
theorem Phys.start {S : DS} (hd : ∀ j, j < 24 → durS S 1 j = zero64 ∧ cacS S 1 j = []) (inc : Int) (hi : 0 ≤ inc ∧ inc ≤ 1048576) : Phys S 1 [] 0 inc 0 0 := by
 refine ⟨by simp, Nat.le_refl _, by omega, hi, Int.le_refl _, fun p hp => (by cases hp), fun i j p q _ h => (by simp at h), fun j p h => by omega, fun j p _ h => (by simp at h), fun j _ hj => ⟨(hd j hj).2, ?_⟩, fun _ => ?_⟩
 ·rw [(hd j hj).1]; split <;> exact stale_zero _
 ·rw [(hd 0 (by omega)).1]; exact stale_zero _
theorem Phys.congr {S S2 : DS} {t : Int} {L : List RI} {c : Nat} {inc K : Int} {x : Nat} (h : Phys S t L c inc K x) (hd : ∀ j, j < 24 → durS S2 t j = durS S t j ∧ cacS S2 t j = cacS S t j) : Phys S2 t L c inc K x := by
 have hl := h.len
 refine ⟨h.len, h.le, h.t1, h.incs, h.K0, h.ok, h.up, fun j p h1 h2 => ?_, fun j p h1 h2 => ?_, fun j h1 h2 => ?_, fun h1 => ?_⟩
 ·have := (List.getElem?_eq_some_iff.1 h2).1
  rw [(hd j (by omega)).1, (hd j (by omega)).2]; exact h.old j p h1 h2
 ·have := (List.getElem?_eq_some_iff.1 h2).1
  rw [(hd j (by omega)).1, (hd j (by omega)).2]; exact h.new j p h1 h2
 ·rw [(hd j h2).1, (hd j h2).2]; exact h.rest j h1 h2
 ·rw [(hd c h1).1]; exact h.stop h1
theorem Phys.begin {S : DS} {t : Int} {L : List RI} {inc K inc2 : Int} {x : Nat} (h : Phys S t L L.length inc K x) (hi : inc ≤ inc2 ∧ inc2 ≤ 1048576) : Phys S t L L.length inc2 K x := by
 have h1 := h.incs
 refine ⟨h.len, h.le, h.t1, by omega, h.K0, fun p hp => ?_, h.up, h.old, fun j p h1 h2 => ?_, h.rest, h.stop⟩
 ·obtain ⟨a, b, d⟩ := h.ok p hp
  exact ⟨a, b, by omega⟩
 ·have := (List.getElem?_eq_some_iff.1 h2).1; omega
theorem Phys.at {S : DS} {t : Int} {L : List RI} {c : Nat} {inc K : Int} {x : Nat} (h : Phys S t L c inc K x) {j : Nat} {p : RI} (hp : L[j]? = some p) : secAt S t j = secB (frR (t + (j : Int)) p) := by
 rw [secAt_eq]
 rcases Nat.lt_or_ge j c with h1 | h1
 ·obtain ⟨a, b⟩ := h.old j p h1 hp
  rw [b]; exact a
 ·obtain ⟨a, -, -⟩ := h.new j p h1 hp
  rw [a]; rfl
theorem Phys.beyond {S : DS} {t : Int} {L : List RI} {c : Nat} {inc K : Int} {x : Nat} (h : Phys S t L c inc K x) {j : Nat} (h1 : L.length ≤ j) (h2 : j < 24) : secAt S t j = durS S t j := by
 rw [secAt_eq, (h.rest j h1 h2).1]; rfl
def framesI : Int → List RI → List FrB
 | _, [] => []
 | q, p :: L => frR q p :: framesI (q + 1) L
theorem framesI_len : ∀ (q : Int) (L : List RI), (framesI q L).length = L.length
 | _, [] => rfl
 | q, p :: L => by simp [framesI, framesI_len (q + 1) L]
theorem framesI_get : ∀ (q : Int) (L : List RI) {j : Nat} {p : RI}, L[j]? = some p → (framesI q L)[j]? = some (frR (q + (j : Int)) p)
 | _, [], _, _, h => by simp at h
 | q, x :: L, 0, p, h => by simp at h; subst h; simp [framesI]
 | q, x :: L, j + 1, p, h => by
   have := framesI_get (q + 1) L (j := j) (p := p) (by simpa using h)
   simp only [framesI, List.getElem?_cons_succ]
   rw [this, show q + 1 + (j : Int) = q + ((j + 1 : Nat) : Int) by omega]
def beginsI : Int → List RI → List (Int × List UInt8)
 | _, [] => []
 | q, p :: L => (q, encR p.1) :: beginsI (q + 1) L
theorem beginsI_snd : ∀ (q : Int) (L : List RI), (beginsI q L).map (·.2) = L.map fun p => encR p.1
 | _, [] => rfl
 | q, p :: L => by simp [beginsI, beginsI_snd (q + 1) L]
def endI : Int → List RI → Int
 | i, [] => i
 | _, p :: L => endI p.2 L
theorem endI_snoc : ∀ (i : Int) (L : List RI) (p : RI), endI i (L ++ [p]) = p.2
 | _, [], _ => rfl
 | _, x :: L, p => endI_snoc x.2 L p
theorem endI_last (L : List RI) : endI 0 L = lastI L L.length := by
 induction L using snoc_rec with
 | nil => rfl
 | snoc L p ih =>
   rw [endI_snoc, List.length_append, List.length_singleton, lastI_succ]
   simp
theorem scan_allI : ∀ (L : List RI) {q i : Int} {l : List (Int × List UInt8)} (rest : List (List UInt8)), (∀ p ∈ L, recOk p.1 ∧ 0 ≤ p.2 ∧ p.2 ≤ 1048576) → 1 ≤ q → q + (L.length : Int) ≤ 1099511627776 → (∀ p ∈ L, i ≤ p.2) → (L.map (·.2)).Pairwise (· ≤ ·) →
 scanP ⟨q, i, [], l, q⟩ ((framesI q L).map secB ++ rest) = scanP ⟨q + (L.length : Int), endI i L, [], l ++ beginsI q L, q + (L.length : Int)⟩ rest
 | [], q, i, l, rest, _, _, _, _, _ => by simp [framesI, beginsI, endI]
 | p :: L, q, i, l, rest, hok, hq, hb, hi, hp => by
   obtain ⟨h1, h2, h3⟩ := hok p (List.mem_cons_self ..)
   rw [List.length_cons] at hb
   have e := scan_one (nx := q) (l := l) (cutOk_rec h1 (q := q) (inc := p.2) (by omega) ⟨h2, h3⟩) (hi p (List.mem_cons_self ..)) ((framesI (q + 1) L).map secB ++ rest)
   rw [cutF_rec h1, nOf_rec h1] at e
   rw [List.map_cons, List.pairwise_cons] at hp
   have ih := scan_allI L (q := q + 1) (i := p.2) (l := l ++ [(q, encR p.1)]) rest (fun r hr => hok r (List.mem_cons_of_mem _ hr)) (by omega) (by omega) (fun r hr => hp.1 r.2 (List.mem_map_of_mem hr)) hp.2
   rw [framesI, List.map_cons, List.cons_append]
   refine e.trans ?_
   refine ih.trans ?_
   rw [beginsI, endI, List.append_assoc, List.singleton_append, List.length_cons]
   rw [show q + 1 + (L.length : Int) = q + ((L.length + 1 : Nat) : Int) by omega]
theorem Phys.scan {S : DS} {t : Int} {L : List RI} {inc K : Int} {x : Nat} (h : Phys S t L L.length inc K x) : (scanG S t).l.map (·.2) = L.map (fun p => encR p.1) ∧ (scanG S t).next = t + (L.length : Int) := by
 have hl := h.lt
 have ht := h.t1
 have hinc := h.incs
 rw [scanG_eq S (by omega)]
 have hsec : secsOf S t = (framesI t L).map secB ++ (secsOf S t).drop L.length := by
  refine List.ext_getElem? fun j => ?_
  rcases Nat.lt_or_ge j L.length with h1 | h1
  ·obtain ⟨p, hp⟩ : ∃ p, L[j]? = some p := ⟨_, List.getElem?_eq_getElem h1⟩
   rw [List.getElem?_append_left (by rw [List.length_map, framesI_len]; exact h1), secsOf_get S t (by omega), h.at hp, List.getElem?_map, framesI_get t L hp]; rfl
  ·rw [List.getElem?_append_right (by rw [List.length_map, framesI_len]; exact h1), List.getElem?_drop, List.length_map, framesI_len]
   congr 1; omega
 have hpw : (L.map (·.2)).Pairwise (· ≤ ·) := by
  rw [List.pairwise_iff_getElem]
  intro i j hi hj hij
  rw [List.length_map] at hi hj
  rw [List.getElem_map, List.getElem_map]
  exact h.up i j _ _ (by omega) (List.getElem?_eq_getElem hi) (List.getElem?_eq_getElem hj)
 have e := scan_allI L (q := t) (i := 0) (l := []) ((secsOf S t).drop L.length) (fun p hp => by obtain ⟨a, b, d⟩ := h.ok p hp; exact ⟨a, b, by omega⟩) (by omega) (by omega) (fun p hp => (h.ok p hp).2.1) hpw
 rw [← hsec] at e
 have hend : Ends (t + (L.length : Int)) (endI 0 L) ((secsOf S t).drop L.length) := fun y r hy f ld hf hs hi _ => by
  have h1 : (secsOf S t)[L.length]? = some y := by
   have : ((secsOf S t).drop L.length)[0]? = some y := by rw [hy]; rfl
   rwa [List.getElem?_drop, Nat.add_zero] at this
  have h2 : L.length < 24 := by have := (List.getElem?_eq_some_iff.1 h1).1; rwa [secsOf_len] at this
  rw [secsOf_get S t h2] at h1
  cases h1
  rw [h.beyond (Nat.le_refl _) h2] at hf
  have := h.stop h2 f ld hf hs
  rw [endI_last] at hi
  omega
 obtain ⟨h1, h2⟩ := scan_end (nx := t + (L.length : Int)) (l := [] ++ beginsI t L) hend
 have e2 : scanOf S t = scanP ⟨t, 0, [], [], t⟩ (secsOf S t) := rfl
 rw [e2, e, h1, h2, List.nil_append, beginsI_snd]
 exact ⟨rfl, rfl⟩
def Su.nums (s : Su) : List (Int × Nat) := [(s.gen, 6), (s.tail, 6), (s.owned, 1), (s.inc, 3), (s.bound, 3), (s.m0, 1), (s.m1, 1), (s.m2, 1), (s.m3, 1), (s.m4, 1), (s.m5, 1), (s.m6, 1), (s.m7, 1)]
def numsB (l : List (Int × Nat)) : List UInt8 := l.flatMap fun p => leB p.1 p.2
def supB (s : Su) : List UInt8 := sealB (numsB s.nums)
def supS (s : Su) : List UInt8 := supB s ++ List.replicate 33 0
theorem numsB_len (l : List (Int × Nat)) : (numsB l).length = (l.map (·.2)).sum := by
 induction l with
 | nil => rfl
 | cons p l ih => rw [show numsB (p :: l) = leB p.1 p.2 ++ numsB l by simp [numsB], List.length_append, ih, leB_length]; simp
theorem Su.nums_len (s : Su) : (numsB s.nums).length = 27 := by rw [numsB_len]; rfl
theorem supB_len (s : Su) : (supB s).length = 31 := by unfold supB sealB; rw [List.length_append, s.nums_len]; rfl
theorem leN_leBk : ∀ (k : Nat) {n : Int}, 0 ≤ n → n < 256 ^ k → (leN (leB n k) : Int) = n
 | 0, n, h0, h => by simp only [Int.pow_zero] at h; obtain rfl : n = 0 := by omega
                     rfl
 | k + 1, n, h0, h => by
   have e : leB n (k + 1) = byteOf n :: leB (n / 256) k := by
    unfold leB
    rw [List.range_succ_eq_map, List.map_cons, List.map_map]
    congr 1
    ·simp
    ·refine List.map_congr_left fun i _ => ?_
     simp only [Function.comp]
     rw [Int.pow_succ, Int.mul_comm, ← Int.ediv_ediv_of_nonneg (by omega)]
   have ih := leN_leBk k (n := n / 256) (by omega) (by
    rw [Int.pow_succ] at h
    exact Int.ediv_lt_of_lt_mul (by omega) h)
   rw [e]
   simp only [leN]
   have e1 := byteOf_toNat n
   omega
theorem numB_at (pre post : List UInt8) {n : Int} {k : Nat} (h0 : 0 ≤ n) (h : n < 256 ^ k) : numB (pre ++ (leB n k ++ post)) pre.length k = n := by
 unfold numB
 rw [List.drop_left, List.take_append_of_le_length (by rw [leB_length]; exact Nat.le_refl _), List.take_of_length_le (by rw [leB_length]; exact Nat.le_refl _)]
 exact leN_leBk k h0 h
theorem suOf_nums {s : Su} (h : s.may) : suOf (numsB s.nums) = s := by
 obtain ⟨hm, h1, h2, h3, h4, h5, h6, h7, h8, h9, h10⟩ := h
 have m : ∀ k, k < 8 → 0 ≤ s.mAt k ∧ s.mAt k < 256 := fun k hk => by have := hm k hk; omega
 have q0 := m 0 (by omega); have q1 := m 1 (by omega); have q2 := m 2 (by omega); have q3 := m 3 (by omega)
 have q4 := m 4 (by omega); have q5 := m 5 (by omega); have q6 := m 6 (by omega); have q7 := m 7 (by omega)
 simp only [Su.mAt] at q0 q1 q2 q3 q4 q5 q6 q7
 have key : ∀ (a b : List (Int × Nat)) (n : Int) (k p : Nat), s.nums = a ++ (n, k) :: b → (a.map (·.2)).sum = p → 0 ≤ n → n < 256 ^ k → numB (numsB s.nums) p k = n := by
  intro a b n k p e hp h0 h
  have e2 : numsB s.nums = numsB a ++ (leB n k ++ numsB b) := by rw [e]; simp [numsB]
  rw [e2, ← hp, ← numsB_len a]
  exact numB_at _ _ h0 h
 have e0 := key [] _ s.gen 6 0 rfl rfl (by omega) (by omega)
 have e1 := key [_] _ s.tail 6 6 rfl rfl (by omega) (by omega)
 have e2 := key [_, _] _ s.owned 1 12 rfl rfl (by omega) (by omega)
 have e3 := key [_, _, _] _ s.inc 3 13 rfl rfl (by omega) (by omega)
 have e4 := key [_, _, _, _] _ s.bound 3 16 rfl rfl (by omega) (by omega)
 have f0 := key [_, _, _, _, _] _ s.m0 1 19 rfl rfl (by omega) (by omega)
 have f1 := key [_, _, _, _, _, _] _ s.m1 1 20 rfl rfl (by omega) (by omega)
 have f2 := key [_, _, _, _, _, _, _] _ s.m2 1 21 rfl rfl (by omega) (by omega)
 have f3 := key [_, _, _, _, _, _, _, _] _ s.m3 1 22 rfl rfl (by omega) (by omega)
 have f4 := key [_, _, _, _, _, _, _, _, _] _ s.m4 1 23 rfl rfl (by omega) (by omega)
 have f5 := key [_, _, _, _, _, _, _, _, _, _] _ s.m5 1 24 rfl rfl (by omega) (by omega)
 have f6 := key [_, _, _, _, _, _, _, _, _, _, _] _ s.m6 1 25 rfl rfl (by omega) (by omega)
 have f7 := key [_, _, _, _, _, _, _, _, _, _, _, _] _ s.m7 1 26 rfl rfl (by omega) (by omega)
 unfold suOf
 rw [e0, e1, e2, e3, e4, f0, f1, f2, f3, f4, f5, f6, f7]
theorem zerosB_rep (n : Nat) : zerosB (List.replicate n 0) = true := by unfold zerosB; simp
theorem supP_put {s : Su} (h : s.may) {k : Nat} (hk : s.gen % 2 = (k : Int)) : supP (supS s) k = some s := by
 have hl := supB_len s
 have e27 : (supS s).take 27 = numsB s.nums := by
  unfold supS supB sealB
  rw [List.append_assoc, List.take_append_of_le_length (by rw [s.nums_len]; exact Nat.le_refl _), List.take_of_length_le (by rw [s.nums_len]; exact Nat.le_refl _)]
 have e31 : (supS s).take (27 + 4) = supB s := by
  unfold supS
  rw [List.take_append_of_le_length (by rw [hl]; exact Nat.le_refl _), List.take_of_length_le (by rw [hl]; exact Nat.le_refl _)]
 have d31 : (supS s).drop (27 + 4) = List.replicate 33 0 := by
  unfold supS
  rw [List.drop_append_of_le_length (by rw [hl]; exact Nat.le_refl _), List.drop_of_length_le (by rw [hl]; exact Nat.le_refl _), List.nil_append]
 unfold supP
 rw [if_pos]
 ·rw [e27, suOf_nums h]
 ·rw [e27, suOf_nums h]
  refine ⟨?_, h, hk⟩
  unfold opnB
  rw [e31, d31, zerosB_rep, openB_true (show openOk (supB s) from ⟨_, rfl⟩)]; rfl
structure SupI (sec : Nat → List UInt8) (s : Su) : Prop where
 may : s.may
 here : sec (s.gen % 2).toNat = supS s
 there : ∀ k x, k < 2 → k ≠ (s.gen % 2).toNat → supP (sec k) k = some x → x.gen < s.gen
theorem SupI.gs {sec : Nat → List UInt8} {s : Su} (h : SupI sec s) : gsR sec = (s, 0) := by
 have hm : s.gen % 2 = 0 ∨ s.gen % 2 = 1 := by omega
 unfold gsR bestN
 rcases hm with hg | hg
 ·have h0 : supP (sec 0) 0 = some s := by have := h.here; rw [hg] at this; rw [show sec 0 = supS s from this]; exact supP_put h.may hg
  have h1 := h.there 1
  rw [hg] at h1
  have b1 : bestN sec 1 = some s := by unfold bestN; rw [h0]; rfl
  rw [b1]
  cases e : supP (sec 1) 1 with
  | none => rfl
  | some x => have := h1 x (by omega) (by decide) e; simp only; rw [if_neg (by omega)]
 ·have h1 : supP (sec 1) 1 = some s := by have := h.here; rw [hg] at this; rw [show sec 1 = supS s from this]; exact supP_put h.may hg
  have h0 := h.there 0
  rw [hg] at h0
  rw [h1]
  unfold bestN bestN
  cases e : supP (sec 0) 0 with
  | none => rfl
  | some x => have := h0 x (by omega) (by decide) e; simp only; rw [if_pos this]
theorem SupI.put {sec sec2 : Nat → List UInt8} {s t : Su} (h : SupI sec s) (ht : t.may) (hg : t.gen = s.gen + 1) (h1 : sec2 (t.gen % 2).toNat = supS t) (h2 : ∀ k, k < 2 → k ≠ (t.gen % 2).toNat → sec2 k = sec k) : SupI sec2 t := by
 refine ⟨ht, h1, fun k x hk hne hx => ?_⟩
 rw [h2 k hk hne] at hx
 have e : k = (s.gen % 2).toNat := by omega
 have := h.here
 rw [e, h.here, supP_put h.may (by omega)] at hx
 cases hx; omega
def curOf (su : Su) : Su := { su with gen := 0, tail := 0, owned := 0, inc := 0 }
def tkC (x : Su × List Rc) (r : Rc) : Su × List Rc :=
 if r.kind = 4 then (if 0 ≤ r.cs then x.1.mSet r.cs.toNat r.ct else x.1, commitL x.2 r)
 else if r.kind = 5 then (x.1, endL x.2 r.name) else ({ x.1 with bound := r.n }, x.2)
def runK (x : Su × List Rc) (l : List Rc) : Su × List Rc := l.foldl tkC x
theorem runK_append (x : Su × List Rc) (a b : List Rc) : runK x (a ++ b) = runK (runK x a) b := List.foldl_append ..
theorem take_eq (s : Ls) (r : Rc) : s.take r = { s with cu := (tkC (s.cu, s.op) r).1, op := (tkC (s.cu, s.op) r).2 } := by
 unfold Ls.take tkC Ls.commit Ls.end_ Ls.stamps
 split
 ·rfl
 ·split <;> rfl
structure CuOk (cu : Su) : Prop where
 zero : curOf cu = cu
 map : cu.mapOk
 bound : 1 ≤ cu.bound ∧ cu.bound ≤ 1048577
structure OpOk (op : List Rc) : Prop where
 ok : ∀ r ∈ op, recOk r ∧ r.kind = 4
 nodup : (op.map (·.name)).Nodup
theorem rec_cs {r : Rc} (h : recOk r) : r.cs < 8 := by
 rcases may_cases h.1 with ⟨a, b, -⟩ | ⟨a, b, -⟩ | ⟨a, b, -⟩ | ⟨a, b, -, d, e, f⟩ | ⟨a, b, -⟩ | ⟨a, b, -⟩ | ⟨a, b, -⟩
 all_goals first
  | (have f2 : (r.cs = -1 ∧ r.ct = 0) ∨ (0 ≤ r.cs ∧ r.cs < 8 ∧ 1 ≤ r.ct ∧ r.ct ≤ 4) := by simpa [changedB] using f
     omega)
  | (rw [b]; simp [Rc.zero])
def clrR (r : Rc) : Rc := { r with cs := -1, ct := 0 }
structure LG (s : Ls) (L : List RI) (c : Nat) : Prop where
 run : runK (curOf s.su, []) (L.map (·.1)) = (s.cu, s.op)
 ends : ∀ (j : Nat) p, c ≤ j → L[j]? = some p → p.1.kind = 5
 cnt : ∀ m, c ≤ m → m ≤ L.length → (runK (curOf s.su, []) ((L.take m).map (·.1))).2.length = s.op.length + (L.length - m)
 few : s.op.length + (L.length - c) ≤ 8
def Ls.back (s : Ls) (L : List RI) (m : Nat) : Ls := ⟨s.su, (runK (curOf s.su, []) ((L.take m).map (·.1))).1, s.su.tail + (m : Int), (runK (curOf s.su, []) ((L.take m).map (·.1))).2⟩
end Go.Proofs.YtdcgcgifgnaccaaGreat
