/-
  Package pack: Fits, behind, Put.
-/
import Derived.Test.YtafejnbfgkkjkaaLeN
namespace Go.Proofs.Ytafejnbfgkkjkaa
open Go.RowKit Go.Sort

/-- does n fit into k bytes? -/
def fitsP (n k : Int) : Prop := 1 ≤ k ∧ k ≤ 6 ∧ 0 ≤ n ∧ n < 256 ^ k.toNat
theorem pow8 (k : Nat) : (2 : Int) ^ (8 * k) = 256 ^ k := by rw [Int.pow_mul]; rfl
open Classical in
noncomputable def fitsB (n k : Int) : Bool := decide (fitsP n k)

theorem fits_any (n k : Int) (w : World) : Calls Try.prog 59 #[.int .i64 n, .int .i64 k] w fun e w' => e = .returned (.bool (fitsB n k)) ∧ Below w.heap.size w w' := by
  have M := Mem.start w
  have key : ∀ b : Bool, (b = true ↔ fitsP n k) → b = fitsB n k := fun b h => by unfold fitsB; rw [Bool.eq_iff_iff, h]; simp
  refine calls_enter Try.func59 rfl 22 rfl rfl ?_; intro a S
  refine nxD ?_
  refine st_go [1] S rfl (by kernel_rfl) ?_; clear S a; intro a S
  refine nxA ?_
  refine st_go [1, 1, 1] S rfl (by kernel_rfl) ?_; clear S a; intro a S
  refine st_fi (t := 7) S rfl ?_ ?_
  · clear S; intro h7 S
    refine st_go [0, 0, 1, 1, 0, 0, 1, 1, 0, 0, 0, 0, 0, 1, 1] S rfl (by kernel_rfl) ?_; clear S a; intro a S
    replace S := S.sub [(0, _), (1, _), (4, _)] rfl
    refine nxC ?_
    refine wp_ret ?_
    refine end_one S rfl (res_tmp rfl) ?_
    refine ⟨ret_bool (key _ ?_), M.below⟩
    unfold fitsP
    first
      | (simp; omega)
      | (have h8 : ((8 : Int) * k).toNat = 8 * k.toNat := by omega
         rw [h8, pow8]
         have hp : (0 : Int) < 256 ^ k.toNat := Int.pow_pos (by omega)
         simp only [beq_iff_eq]
         constructor
         · intro h
           refine ⟨by omega, by omega, by omega, ?_⟩
           rcases Int.lt_or_le n (256 ^ k.toNat) with hlt | hle
           · exact hlt
           · have := Int.le_ediv_of_mul_le (a := 1) (b := n) hp (by omega)
             omega
         · rintro ⟨_, _, h3, h4⟩
           exact Int.ediv_eq_zero_of_lt h3 h4)
  clear S; intro h7 S
  refine st_go [1, 1, 1, 1] S rfl (by kernel_rfl) ?_; clear S a; intro a S
  refine st_fi (t := 11) S rfl ?_ ?_
  · clear S; intro h11 S
    refine st_go [0, 0, 1, 1, 0, 0, 0, 0, 0, 1, 1] S rfl (by kernel_rfl) ?_; clear S a; intro a S
    replace S := S.sub [(0, _), (1, _), (4, _)] rfl
    refine nxC ?_
    refine wp_ret ?_
    refine end_one S rfl (res_tmp rfl) ?_
    refine ⟨ret_bool (key _ ?_), M.below⟩
    unfold fitsP
    first
      | (simp; omega)
      | (have h8 : ((8 : Int) * k).toNat = 8 * k.toNat := by omega
         rw [h8, pow8]
         have hp : (0 : Int) < 256 ^ k.toNat := Int.pow_pos (by omega)
         simp only [beq_iff_eq]
         constructor
         · intro h
           refine ⟨by omega, by omega, by omega, ?_⟩
           rcases Int.lt_or_le n (256 ^ k.toNat) with hlt | hle
           · exact hlt
           · have := Int.le_ediv_of_mul_le (a := 1) (b := n) hp (by omega)
             omega
         · rintro ⟨_, _, h3, h4⟩
           exact Int.ediv_eq_zero_of_lt h3 h4)
  clear S; intro h11 S
  refine st_go [1, 1, 1, 1] S rfl (by kernel_rfl) ?_; clear S a; intro a S
  refine st_fi (t := 15) S rfl ?_ ?_
  · clear S; intro h15 S
    refine st_go [0, 0, 0, 0, 0, 1, 1] S rfl (by kernel_rfl) ?_; clear S a; intro a S
    replace S := S.sub [(0, _), (1, _), (4, _)] rfl
    refine nxC ?_
    refine wp_ret ?_
    refine end_one S rfl (res_tmp rfl) ?_
    refine ⟨ret_bool (key _ ?_), M.below⟩
    unfold fitsP
    first
      | (simp; omega)
      | (have h8 : ((8 : Int) * k).toNat = 8 * k.toNat := by omega
         rw [h8, pow8]
         have hp : (0 : Int) < 256 ^ k.toNat := Int.pow_pos (by omega)
         simp only [beq_iff_eq]
         constructor
         · intro h
           refine ⟨by omega, by omega, by omega, ?_⟩
           rcases Int.lt_or_le n (256 ^ k.toNat) with hlt | hle
           · exact hlt
           · have := Int.le_ediv_of_mul_le (a := 1) (b := n) hp (by omega)
             omega
         · rintro ⟨_, _, h3, h4⟩
           exact Int.ediv_eq_zero_of_lt h3 h4)
  clear S; intro h15 S
  refine st_go [1, 1] S rfl (by kernel_rfl) ?_; clear S a; intro a S
  (first | refine st_y S rfl rfl rfl (y_mulN S rfl rfl (by omega)) ?_ | refine st_y S rfl rfl rfl (y_int S rfl rfl rfl) ?_); clear S a; intro a S
  (first | refine st_y S rfl rfl rfl (y_shrN S rfl rfl (by omega)) ?_ | refine st_y S rfl rfl rfl (y_shr S rfl rfl (by omega)) ?_); clear S a; intro a S
  refine st_go [1, 1, 1] S rfl (by kernel_rfl) ?_; clear S a; intro a S
  replace S := S.sub [(0, _), (1, _), (4, _)] rfl
  refine nxC ?_
  refine wp_ret ?_
  refine end_one S rfl (res_tmp rfl) ?_
  refine ⟨ret_bool (key _ ?_), M.below⟩
  unfold fitsP
  first
    | (simp; omega)
    | (have h8 : ((8 : Int) * k).toNat = 8 * k.toNat := by omega
       rw [h8, pow8]
       have hp : (0 : Int) < 256 ^ k.toNat := Int.pow_pos (by omega)
       simp only [beq_iff_eq]
       constructor
       · intro h
         refine ⟨by omega, by omega, by omega, ?_⟩
         rcases Int.lt_or_le n (256 ^ k.toNat) with hlt | hle
         · exact hlt
         · have := Int.le_ediv_of_mul_le (a := 1) (b := n) hp (by omega)
           omega
       · rintro ⟨_, _, h3, h4⟩
         exact Int.ediv_eq_zero_of_lt h3 h4)

theorem madeL_length' (zc : List Value) (k : Nat) : (madeL zc k).toArray.size = k * 1 := by simp [madeL_length]
theorem behind_any (v u : Value) (bs ms : List UInt8) (w : World) (hv : Bs 0 w.heap.size w v bs) (hu : Bs 0 w.heap.size w u ms) (hb : bs.length ≤ 70000000000000) (hm : ms.length ≤ 70000000000000) :
    Calls Try.prog 60 #[v, u] w fun e w' => ∃ v', e = .returned v' ∧ Fresh w w' 5 1 v' (bs ++ ms).length (bcells (bs ++ ms)) := by
  have M := Mem.start w
  refine calls_enter Try.func60 rfl 18 rfl rfl ?_; intro a S
  refine nxD ?_
  refine st_go [1] S rfl (by kernel_rfl) ?_; clear S a; intro a S
  refine nxA ?_
  refine st_go [1] S rfl (by kernel_rfl) ?_; clear S a; intro a S
  refine st_y S rfl rfl rfl (y_lenR (E := 5) S rfl (M.arg hv) (by kernel_rfl)) ?_; clear S a; intro a S
  refine st_go [1] S rfl (by kernel_rfl) ?_; clear S a; intro a S
  refine st_y S rfl rfl rfl (y_lenR (E := 5) S rfl (M.arg hu) (by kernel_rfl)) ?_; clear S a; intro a S
  (first | refine st_y S rfl rfl rfl (y_addN S rfl rfl (by omega)) ?_ | refine st_y S rfl rfl rfl (y_int S rfl rfl rfl) ?_); clear S a; intro a S
  refine st_make (e := 5) (sz := 1) (by_ := 1) (zc := [.int .u8 0]) S M rfl rfl (by kernel_rfl) rfl rfl (by omega) (by omega) (by omega) (by omega) ?_; clear S M a; intro a w1 b1 S M hB
  try simp only [Int.toNat_natCast, Int.reduceToNat, Nat.reduceMul] at S M
  refine st_go [1] S rfl (by kernel_rfl) ?_; clear S a; intro a S
  refine nxA ?_
  rw [show ((bs.length : Int) + (ms.length : Int)).toNat = bs.length + ms.length by omega] at S M
  replace M := M.toRow (sz := 1) (m := 0) (cap := bs.length + ms.length) (xs := []) 0 rfl rfl (Nat.zero_le _) (by unfold maxLen; omega) (by simp [madeL_length]) (by simp)
  refine st_y S rfl rfl rfl (y_move S rfl) ?_; clear S a; intro a S
  refine st_go [1] S rfl (by kernel_rfl) ?_; clear S a; intro a S
  refine st_append (e := 5) (sz := 1) (by_ := 1) (zc := [.int .u8 0]) S M 0 rfl rfl (by kernel_rfl) rfl (by decide) rfl rfl rfl (M.arg hv) (allOne_bcells _) (by omega) (by unfold maxLen; omega) ?_; clear S M a; intro a w2 vA loA hiA S M
  refine st_go [1] S rfl (by kernel_rfl) ?_; clear S a; intro a S
  refine nxA ?_
  refine st_go [1, 1] S rfl (by kernel_rfl) ?_; clear S a; intro a S
  refine st_append (e := 5) (sz := 1) (by_ := 1) (zc := [.int .u8 0]) S M 0 rfl rfl (by kernel_rfl) rfl (by decide) rfl rfl rfl (M.arg hu) (allOne_bcells _) (by omega) (by unfold maxLen; omega) ?_; clear S M a; intro a w3 vA loA hiA S M
  refine st_go [1] S rfl (by kernel_rfl) ?_; clear S a; intro a S
  replace S := S.sub [(0, _), (1, _), (5, _), (4, _)] rfl
  refine nxC ?_
  refine wp_ret ?_
  refine end_one S rfl (res_tmp rfl) ?_
  exact ⟨_, rfl, by have := M.fresh 0 rfl; rwa [Nat.zero_add, List.nil_append, ← bcells_append, ← List.length_append] at this⟩

def digs (n : Int) (k : Nat) : List Value := (List.range 6).map fun i => .int .u8 ((if i < k then byteOf (n / 256 ^ i) else 0).toNat : Int)
theorem digs_set (n : Int) (k : Nat) : (digs n k).set k (.int .u8 ((byteOf (n / 256 ^ k)).toNat : Int)) = digs n (k + 1) := by
  apply List.ext_getElem?
  intro i
  rw [List.getElem?_set]
  by_cases h : k = i
  · subst h
    by_cases hk : k < 6
    · simp [digs, hk]
    · simp [digs, hk]
  · rw [if_neg h]
    have e : (i < k) = (i < k + 1) := by simp only [eq_iff_iff]; omega
    by_cases hi : i < 6 <;> simp [digs, hi, e]
theorem digs_take {n : Int} {k : Nat} (hk : k ≤ 6) : (digs n k).take k = bcells (leB n k) := by
  apply List.ext_getElem?
  intro i
  rcases Nat.lt_or_ge i k with h | h
  · rw [List.getElem?_take_of_lt h]
    simp [digs, bcells, leB, h, show i < 6 by omega]
  · rw [List.getElem?_eq_none (by simp; omega), List.getElem?_eq_none (by simp [bcells, leB]; omega)]

open Classical in
noncomputable def putE (n k : Int) : Int := if fitsP n k then 0 else 2
def PutPost (bs : List UInt8) (n k : Int) (w : World) (e : Ending) (w' : World) : Prop :=
  ∃ v', e = .returned (.tuple #[v', .int .i64 (putE n k)]) ∧ Below w.heap.size w w' ∧ (fitsP n k → Fresh w w' 5 1 v' (bs ++ leB n k.toNat).length (bcells (bs ++ leB n k.toNat))) ∧ (¬ fitsP n k → v' = .slice none 0 0)
theorem put_any (v : Value) (bs : List UInt8) (n k : Int) (w : World) (hv : Bs 0 w.heap.size w v bs) (hb : bs.length ≤ 70000000000000) : Calls Try.prog 50 #[v, .int .i64 n, .int .i64 k] w (PutPost bs n k w) := by
  have M := Mem.start w
  refine calls_enter Try.func50 rfl 30 rfl rfl ?_; intro a S
  refine nxD ?_
  refine st_go [1, 1] S rfl (by kernel_rfl) ?_; clear S a; intro a S
  refine nxC ?_
  refine wp_seq ?_
  refine nxD ?_
  refine st_go [1, 1] S rfl (by kernel_rfl) ?_; clear S a; intro a S
  refine st_call (xs := [(Operand.tmp 10), (Operand.tmp 11)]) S (enters_of Try.func59 (by decide) rfl) rfl rfl rfl (fits_any _ _ _) ?_
  rintro _ w1 ⟨rfl, hK⟩; refine ⟨_, rfl, ?_⟩; clear S a; intro a S; replace M := M.grow hK
  refine st_go [1] S rfl (by kernel_rfl) ?_; clear S a; intro a S
  refine nxC ?_
  refine st_split (t := 13) S rfl ?_ ?_
  · clear S; intro h13 S
    refine st_condT S rfl ?_
    refine nxD ?_
    refine st_go [1, 1] S rfl (by kernel_rfl) ?_; clear S a; intro a S
    refine nxC ?_
    refine wp_ret ?_
    refine then_ret ?_
    refine end_two S rfl (res_tmp rfl) (res_tmp rfl) ?_
    have hf : ¬ fitsP n k := by unfold fitsB at h13; simpa using h13
    exact ⟨_, by unfold putE; rw [if_neg hf], M.below, fun h => absurd h hf, fun _ => rfl⟩
  clear S; intro h13 S
  refine st_condF S rfl ?_
  refine wp_skip ?_
  refine nxE ?_
  have hf : fitsP n k := by unfold fitsB at h13; simpa using h13
  obtain ⟨hk1, hk6, hn0, hnk⟩ := hf
  obtain ⟨K, rfl⟩ := Int.eq_ofNat_of_zero_le (show 0 ≤ k by omega)
  refine st_alloc S M rfl rfl #[.int .u8 0, .int .u8 0, .int .u8 0, .int .u8 0, .int .u8 0, .int .u8 0] (by kernel_rfl) ?_; clear S M a; intro a w2 b1 S M hB
  refine nxC ?_
  refine wp_seq ?_
  refine nxD ?_
  refine st_go [1, 1] S rfl (by kernel_rfl) ?_; clear S a; intro a S
  refine nxC ?_
  refine wp_block ?_
  refine wp_loop_g (fun m a w' => ∃ (j : Nat), j ≤ K ∧ m = K - j ∧ Sees 30 a [(0, v), (1, .int .i64 n), (2, .int .i64 (K : Int)), (8, .pointer (some ⟨b1, 0, none⟩)), (14, .int .i64 (K : Int)), (15, .int .i64 (j : Int))] ∧ Mem w w' [.blk b1 (digs n j).toArray 117]) (K) ?_ ?_
  · skip
    exact ⟨0, Nat.zero_le _, rfl, S.sub _ rfl, M⟩
  clear S M a; intro m a wl
  rintro ⟨j, hj, rfl, S, M⟩
  refine nxD ?_
  refine st_go [1] S rfl (by kernel_rfl) ?_; clear S a; intro a S
  refine nxC ?_
  refine wp_seq ?_
  refine st_fi (t := 16) S rfl ?_ ?_
  · clear S; intro h16 S
    refine st_condF S rfl ?_
    refine wp_exit ?_
    refine then_exit ?_
    refine then_exit ?_
    refine block_hit ?_
    refine nxE ?_
    refine st_go [1, 1] S rfl (by kernel_rfl) ?_; clear S a; intro a S
    refine st_y S rfl rfl rfl (y_sliceA02 (m := 6) (sz := 1) S (by kernel_rfl) rfl rfl (by first | omega | (simp; done) | (simp; omega))) ?_; clear S a; intro a S
    obtain rfl : j = K := by omega
    have hd : Bs 0 wl.heap.size wl (.slice (some ⟨b1, 0, none⟩) j 6) (leB n j) := by
      unfold Bs; rw [leB_length]
      exact (Rd.of_blk (M.blk 0 rfl) (by simp [bcells, leB]) (by omega) (by unfold maxLen; omega) (by rw [Nat.mul_one]; exact digs_take (by omega))).wide (Nat.zero_le _) (M.fits _ (List.mem_of_getElem? (show _[0]? = _ from rfl))).2
    refine st_call (xs := [(Operand.tmp 26), (Operand.tmp 28)]) S (enters_of Try.func60 (by decide) rfl) rfl rfl rfl (behind_any v _ bs (leB n j) _ (M.argW hv) hd hb (by rw [leB_length]; omega)) ?_
    rintro _ w4 ⟨v', rfl, hF⟩; refine ⟨_, rfl, ?_⟩; clear S a; intro a S
    obtain ⟨lo, hi, -, M⟩ := M.pushFresh hF
    refine st_go [1, 1] S rfl (by kernel_rfl) ?_; clear S a; intro a S
    refine nxC ?_
    refine wp_ret ?_
    refine end_two S rfl (res_tmp rfl) (res_tmp rfl) ?_
    have hf : fitsP n (j : Int) := ⟨hk1, hk6, hn0, hnk⟩
    exact ⟨_, by unfold putE; rw [if_pos hf], M.below, fun _ => by
      rw [Int.toNat_natCast]; exact M.fresh 0 rfl, fun h => absurd hf h⟩
  clear S; intro h16 S
  refine st_condT S rfl ?_
  refine wp_skip ?_
  refine then_normal ?_
  refine wp_seq ?_
  refine wp_block ?_
  refine nxD ?_
  refine st_go [1, 1] S rfl (by kernel_rfl) ?_; clear S a; intro a S
  refine nxB ?_
  refine st_go [1, 1, 1] S rfl (by kernel_rfl) ?_; clear S a; intro a S
  (first | refine st_y S rfl rfl rfl (y_mulN S rfl rfl (by omega)) ?_ | refine st_y S rfl rfl rfl (y_int S rfl rfl rfl) ?_); clear S a; intro a S
  (first | refine st_y S rfl rfl rfl (y_shrN S rfl rfl (by omega)) ?_ | refine st_y S rfl rfl rfl (y_shr S rfl rfl (by omega)) ?_); clear S a; intro a S
  refine st_y S rfl rfl rfl (y_to8 S rfl (by kernel_rfl) (by kernel_rfl)) ?_; clear S a; intro a S
  refine st_y S rfl rfl rfl (y_indexA (m := 6) (sz := 1) S (by kernel_rfl) rfl rfl (by first | omega | (simp; done) | (simp; omega))) ?_; clear S a; intro a S
  try simp only [Int.toNat_natCast, Nat.mul_one, Nat.zero_add] at S
  refine st_store (sz := 1) (us := [_]) S M 0 rfl (by kernel_rfl) rfl rfl rfl rfl rfl rfl (by simp [digs]; omega) ?_; clear M; intro w3 M
  simp only [List.set_cons_zero, List.set_cons_succ] at M
  refine wpList_nil ?_
  refine block_normal ?_
  refine nxF ?_
  (first | refine st_y S rfl rfl rfl (y_addN S rfl rfl (by omega)) ?_ | refine st_y S rfl rfl rfl (y_int S rfl rfl rfl) ?_); clear S a; intro a S
  refine st_go [1] S rfl (by kernel_rfl) ?_; clear S a; intro a S
  refine nxC ?_
  have e8 : n / 2 ^ ((8 : Int) * (j : Int)).toNat = n / 256 ^ j := by rw [show ((8 : Int) * (j : Int)).toNat = 8 * j by omega, pow8]
  refine ⟨K - (j + 1), by omega, j + 1, by omega, rfl, S.sub _ rfl, ?_⟩
  rw [← digs_set, ← e8]; exact M

open Classical in
noncomputable def getE (bs : List UInt8) (at_ k : Int) : Int := if k < 1 ∨ 6 < k then 2 else if at_ < 0 ∨ (bs.length : Int) - k < at_ then 40 else 0
def getN (bs : List UInt8) (at_ k : Int) : Int := if (1 ≤ k ∧ k ≤ 6) ∧ 0 ≤ at_ ∧ at_ ≤ (bs.length : Int) - k then (leN ((bs.drop at_.toNat).take k.toNat) : Int) else 0
theorem get_any (v : Value) (bs : List UInt8) (at_ k : Int) (w : World) (hv : Bs 0 w.heap.size w v bs) (hk : -9223372036854775808 ≤ k) : Calls Try.prog 63 #[v, .int .i64 at_, .int .i64 k] w fun e w' => e = .returned (.tuple #[.int .i64 (getN bs at_ k), .int .i64 (getE bs at_ k)]) ∧ Below w.heap.size w w' := by
  have M := Mem.start w
  have hl := hv.2.1
  unfold maxLen at hl
  refine calls_enter Try.func63 rfl 44 rfl rfl ?_; intro a S
  refine nxD ?_
  refine st_go [1, 1] S rfl (by kernel_rfl) ?_; clear S a; intro a S
  refine nxC ?_
  refine wp_seq ?_
  refine nxD ?_
  refine st_go [1, 1, 1] S rfl (by kernel_rfl) ?_; clear S a; intro a S
  refine st_if (t := 12) S rfl ?_ ?_
  · clear S; intro h12 S
    refine st_go [0, 0, 1] S rfl (by kernel_rfl) ?_; clear S a; intro a S
    refine nxC ?_
    refine st_condT S rfl ?_
    refine nxD ?_
    refine st_go [1, 1] S rfl (by kernel_rfl) ?_; clear S a; intro a S
    refine nxC ?_
    refine wp_ret ?_
    refine then_ret ?_
    refine end_two S rfl (res_tmp rfl) (res_tmp rfl) ?_
    refine ⟨?_, M.below⟩; unfold getN getE; rw [if_neg (by omega), if_pos (by omega)]
  clear S; intro h12 S
  refine st_go [1, 1, 1] S rfl (by kernel_rfl) ?_; clear S a; intro a S
  refine nxC ?_
  refine st_if (t := 15) S rfl ?_ ?_
  · clear S; intro h15 S
    refine st_condT S rfl ?_
    refine nxD ?_
    refine st_go [1, 1] S rfl (by kernel_rfl) ?_; clear S a; intro a S
    refine nxC ?_
    refine wp_ret ?_
    refine then_ret ?_
    refine end_two S rfl (res_tmp rfl) (res_tmp rfl) ?_
    refine ⟨?_, M.below⟩; unfold getN getE; rw [if_neg (by omega), if_pos (by omega)]
  clear S; intro h15 S
  refine st_condF S rfl ?_
  refine wp_skip ?_
  refine then_normal ?_
  refine wp_seq ?_
  refine nxD ?_
  refine st_go [1, 1, 1] S rfl (by kernel_rfl) ?_; clear S a; intro a S
  refine st_if (t := 18) S rfl ?_ ?_
  · clear S; intro h18 S
    refine st_go [0, 0, 0, 0, 0, 0, 1] S rfl (by kernel_rfl) ?_; clear S a; intro a S
    replace S := S.sub [(0, _), (1, _), (2, _), (6, _), (7, _), (15, _), (25, _)] rfl
    refine nxC ?_
    refine st_condT S rfl ?_
    refine nxD ?_
    refine st_go [1, 1] S rfl (by kernel_rfl) ?_; clear S a; intro a S
    refine nxC ?_
    refine wp_ret ?_
    refine then_ret ?_
    refine end_two S rfl (res_tmp rfl) (res_tmp rfl) ?_
    refine ⟨?_, M.below⟩; unfold getN getE; rw [if_neg (by omega), if_neg (by omega), if_pos (by omega)]
  clear S; intro h18 S
  refine st_go [1, 1] S rfl (by kernel_rfl) ?_; clear S a; intro a S
  refine st_y S rfl rfl rfl (y_lenR (E := 5) S rfl (M.arg hv) (by kernel_rfl)) ?_; clear S a; intro a S
  refine st_go [1] S rfl (by kernel_rfl) ?_; clear S a; intro a S
  (first | refine st_y S rfl rfl rfl (y_subN S rfl rfl (by omega)) ?_ | refine st_y S rfl rfl rfl (y_int S rfl rfl rfl) ?_); clear S a; intro a S
  refine st_go [1, 1] S rfl (by kernel_rfl) ?_; clear S a; intro a S
  replace S := S.sub [(0, _), (1, _), (2, _), (6, _), (7, _), (15, _), (25, _)] rfl
  refine nxC ?_
  refine st_if (t := 25) S rfl ?_ ?_
  · clear S; intro h25 S
    refine st_condT S rfl ?_
    refine nxD ?_
    refine st_go [1, 1] S rfl (by kernel_rfl) ?_; clear S a; intro a S
    refine nxC ?_
    refine wp_ret ?_
    refine then_ret ?_
    refine end_two S rfl (res_tmp rfl) (res_tmp rfl) ?_
    refine ⟨?_, M.below⟩; unfold getN getE; rw [if_neg (by omega), if_neg (by omega), if_pos (by omega)]
  clear S; intro h25 S
  refine st_condF S rfl ?_
  refine wp_skip ?_
  refine nxE ?_
  obtain ⟨K, rfl⟩ := Int.eq_ofNat_of_zero_le (show 0 ≤ k by omega)
  obtain ⟨A, rfl⟩ := Int.eq_ofNat_of_zero_le h18
  refine st_y S rfl rfl rfl (y_assign S rfl) ?_; clear S a; intro a S
  refine nxC ?_
  refine wp_seq ?_
  refine nxD ?_
  refine st_go [1, 1] S rfl (by kernel_rfl) ?_; clear S a; intro a S
  refine nxC ?_
  refine wp_block ?_
  refine wp_loop_g (fun m a w' => ∃ (j : Nat), j ≤ K ∧ m = K - j ∧ Sees 44 a [(0, v), (1, .int .i64 (A : Int)), (2, .int .i64 (K : Int)), (8, .int .i64 ((leN ((bs.drop A).take j) : Nat) : Int)), (26, .int .i64 (K : Int)), (27, .int .i64 (j : Int))] ∧ Mem w w' []) (K) ?_ ?_
  · skip
    exact ⟨0, Nat.zero_le _, rfl, S.sub _ rfl, M⟩
  clear S M a; intro m a wl
  rintro ⟨j, hj, rfl, S, M⟩
  refine nxD ?_
  refine st_go [1] S rfl (by kernel_rfl) ?_; clear S a; intro a S
  refine nxC ?_
  refine wp_seq ?_
  refine st_fi (t := 28) S rfl ?_ ?_
  · clear S; intro h28 S
    refine st_condF S rfl ?_
    refine wp_exit ?_
    refine then_exit ?_
    refine then_exit ?_
    refine block_hit ?_
    refine nxE ?_
    refine st_go [1, 1, 1] S rfl (by kernel_rfl) ?_; clear S a; intro a S
    refine nxC ?_
    refine wp_ret ?_
    refine end_two S rfl (res_tmp rfl) (res_tmp rfl) ?_
    obtain rfl : j = K := by omega
    refine ⟨?_, M.below⟩
    unfold getN getE
    rw [if_pos (by omega), if_neg (by omega), if_neg (by omega), Int.toNat_natCast, Int.toNat_natCast]
  clear S; intro h28 S
  refine st_condT S rfl ?_
  refine wp_skip ?_
  refine then_normal ?_
  refine wp_seq ?_
  refine wp_block ?_
  refine nxD ?_
  refine st_go [1, 1] S rfl (by kernel_rfl) ?_; clear S a; intro a S
  refine nxB ?_
  have hj5 : j ≤ 5 := by omega
  obtain ⟨x, hx⟩ : ∃ x, (bs.drop A)[j]? = some x := ⟨_, List.getElem?_eq_getElem (by simp; omega)⟩
  have hx' : bs[((A : Int) + (j : Int)).toNat]? = some x := by rw [show ((A : Int) + (j : Int)).toNat = A + j by omega, ← List.getElem?_drop]; exact hx
  obtain ⟨hs1, hs2⟩ := sh_bd x j hj5
  have hx256 : x.toNat < 256 := UInt8.toNat_lt x
  have hl1 := leN_lt ((bs.drop A).take j)
  have hl2 : leN ((bs.drop A).take j) < 2 ^ 40 := Nat.lt_of_lt_of_le hl1 (by
    rw [show (256 : Nat) = 2 ^ 8 from rfl, ← Nat.pow_mul]; exact Nat.pow_le_pow_right (by omega) (by simp; omega))
  refine st_y S rfl rfl rfl (y_move S rfl) ?_; clear S a; intro a S
  refine st_go [1, 1, 1] S rfl (by kernel_rfl) ?_; clear S a; intro a S
  (first | refine st_y S rfl rfl rfl (y_addN S rfl rfl (by omega)) ?_ | refine st_y S rfl rfl rfl (y_int S rfl rfl rfl) ?_); clear S a; intro a S
  refine st_y S rfl rfl rfl (y_indexR (e := 5) (sz := 1) S (by kernel_rfl) rfl (M.arg hv) rfl (by first | omega | (simp; done) | (simp; omega))) ?_; clear S a; intro a S
  try simp only [Int.toNat_natCast, Nat.mul_one, Nat.zero_add] at S
  refine st_y S rfl rfl rfl (y_load S (by kernel_rfl) rfl ((M.arg hv).byte hx')) ?_; clear S a; intro a S
  (first | refine st_y S rfl rfl rfl (y_to64 S rfl (by kernel_rfl) (by kernel_rfl) (by omega)) ?_ | refine st_y S rfl rfl rfl (y_conv (k' := .i64) S rfl (by kernel_rfl) (by kernel_rfl)) ?_); clear S a; intro a S
  refine st_go [1] S rfl (by kernel_rfl) ?_; clear S a; intro a S
  (first | refine st_y S rfl rfl rfl (y_mulN S rfl rfl (by omega)) ?_ | refine st_y S rfl rfl rfl (y_int S rfl rfl rfl) ?_); clear S a; intro a S
  (first | refine st_y S rfl rfl rfl (y_shlN S rfl rfl (by omega) (by rw [hs1]; omega)) ?_ | refine st_y S rfl rfl rfl (y_shl S rfl rfl (by omega)) ?_); clear S a; intro a S
  rw [hs1] at S
  (first | refine st_y S rfl rfl rfl (y_orN S rfl rfl (by omega) (by omega)) ?_ | refine st_y S rfl rfl rfl (y_int S rfl rfl rfl) ?_); clear S a; intro a S
  refine st_go [1] S rfl (by kernel_rfl) ?_; clear S a; intro a S
  replace S := S.sub [(0, _), (1, _), (2, _), (26, _), (27, _), (28, _), (9, _), (8, _)] rfl
  refine wpList_nil ?_
  refine block_normal ?_
  refine nxF ?_
  (first | refine st_y S rfl rfl rfl (y_addN S rfl rfl (by omega)) ?_ | refine st_y S rfl rfl rfl (y_int S rfl rfl rfl) ?_); clear S a; intro a S
  refine st_go [1] S rfl (by kernel_rfl) ?_; clear S a; intro a S
  refine nxC ?_
  refine ⟨K - (j + 1), by omega, j + 1, by omega, rfl, ?_, M⟩
  rw [← leN_snoc hx]; exact S.sub _ rfl

end Go.Proofs.Ytafejnbfgkkjkaa
