/-
  Package pack: Fits, behind, Put.
-/
import Derived.Test.YtbaoodlkcbiclaaVA
namespace Go.Proofs.Ytbaoodlkcbiclaa
open Go.RowKit Go.Sort

/-- does n fit into k bytes? -/
def fitsP (n k : Int) : Prop := 1 ≤ k ∧ k ≤ 6 ∧ 0 ≤ n ∧ n < 256 ^ k.toNat
theorem pow8 (k : Nat) : (2 : Int) ^ (8 * k) = 256 ^ k := by rw [Int.pow_mul]; rfl
open Classical in
noncomputable def fitsB (n k : Int) : Bool := decide (fitsP n k)

theorem fits_any (n k : Int) (w : World) : Calls Try.prog 83 #[.int .i64 n, .int .i64 k] w fun e w' => e = .returned (.bool (fitsB n k)) ∧ Below w.heap.size w w' := by
  have M := Mem.start w
  have key : ∀ b : Bool, (b = true ↔ fitsP n k) → b = fitsB n k := fun b h => by unfold fitsB; rw [Bool.eq_iff_iff, h]; simp
  refine calls_enter Try.func83 rfl 22 rfl rfl ?_; intro a S
  refine wp_seq ?_
  -- region 0 pack.go:46
  refine wp_region_lit ?_
  refine st_y S rfl rfl rfl (y_assign S rfl) ?_; clear S a; intro a S
  refine wpList_nil ?_
  replace S := S.sub [(0, _), (1, _), (4, _)] rfl
  refine then_normal ?_
  refine wp_seq ?_
  -- region 1 pack.go:47
  refine wp_region_lit ?_
  refine st_y S rfl rfl rfl (y_move S rfl) ?_; clear S a; intro a S
  refine st_y S rfl rfl rfl (y_int S rfl rfl rfl) ?_; clear S a; intro a S
  refine st_y S rfl rfl rfl (y_move S rfl) ?_; clear S a; intro a S
  refine st_split (t := 7) S rfl ?_ ?_
  · clear S; intro h7 S
    first | replace h7 := nrmA h7 | replace h7 := nrmB h7 | skip
    first | replace h7 := nrm1 h7 | replace h7 := nrm2 h7 | replace h7 := nrm3 h7 | replace h7 := nrm4 h7 | replace h7 := nrm5 h7 | replace h7 := nrm6 h7 | replace h7 := of_decide_eq_true h7 | replace h7 := of_decide_eq_false h7 | skip
    refine st_y S rfl rfl rfl (y_move S rfl) ?_; clear S a; intro a S
    refine st_y S rfl rfl rfl (y_int S rfl rfl rfl) ?_; clear S a; intro a S
    refine st_y S rfl rfl rfl (y_pickT S rfl rfl) ?_; clear S a; intro a S
    refine st_y S rfl rfl rfl (y_move S rfl) ?_; clear S a; intro a S
    refine st_split (t := 11) S rfl ?_ ?_
    · clear S; intro h11 S
      first | replace h11 := nrmA h11 | replace h11 := nrmB h11 | skip
      first | replace h11 := nrm1 h11 | replace h11 := nrm2 h11 | replace h11 := nrm3 h11 | replace h11 := nrm4 h11 | replace h11 := nrm5 h11 | replace h11 := nrm6 h11 | replace h11 := of_decide_eq_true h11 | replace h11 := of_decide_eq_false h11 | skip
      refine st_y S rfl rfl rfl (y_move S rfl) ?_; clear S a; intro a S
      refine st_y S rfl rfl rfl (y_int S rfl rfl rfl) ?_; clear S a; intro a S
      refine st_y S rfl rfl rfl (y_pickT S rfl rfl) ?_; clear S a; intro a S
      refine st_y S rfl rfl rfl (y_move S rfl) ?_; clear S a; intro a S
      refine st_split (t := 15) S rfl ?_ ?_
      · clear S; intro h15 S
        first | replace h15 := nrmA h15 | replace h15 := nrmB h15 | skip
        first | replace h15 := nrm1 h15 | replace h15 := nrm2 h15 | replace h15 := nrm3 h15 | replace h15 := nrm4 h15 | replace h15 := nrm5 h15 | replace h15 := nrm6 h15 | replace h15 := of_decide_eq_true h15 | replace h15 := of_decide_eq_false h15 | skip
        refine st_y S rfl rfl rfl (y_move S rfl) ?_; clear S a; intro a S
        refine st_y S rfl rfl rfl (y_move S rfl) ?_; clear S a; intro a S
        (first | refine st_y S rfl rfl rfl (y_mulN S rfl rfl (by omega)) ?_ | refine st_y S rfl rfl rfl (y_int S rfl rfl rfl) ?_); clear S a; intro a S
        (first | refine st_y S rfl rfl rfl (y_shrN S rfl rfl (by omega)) ?_ | refine st_y S rfl rfl rfl (y_shr S rfl rfl (by omega)) ?_); clear S a; intro a S
        refine st_y S rfl rfl rfl (y_int S rfl rfl rfl) ?_; clear S a; intro a S
        refine st_y S rfl rfl rfl (y_pickT S rfl rfl) ?_; clear S a; intro a S
        refine st_y S rfl rfl rfl (y_assign S rfl) ?_; clear S a; intro a S
        refine wpList_nil ?_
        replace S := S.sub [(0, _), (1, _), (4, _)] rfl
        refine then_normal ?_
        refine wp_ret ?_
        refine end_one S rfl (res_tmp rfl) ?_
        refine ⟨ret_bool (key _ ?_), M.below⟩
        unfold fitsP
        first
          | (simp; omega)
          | (have h8 : ((8 : Int) * k).toNat = 8 * k.toNat := by omega
             rw [h8, pow8]
             have hp : (0 : Int) < 256 ^ k.toNat := Int.pow_pos (by omega)
             simp only [beq_iff_eq]
             constructor
             · intro h
               refine ⟨by omega, by omega, by omega, ?_⟩
               rcases Int.lt_or_le n (256 ^ k.toNat) with hlt | hle
               · exact hlt
               · have := Int.le_ediv_of_mul_le (a := 1) (b := n) hp (by omega)
                 omega
             · rintro ⟨_, _, h3, h4⟩
               exact Int.ediv_eq_zero_of_lt h3 h4)
      · clear S; intro h15 S
        first | replace h15 := nrmA h15 | replace h15 := nrmB h15 | skip
        first | replace h15 := nrm1 h15 | replace h15 := nrm2 h15 | replace h15 := nrm3 h15 | replace h15 := nrm4 h15 | replace h15 := nrm5 h15 | replace h15 := nrm6 h15 | replace h15 := of_decide_eq_true h15 | replace h15 := of_decide_eq_false h15 | skip
        refine st_no S rfl rfl rfl ?_; clear S a; intro a S
        refine st_no S rfl rfl rfl ?_; clear S a; intro a S
        refine st_no S rfl rfl rfl ?_; clear S a; intro a S
        refine st_no S rfl rfl rfl ?_; clear S a; intro a S
        refine st_no S rfl rfl rfl ?_; clear S a; intro a S
        refine st_y S rfl rfl rfl (y_pickF S rfl rfl) ?_; clear S a; intro a S
        refine st_y S rfl rfl rfl (y_assign S rfl) ?_; clear S a; intro a S
        refine wpList_nil ?_
        replace S := S.sub [(0, _), (1, _), (4, _)] rfl
        refine then_normal ?_
        refine wp_ret ?_
        refine end_one S rfl (res_tmp rfl) ?_
        refine ⟨ret_bool (key _ ?_), M.below⟩
        unfold fitsP
        first
          | (simp; omega)
          | (have h8 : ((8 : Int) * k).toNat = 8 * k.toNat := by omega
             rw [h8, pow8]
             have hp : (0 : Int) < 256 ^ k.toNat := Int.pow_pos (by omega)
             simp only [beq_iff_eq]
             constructor
             · intro h
               refine ⟨by omega, by omega, by omega, ?_⟩
               rcases Int.lt_or_le n (256 ^ k.toNat) with hlt | hle
               · exact hlt
               · have := Int.le_ediv_of_mul_le (a := 1) (b := n) hp (by omega)
                 omega
             · rintro ⟨_, _, h3, h4⟩
               exact Int.ediv_eq_zero_of_lt h3 h4)
    · clear S; intro h11 S
      first | replace h11 := nrmA h11 | replace h11 := nrmB h11 | skip
      first | replace h11 := nrm1 h11 | replace h11 := nrm2 h11 | replace h11 := nrm3 h11 | replace h11 := nrm4 h11 | replace h11 := nrm5 h11 | replace h11 := nrm6 h11 | replace h11 := of_decide_eq_true h11 | replace h11 := of_decide_eq_false h11 | skip
      refine st_no S rfl rfl rfl ?_; clear S a; intro a S
      refine st_no S rfl rfl rfl ?_; clear S a; intro a S
      refine st_y S rfl rfl rfl (y_pickF S rfl rfl) ?_; clear S a; intro a S
      refine st_y S rfl rfl rfl (y_move S rfl) ?_; clear S a; intro a S
      refine st_no S rfl rfl rfl ?_; clear S a; intro a S
      refine st_no S rfl rfl rfl ?_; clear S a; intro a S
      refine st_no S rfl rfl rfl ?_; clear S a; intro a S
      refine st_no S rfl rfl rfl ?_; clear S a; intro a S
      refine st_no S rfl rfl rfl ?_; clear S a; intro a S
      refine st_y S rfl rfl rfl (y_pickF S rfl rfl) ?_; clear S a; intro a S
      refine st_y S rfl rfl rfl (y_assign S rfl) ?_; clear S a; intro a S
      refine wpList_nil ?_
      replace S := S.sub [(0, _), (1, _), (4, _)] rfl
      refine then_normal ?_
      refine wp_ret ?_
      refine end_one S rfl (res_tmp rfl) ?_
      refine ⟨ret_bool (key _ ?_), M.below⟩
      unfold fitsP
      first
        | (simp; omega)
        | (have h8 : ((8 : Int) * k).toNat = 8 * k.toNat := by omega
           rw [h8, pow8]
           have hp : (0 : Int) < 256 ^ k.toNat := Int.pow_pos (by omega)
           simp only [beq_iff_eq]
           constructor
           · intro h
             refine ⟨by omega, by omega, by omega, ?_⟩
             rcases Int.lt_or_le n (256 ^ k.toNat) with hlt | hle
             · exact hlt
             · have := Int.le_ediv_of_mul_le (a := 1) (b := n) hp (by omega)
               omega
           · rintro ⟨_, _, h3, h4⟩
             exact Int.ediv_eq_zero_of_lt h3 h4)
  · clear S; intro h7 S
    first | replace h7 := nrmA h7 | replace h7 := nrmB h7 | skip
    first | replace h7 := nrm1 h7 | replace h7 := nrm2 h7 | replace h7 := nrm3 h7 | replace h7 := nrm4 h7 | replace h7 := nrm5 h7 | replace h7 := nrm6 h7 | replace h7 := of_decide_eq_true h7 | replace h7 := of_decide_eq_false h7 | skip
    refine st_no S rfl rfl rfl ?_; clear S a; intro a S
    refine st_no S rfl rfl rfl ?_; clear S a; intro a S
    refine st_y S rfl rfl rfl (y_pickF S rfl rfl) ?_; clear S a; intro a S
    refine st_y S rfl rfl rfl (y_move S rfl) ?_; clear S a; intro a S
    refine st_no S rfl rfl rfl ?_; clear S a; intro a S
    refine st_no S rfl rfl rfl ?_; clear S a; intro a S
    refine st_y S rfl rfl rfl (y_pickF S rfl rfl) ?_; clear S a; intro a S
    refine st_y S rfl rfl rfl (y_move S rfl) ?_; clear S a; intro a S
    refine st_no S rfl rfl rfl ?_; clear S a; intro a S
    refine st_no S rfl rfl rfl ?_; clear S a; intro a S
    refine st_no S rfl rfl rfl ?_; clear S a; intro a S
    refine st_no S rfl rfl rfl ?_; clear S a; intro a S
    refine st_no S rfl rfl rfl ?_; clear S a; intro a S
    refine st_y S rfl rfl rfl (y_pickF S rfl rfl) ?_; clear S a; intro a S
    refine st_y S rfl rfl rfl (y_assign S rfl) ?_; clear S a; intro a S
    refine wpList_nil ?_
    replace S := S.sub [(0, _), (1, _), (4, _)] rfl
    refine then_normal ?_
    refine wp_ret ?_
    refine end_one S rfl (res_tmp rfl) ?_
    refine ⟨ret_bool (key _ ?_), M.below⟩
    unfold fitsP
    first
      | (simp; omega)
      | (have h8 : ((8 : Int) * k).toNat = 8 * k.toNat := by omega
         rw [h8, pow8]
         have hp : (0 : Int) < 256 ^ k.toNat := Int.pow_pos (by omega)
         simp only [beq_iff_eq]
         constructor
         · intro h
           refine ⟨by omega, by omega, by omega, ?_⟩
           rcases Int.lt_or_le n (256 ^ k.toNat) with hlt | hle
           · exact hlt
           · have := Int.le_ediv_of_mul_le (a := 1) (b := n) hp (by omega)
             omega
         · rintro ⟨_, _, h3, h4⟩
           exact Int.ediv_eq_zero_of_lt h3 h4)

theorem madeL_length' (zc : List Value) (k : Nat) : (madeL zc k).toArray.size = k * 1 := by simp [madeL_length]
theorem behind_any (v u : Value) (bs ms : List UInt8) (w : World) (hv : Bs 0 w.heap.size w v bs) (hu : Bs 0 w.heap.size w u ms) (hb : bs.length ≤ 70000000000000) (hm : ms.length ≤ 70000000000000) :
    Calls Try.prog 84 #[v, u] w fun e w' => ∃ v', e = .returned v' ∧ Fresh w w' 5 1 v' (bs ++ ms).length (bcells (bs ++ ms)) := by
  have M := Mem.start w
  refine calls_enter Try.func84 rfl 18 rfl rfl ?_; intro a S
  refine wp_seq ?_
  -- region 0 pack.go:12
  refine wp_region_lit ?_
  refine st_y S rfl rfl rfl (y_assign S rfl) ?_; clear S a; intro a S
  refine wpList_nil ?_
  replace S := S.sub [(0, _), (1, _), (4, _)] rfl
  refine then_normal ?_
  refine wp_seq ?_
  -- region 1 pack.go:13
  refine wp_region_lit ?_
  refine st_y S rfl rfl rfl (y_move S rfl) ?_; clear S a; intro a S
  refine st_y S rfl rfl rfl (y_lenR (E := 5) S rfl (M.arg hv) (by kernel_rfl)) ?_; clear S a; intro a S
  refine st_y S rfl rfl rfl (y_move S rfl) ?_; clear S a; intro a S
  refine st_y S rfl rfl rfl (y_lenR (E := 5) S rfl (M.arg hu) (by kernel_rfl)) ?_; clear S a; intro a S
  (first | refine st_y S rfl rfl rfl (y_addN S rfl rfl (by omega)) ?_ | refine st_y S rfl rfl rfl (y_int S rfl rfl rfl) ?_); clear S a; intro a S
  refine st_make (e := 5) (sz := 1) (by_ := 1) (zc := [.int .u8 0]) S M rfl rfl (by kernel_rfl) rfl rfl (by omega) (by omega) (by omega) (by omega) ?_; clear S M a; intro a w1 b1 S M hB
  try simp only [Int.toNat_natCast, Int.reduceToNat, Nat.reduceMul] at S M
  refine st_y S rfl rfl rfl (y_assign S rfl) ?_; clear S a; intro a S
  refine wpList_nil ?_
  replace S := S.sub [(0, _), (1, _), (4, _), (5, _)] rfl
  refine then_normal ?_
  refine wp_seq ?_
  -- region 2 pack.go:14
  refine wp_region_lit ?_
  rw [show ((bs.length : Int) + (ms.length : Int)).toNat = bs.length + ms.length by omega] at S M
  replace M := M.toRow (sz := 1) (m := 0) (cap := bs.length + ms.length) (xs := []) 0 rfl rfl (Nat.zero_le _) (by unfold maxLen; omega) (by simp [madeL_length]) (by simp)
  refine st_y S rfl rfl rfl (y_move S rfl) ?_; clear S a; intro a S
  refine st_y S rfl rfl rfl (y_move S rfl) ?_; clear S a; intro a S
  refine st_append (e := 5) (sz := 1) (by_ := 1) (zc := [.int .u8 0]) S M 0 rfl rfl (by kernel_rfl) rfl (by decide) rfl rfl rfl (M.arg hv) (allOne_bcells _) (by omega) (by unfold maxLen; omega) ?_; clear S M a; intro a w2 vA loA hiA S M
  refine st_y S rfl rfl rfl (y_assign S rfl) ?_; clear S a; intro a S
  refine wpList_nil ?_
  replace S := S.sub [(0, _), (1, _), (4, _), (5, _)] rfl
  refine then_normal ?_
  refine wp_seq ?_
  -- region 3 pack.go:15
  refine wp_region_lit ?_
  refine st_y S rfl rfl rfl (y_move S rfl) ?_; clear S a; intro a S
  refine st_y S rfl rfl rfl (y_move S rfl) ?_; clear S a; intro a S
  refine st_append (e := 5) (sz := 1) (by_ := 1) (zc := [.int .u8 0]) S M 0 rfl rfl (by kernel_rfl) rfl (by decide) rfl rfl rfl (M.arg hu) (allOne_bcells _) (by omega) (by unfold maxLen; omega) ?_; clear S M a; intro a w3 vA loA hiA S M
  refine st_y S rfl rfl rfl (y_assign S rfl) ?_; clear S a; intro a S
  refine wpList_nil ?_
  replace S := S.sub [(0, _), (1, _), (5, _), (4, _)] rfl
  refine then_normal ?_
  refine wp_ret ?_
  refine end_one S rfl (res_tmp rfl) ?_
  exact ⟨_, rfl, by have := M.fresh 0 rfl; rwa [Nat.zero_add, List.nil_append, ← bcells_append, ← List.length_append] at this⟩

/-- a number's bytes, the lowest first -/
def leB (n : Int) (k : Nat) : List UInt8 := (List.range k).map fun i => byteOf (n / 256 ^ i)
def digs (n : Int) (k : Nat) : List Value := (List.range 6).map fun i => .int .u8 ((if i < k then byteOf (n / 256 ^ i) else 0).toNat : Int)
theorem digs_set (n : Int) (k : Nat) : (digs n k).set k (.int .u8 ((byteOf (n / 256 ^ k)).toNat : Int)) = digs n (k + 1) := by
  apply List.ext_getElem?
  intro i
  rw [List.getElem?_set]
  by_cases h : k = i
  · subst h
    by_cases hk : k < 6
    · simp [digs, hk]
    · simp [digs, hk]
  · rw [if_neg h]
    have e : (i < k) = (i < k + 1) := by simp only [eq_iff_iff]; omega
    by_cases hi : i < 6 <;> simp [digs, hi, e]
theorem digs_take {n : Int} {k : Nat} (hk : k ≤ 6) : (digs n k).take k = bcells (leB n k) := by
  apply List.ext_getElem?
  intro i
  rcases Nat.lt_or_ge i k with h | h
  · rw [List.getElem?_take_of_lt h]
    simp [digs, bcells, leB, h, show i < 6 by omega]
  · rw [List.getElem?_eq_none (by simp; omega), List.getElem?_eq_none (by simp [bcells, leB]; omega)]
theorem leB_length (n : Int) (k : Nat) : (leB n k).length = k := by simp [leB]

open Classical in
noncomputable def putE (n k : Int) : Int := if fitsP n k then 0 else 2
def PutPost (bs : List UInt8) (n k : Int) (w : World) (e : Ending) (w' : World) : Prop :=
  ∃ v', e = .returned (.tuple #[v', .int .i64 (putE n k)]) ∧ Below w.heap.size w w' ∧ (fitsP n k → Fresh w w' 5 1 v' (bs ++ leB n k.toNat).length (bcells (bs ++ leB n k.toNat))) ∧ (¬ fitsP n k → v' = .slice none 0 0)
theorem put_any (v : Value) (bs : List UInt8) (n k : Int) (w : World) (hv : Bs 0 w.heap.size w v bs) (hb : bs.length ≤ 70000000000000) : Calls Try.prog 70 #[v, .int .i64 n, .int .i64 k] w (PutPost bs n k w) := by
  have M := Mem.start w
  refine calls_enter Try.func70 rfl 30 rfl rfl ?_; intro a S
  refine wp_seq ?_
  -- region 0 pack.go:19
  refine wp_region_lit ?_
  refine st_y S rfl rfl rfl (y_assign S rfl) ?_; clear S a; intro a S
  refine st_y S rfl rfl rfl (y_assign S rfl) ?_; clear S a; intro a S
  refine wpList_nil ?_
  replace S := S.sub [(0, _), (1, _), (2, _), (6, _), (7, _)] rfl
  refine then_normal ?_
  refine wp_seq ?_
  refine wp_seq ?_
  -- region 1 pack.go:20
  refine wp_region_lit ?_
  refine st_y S rfl rfl rfl (y_move S rfl) ?_; clear S a; intro a S
  refine st_y S rfl rfl rfl (y_move S rfl) ?_; clear S a; intro a S
  refine st_call (xs := [(Operand.tmp 10), (Operand.tmp 11)]) S (enters_of Try.func83 (by decide) rfl) rfl rfl rfl (fits_any _ _ _) ?_
  rintro _ w1 ⟨rfl, hK⟩; refine ⟨_, rfl, ?_⟩; clear S a; intro a S; replace M := M.grow hK
  refine st_y S rfl rfl rfl (y_not S rfl) ?_; clear S a; intro a S
  refine wpList_nil ?_
  replace S := S.sub [(0, _), (1, _), (2, _), (6, _), (7, _), (13, _)] rfl
  refine then_normal ?_
  refine st_split (t := 13) S rfl ?_ ?_
  · clear S; intro h13 S
    refine st_condT S rfl ?_
    refine wp_seq ?_
    -- region 2 pack.go:21
    refine wp_region_lit ?_
    refine st_y S rfl rfl rfl (y_assign S rfl) ?_; clear S a; intro a S
    refine st_y S rfl rfl rfl (y_assign S rfl) ?_; clear S a; intro a S
    refine wpList_nil ?_
    replace S := S.sub [(0, _), (1, _), (2, _), (13, _), (6, _), (7, _)] rfl
    refine then_normal ?_
    refine wp_ret ?_
    refine then_ret ?_
    refine end_two S rfl (res_tmp rfl) (res_tmp rfl) ?_
    have hf : ¬ fitsP n k := by unfold fitsB at h13; simpa using h13
    exact ⟨_, by unfold putE; rw [if_neg hf], M.below, fun h => absurd h hf, fun _ => rfl⟩
  · clear S; intro h13 S
    refine st_condF S rfl ?_
    refine wp_skip ?_
    refine then_normal ?_
    refine wp_seq ?_
    -- region 3 pack.go:23
    refine wp_region_lit ?_
    have hf : fitsP n k := by unfold fitsB at h13; simpa using h13
    obtain ⟨hk1, hk6, hn0, hnk⟩ := hf
    obtain ⟨K, rfl⟩ := Int.eq_ofNat_of_zero_le (show 0 ≤ k by omega)
    refine st_alloc S M rfl rfl #[.int .u8 0, .int .u8 0, .int .u8 0, .int .u8 0, .int .u8 0, .int .u8 0] (by kernel_rfl) ?_; clear S M a; intro a w2 b1 S M hB
    refine wpList_nil ?_
    replace S := S.sub [(0, _), (1, _), (2, _), (6, _), (7, _), (13, _), (8, _)] rfl
    refine then_normal ?_
    refine wp_seq ?_
    refine wp_seq ?_
    -- region 4 pack.go:24
    refine wp_region_lit ?_
    refine st_y S rfl rfl rfl (y_move S rfl) ?_; clear S a; intro a S
    refine st_y S rfl rfl rfl (y_move S rfl) ?_; clear S a; intro a S
    refine wpList_nil ?_
    replace S := S.sub [(0, _), (1, _), (2, _), (6, _), (7, _), (13, _), (8, _), (14, _), (15, _)] rfl
    refine then_normal ?_
    refine wp_block ?_
    refine wp_loop_g (fun m a w' => ∃ (j : Nat), j ≤ K ∧ m = K - j ∧ Sees 30 a [(0, v), (1, .int .i64 n), (2, .int .i64 (K : Int)), (8, .pointer (some ⟨b1, 0, none⟩)), (14, .int .i64 (K : Int)), (15, .int .i64 (j : Int))] ∧ Mem w w' [.blk b1 (digs n j).toArray 97]) (K) ?_ ?_
    · skip
      exact ⟨0, Nat.zero_le _, rfl, S.sub _ rfl, M⟩
    · clear S M a; intro m a wl
      rintro ⟨j, hj, rfl, S, M⟩
      refine wp_seq ?_
      -- region 5 pack.go:24
      refine wp_region_lit ?_
      refine st_y S rfl rfl rfl (y_int S rfl rfl rfl) ?_; clear S a; intro a S
      refine wpList_nil ?_
      replace S := S.sub [(0, _), (1, _), (2, _), (8, _), (14, _), (15, _), (16, _)] rfl
      refine then_normal ?_
      refine wp_seq ?_
      refine st_split (t := 16) S rfl ?_ ?_
      · clear S; intro h16 S
        first | replace h16 := nrmA h16 | replace h16 := nrmB h16 | skip
        first | replace h16 := nrm1 h16 | replace h16 := nrm2 h16 | replace h16 := nrm3 h16 | replace h16 := nrm4 h16 | replace h16 := nrm5 h16 | replace h16 := nrm6 h16 | replace h16 := of_decide_eq_true h16 | replace h16 := of_decide_eq_false h16 | skip
        refine st_condT S rfl ?_
        refine wp_skip ?_
        refine then_normal ?_
        refine wp_seq ?_
        refine wp_block ?_
        refine wp_seq ?_
        -- region 6 pack.go:24
        refine wp_region_lit ?_
        refine st_y S rfl rfl rfl (y_move S rfl) ?_; clear S a; intro a S
        refine st_y S rfl rfl rfl (y_assign S rfl) ?_; clear S a; intro a S
        refine wpList_nil ?_
        replace S := S.sub [(0, _), (1, _), (2, _), (8, _), (14, _), (15, _), (16, _), (9, _)] rfl
        refine then_normal ?_
        -- region 7 pack.go:25
        refine wp_region_lit ?_
        refine st_y S rfl rfl rfl (y_move S rfl) ?_; clear S a; intro a S
        refine st_y S rfl rfl rfl (y_move S rfl) ?_; clear S a; intro a S
        refine st_y S rfl rfl rfl (y_move S rfl) ?_; clear S a; intro a S
        (first | refine st_y S rfl rfl rfl (y_mulN S rfl rfl (by omega)) ?_ | refine st_y S rfl rfl rfl (y_int S rfl rfl rfl) ?_); clear S a; intro a S
        (first | refine st_y S rfl rfl rfl (y_shrN S rfl rfl (by omega)) ?_ | refine st_y S rfl rfl rfl (y_shr S rfl rfl (by omega)) ?_); clear S a; intro a S
        refine st_y S rfl rfl rfl (y_to8 S rfl (by kernel_rfl) (by kernel_rfl)) ?_; clear S a; intro a S
        refine st_y S rfl rfl rfl (y_indexA (m := 6) (sz := 1) S (by kernel_rfl) rfl rfl (by first | omega | (simp; done) | (simp; omega))) ?_; clear S a; intro a S
        try simp only [Int.toNat_natCast, Nat.mul_one, Nat.zero_add] at S
        refine st_store (sz := 1) (us := [_]) S M 0 rfl (by kernel_rfl) rfl rfl rfl rfl rfl rfl (by simp [digs]; omega) ?_; clear M; intro w3 M
        simp only [List.set_cons_zero, List.set_cons_succ] at M
        refine wpList_nil ?_
        replace S := S.sub [(0, _), (1, _), (2, _), (8, _), (14, _), (15, _), (16, _), (9, _)] rfl
        refine block_normal ?_
        refine then_normal ?_
        -- region 8 pack.go:24
        refine wp_region_lit ?_
        (first | refine st_y S rfl rfl rfl (y_addN S rfl rfl (by omega)) ?_ | refine st_y S rfl rfl rfl (y_int S rfl rfl rfl) ?_); clear S a; intro a S
        refine st_y S rfl rfl rfl (y_move S rfl) ?_; clear S a; intro a S
        refine wpList_nil ?_
        replace S := S.sub [(0, _), (1, _), (2, _), (8, _), (14, _), (16, _), (9, _), (15, _)] rfl
        refine then_normal ?_
        have e8 : n / 2 ^ ((8 : Int) * (j : Int)).toNat = n / 256 ^ j := by rw [show ((8 : Int) * (j : Int)).toNat = 8 * j by omega, pow8]
        refine ⟨K - (j + 1), by omega, j + 1, by omega, rfl, S.sub _ rfl, ?_⟩
        rw [← digs_set, ← e8]; exact M
      · clear S; intro h16 S
        first | replace h16 := nrmA h16 | replace h16 := nrmB h16 | skip
        first | replace h16 := nrm1 h16 | replace h16 := nrm2 h16 | replace h16 := nrm3 h16 | replace h16 := nrm4 h16 | replace h16 := nrm5 h16 | replace h16 := nrm6 h16 | replace h16 := of_decide_eq_true h16 | replace h16 := of_decide_eq_false h16 | skip
        refine st_condF S rfl ?_
        refine wp_exit ?_
        refine then_exit ?_
        refine then_exit ?_
        refine block_hit ?_
        refine then_normal ?_
        refine wp_seq ?_
        -- region 9 pack.go:27
        refine wp_region_lit ?_
        refine st_y S rfl rfl rfl (y_move S rfl) ?_; clear S a; intro a S
        refine st_y S rfl rfl rfl (y_move S rfl) ?_; clear S a; intro a S
        refine st_y S rfl rfl rfl (y_sliceA02 (m := 6) (sz := 1) S (by kernel_rfl) rfl rfl (by first | omega | (simp; done) | (simp; omega))) ?_; clear S a; intro a S
        obtain rfl : j = K := by omega
        have hd : Bs 0 wl.heap.size wl (.slice (some ⟨b1, 0, none⟩) j 6) (leB n j) := by
          unfold Bs; rw [leB_length]
          exact (Rd.of_blk (M.blk 0 rfl) (by simp [bcells, leB]) (by omega) (by unfold maxLen; omega) (by rw [Nat.mul_one]; exact digs_take (by omega))).wide (Nat.zero_le _) (M.fits _ (List.mem_of_getElem? (show _[0]? = _ from rfl))).2
        refine st_call (xs := [(Operand.tmp 26), (Operand.tmp 28)]) S (enters_of Try.func84 (by decide) rfl) rfl rfl rfl (behind_any v _ bs (leB n j) _ (M.argW hv) hd hb (by rw [leB_length]; omega)) ?_
        rintro _ w4 ⟨v', rfl, hF⟩; refine ⟨_, rfl, ?_⟩; clear S a; intro a S
        obtain ⟨lo, hi, -, M⟩ := M.pushFresh hF
        refine st_y S rfl rfl rfl (y_assign S rfl) ?_; clear S a; intro a S
        refine st_y S rfl rfl rfl (y_assign S rfl) ?_; clear S a; intro a S
        refine wpList_nil ?_
        replace S := S.sub [(0, _), (1, _), (2, _), (8, _), (14, _), (15, _), (16, _), (6, _), (7, _)] rfl
        refine then_normal ?_
        refine wp_ret ?_
        refine end_two S rfl (res_tmp rfl) (res_tmp rfl) ?_
        have hf : fitsP n (j : Int) := ⟨hk1, hk6, hn0, hnk⟩
        exact ⟨_, by unfold putE; rw [if_pos hf], M.below, fun _ => by
          rw [Int.toNat_natCast]; exact M.fresh 0 rfl, fun h => absurd hf h⟩

/-- the number that bytes are, the lowest first -/
def leN : List UInt8 → Nat
  | [] => 0
  | b :: bs => b.toNat + 256 * leN bs
theorem leN_append : ∀ (x y : List UInt8), leN (x ++ y) = leN x + 256 ^ x.length * leN y
  | [], y => by simp [leN]
  | b :: x, y => by simp only [List.cons_append, leN, leN_append x y, List.length_cons, Nat.pow_succ]; rw [Nat.mul_add, ← Nat.mul_assoc, Nat.mul_comm 256 (256 ^ x.length)]; omega
theorem leN_lt : ∀ x : List UInt8, leN x < 256 ^ x.length
  | [] => by simp [leN]
  | b :: x => by
    have h1 := leN_lt x
    have h2 : b.toNat < 256 := UInt8.toNat_lt b
    simp only [leN, List.length_cons, Nat.pow_succ]
    have : 256 * (leN x + 1) ≤ 256 * 256 ^ x.length := Nat.mul_le_mul_left _ h1
    omega
theorem or_add {x y k : Nat} (h : x < 2 ^ k) : x ||| (y * 2 ^ k) = x + y * 2 ^ k := by
  rw [Nat.or_comm, Nat.mul_comm y, ← Nat.two_pow_add_eq_or_of_lt h y]; omega

theorem sh_bd (x : UInt8) (j : Nat) (h : j ≤ 5) : (x.toNat : Int) * 2 ^ ((8 : Int) * (j : Int)).toNat = ((x.toNat * 2 ^ (8 * j) : Nat) : Int) ∧ x.toNat * 2 ^ (8 * j) < 2 ^ 48 := by
  have h1 : x.toNat < 256 := UInt8.toNat_lt x
  refine ⟨by rw [show ((8 : Int) * (j : Int)).toNat = 8 * j by omega]; simp, ?_⟩
  have h2 : 2 ^ (8 * j) ≤ 2 ^ 40 := Nat.pow_le_pow_right (by omega) (by omega)
  exact Nat.lt_of_le_of_lt (Nat.mul_le_mul_left x.toNat h2) (by omega)
theorem leN_snoc {l : List UInt8} {j : Nat} {x : UInt8} (h : l[j]? = some x) : leN (l.take j) ||| x.toNat * 2 ^ (8 * j) = leN (l.take (j + 1)) := by
  obtain ⟨hlt, he⟩ := List.getElem?_eq_some_iff.1 h
  have hl : (l.take j).length = j := by simp; omega
  have hb := leN_lt (l.take j)
  rw [hl] at hb
  have hp : 256 ^ j = 2 ^ (8 * j) := by rw [Nat.pow_mul]
  rw [or_add (by rw [← hp]; exact hb), List.take_succ_eq_append_getElem hlt, leN_append, hl, he, hp]
  simp only [leN]
  rw [Nat.mul_comm x.toNat]; simp
open Classical in
noncomputable def getE (bs : List UInt8) (at_ k : Int) : Int := if k < 1 ∨ 6 < k then 2 else if at_ < 0 ∨ (bs.length : Int) - k < at_ then 40 else 0
def getN (bs : List UInt8) (at_ k : Int) : Int := if (1 ≤ k ∧ k ≤ 6) ∧ 0 ≤ at_ ∧ at_ ≤ (bs.length : Int) - k then (leN ((bs.drop at_.toNat).take k.toNat) : Int) else 0
theorem get_any (v : Value) (bs : List UInt8) (at_ k : Int) (w : World) (hv : Bs 0 w.heap.size w v bs) (hk : -9223372036854775808 ≤ k) : Calls Try.prog 51 #[v, .int .i64 at_, .int .i64 k] w fun e w' => e = .returned (.tuple #[.int .i64 (getN bs at_ k), .int .i64 (getE bs at_ k)]) ∧ Below w.heap.size w w' := by
  have M := Mem.start w
  have hl := hv.2.1
  unfold maxLen at hl
  refine calls_enter Try.func51 rfl 44 rfl rfl ?_; intro a S
  refine wp_seq ?_
  -- region 0 pack.go:31
  refine wp_region_lit ?_
  refine st_y S rfl rfl rfl (y_assign S rfl) ?_; clear S a; intro a S
  refine st_y S rfl rfl rfl (y_assign S rfl) ?_; clear S a; intro a S
  refine wpList_nil ?_
  replace S := S.sub [(0, _), (1, _), (2, _), (6, _), (7, _)] rfl
  refine then_normal ?_
  refine wp_seq ?_
  refine wp_seq ?_
  -- region 1 pack.go:32
  refine wp_region_lit ?_
  refine st_y S rfl rfl rfl (y_move S rfl) ?_; clear S a; intro a S
  refine st_y S rfl rfl rfl (y_int S rfl rfl rfl) ?_; clear S a; intro a S
  refine st_y S rfl rfl rfl (y_move S rfl) ?_; clear S a; intro a S
  refine st_split (t := 12) S rfl ?_ ?_
  · clear S; intro h12 S
    first | replace h12 := nrmA h12 | replace h12 := nrmB h12 | skip
    first | replace h12 := nrm1 h12 | replace h12 := nrm2 h12 | replace h12 := nrm3 h12 | replace h12 := nrm4 h12 | replace h12 := nrm5 h12 | replace h12 := nrm6 h12 | replace h12 := of_decide_eq_true h12 | replace h12 := of_decide_eq_false h12 | skip
    refine st_no S rfl rfl rfl ?_; clear S a; intro a S
    refine st_no S rfl rfl rfl ?_; clear S a; intro a S
    refine st_y S rfl rfl rfl (y_pickT S rfl rfl) ?_; clear S a; intro a S
    refine wpList_nil ?_
    replace S := S.sub [(0, _), (1, _), (2, _), (6, _), (7, _), (15, _)] rfl
    refine then_normal ?_
    refine st_condT S rfl ?_
    refine wp_seq ?_
    -- region 2 pack.go:33
    refine wp_region_lit ?_
    refine st_y S rfl rfl rfl (y_assign S rfl) ?_; clear S a; intro a S
    refine st_y S rfl rfl rfl (y_assign S rfl) ?_; clear S a; intro a S
    refine wpList_nil ?_
    replace S := S.sub [(0, _), (1, _), (2, _), (15, _), (6, _), (7, _)] rfl
    refine then_normal ?_
    refine wp_ret ?_
    refine then_ret ?_
    refine end_two S rfl (res_tmp rfl) (res_tmp rfl) ?_
    refine ⟨?_, M.below⟩; unfold getN getE; rw [if_neg (by omega), if_pos (by omega)]
  · clear S; intro h12 S
    first | replace h12 := nrmA h12 | replace h12 := nrmB h12 | skip
    first | replace h12 := nrm1 h12 | replace h12 := nrm2 h12 | replace h12 := nrm3 h12 | replace h12 := nrm4 h12 | replace h12 := nrm5 h12 | replace h12 := nrm6 h12 | replace h12 := of_decide_eq_true h12 | replace h12 := of_decide_eq_false h12 | skip
    refine st_y S rfl rfl rfl (y_move S rfl) ?_; clear S a; intro a S
    refine st_y S rfl rfl rfl (y_int S rfl rfl rfl) ?_; clear S a; intro a S
    refine st_y S rfl rfl rfl (y_pickF S rfl rfl) ?_; clear S a; intro a S
    refine wpList_nil ?_
    replace S := S.sub [(0, _), (1, _), (2, _), (6, _), (7, _), (15, _)] rfl
    refine then_normal ?_
    refine st_split (t := 15) S rfl ?_ ?_
    · clear S; intro h15 S
      first | replace h15 := nrmA h15 | replace h15 := nrmB h15 | skip
      first | replace h15 := nrm1 h15 | replace h15 := nrm2 h15 | replace h15 := nrm3 h15 | replace h15 := nrm4 h15 | replace h15 := nrm5 h15 | replace h15 := nrm6 h15 | replace h15 := of_decide_eq_true h15 | replace h15 := of_decide_eq_false h15 | skip
      refine st_condT S rfl ?_
      refine wp_seq ?_
      -- region 2 pack.go:33
      refine wp_region_lit ?_
      refine st_y S rfl rfl rfl (y_assign S rfl) ?_; clear S a; intro a S
      refine st_y S rfl rfl rfl (y_assign S rfl) ?_; clear S a; intro a S
      refine wpList_nil ?_
      replace S := S.sub [(0, _), (1, _), (2, _), (15, _), (6, _), (7, _)] rfl
      refine then_normal ?_
      refine wp_ret ?_
      refine then_ret ?_
      refine end_two S rfl (res_tmp rfl) (res_tmp rfl) ?_
      refine ⟨?_, M.below⟩; unfold getN getE; rw [if_neg (by omega), if_pos (by omega)]
    · clear S; intro h15 S
      first | replace h15 := nrmA h15 | replace h15 := nrmB h15 | skip
      first | replace h15 := nrm1 h15 | replace h15 := nrm2 h15 | replace h15 := nrm3 h15 | replace h15 := nrm4 h15 | replace h15 := nrm5 h15 | replace h15 := nrm6 h15 | replace h15 := of_decide_eq_true h15 | replace h15 := of_decide_eq_false h15 | skip
      refine st_condF S rfl ?_
      refine wp_skip ?_
      refine then_normal ?_
      refine wp_seq ?_
      refine wp_seq ?_
      -- region 3 pack.go:35
      refine wp_region_lit ?_
      refine st_y S rfl rfl rfl (y_move S rfl) ?_; clear S a; intro a S
      refine st_y S rfl rfl rfl (y_int S rfl rfl rfl) ?_; clear S a; intro a S
      refine st_y S rfl rfl rfl (y_move S rfl) ?_; clear S a; intro a S
      refine st_split (t := 18) S rfl ?_ ?_
      · clear S; intro h18 S
        first | replace h18 := nrmA h18 | replace h18 := nrmB h18 | skip
        first | replace h18 := nrm1 h18 | replace h18 := nrm2 h18 | replace h18 := nrm3 h18 | replace h18 := nrm4 h18 | replace h18 := nrm5 h18 | replace h18 := nrm6 h18 | replace h18 := of_decide_eq_true h18 | replace h18 := of_decide_eq_false h18 | skip
        refine st_no S rfl rfl rfl ?_; clear S a; intro a S
        refine st_no S rfl rfl rfl ?_; clear S a; intro a S
        refine st_no S rfl rfl rfl ?_; clear S a; intro a S
        refine st_no S rfl rfl rfl ?_; clear S a; intro a S
        refine st_no S rfl rfl rfl ?_; clear S a; intro a S
        refine st_no S rfl rfl rfl ?_; clear S a; intro a S
        refine st_y S rfl rfl rfl (y_pickT S rfl rfl) ?_; clear S a; intro a S
        refine wpList_nil ?_
        replace S := S.sub [(0, _), (1, _), (2, _), (6, _), (7, _), (15, _), (25, _)] rfl
        refine then_normal ?_
        refine st_condT S rfl ?_
        refine wp_seq ?_
        -- region 4 pack.go:36
        refine wp_region_lit ?_
        refine st_y S rfl rfl rfl (y_assign S rfl) ?_; clear S a; intro a S
        refine st_y S rfl rfl rfl (y_assign S rfl) ?_; clear S a; intro a S
        refine wpList_nil ?_
        replace S := S.sub [(0, _), (1, _), (2, _), (15, _), (25, _), (6, _), (7, _)] rfl
        refine then_normal ?_
        refine wp_ret ?_
        refine then_ret ?_
        refine end_two S rfl (res_tmp rfl) (res_tmp rfl) ?_
        refine ⟨?_, M.below⟩; unfold getN getE; rw [if_neg (by omega), if_neg (by omega), if_pos (by omega)]
      · clear S; intro h18 S
        first | replace h18 := nrmA h18 | replace h18 := nrmB h18 | skip
        first | replace h18 := nrm1 h18 | replace h18 := nrm2 h18 | replace h18 := nrm3 h18 | replace h18 := nrm4 h18 | replace h18 := nrm5 h18 | replace h18 := nrm6 h18 | replace h18 := of_decide_eq_true h18 | replace h18 := of_decide_eq_false h18 | skip
        refine st_y S rfl rfl rfl (y_move S rfl) ?_; clear S a; intro a S
        refine st_y S rfl rfl rfl (y_move S rfl) ?_; clear S a; intro a S
        refine st_y S rfl rfl rfl (y_lenR (E := 5) S rfl (M.arg hv) (by kernel_rfl)) ?_; clear S a; intro a S
        refine st_y S rfl rfl rfl (y_move S rfl) ?_; clear S a; intro a S
        (first | refine st_y S rfl rfl rfl (y_subN S rfl rfl (by omega)) ?_ | refine st_y S rfl rfl rfl (y_int S rfl rfl rfl) ?_); clear S a; intro a S
        refine st_y S rfl rfl rfl (y_int S rfl rfl rfl) ?_; clear S a; intro a S
        refine st_y S rfl rfl rfl (y_pickF S rfl rfl) ?_; clear S a; intro a S
        refine wpList_nil ?_
        replace S := S.sub [(0, _), (1, _), (2, _), (6, _), (7, _), (15, _), (25, _)] rfl
        refine then_normal ?_
        refine st_split (t := 25) S rfl ?_ ?_
        · clear S; intro h25 S
          first | replace h25 := nrmA h25 | replace h25 := nrmB h25 | skip
          first | replace h25 := nrm1 h25 | replace h25 := nrm2 h25 | replace h25 := nrm3 h25 | replace h25 := nrm4 h25 | replace h25 := nrm5 h25 | replace h25 := nrm6 h25 | replace h25 := of_decide_eq_true h25 | replace h25 := of_decide_eq_false h25 | skip
          refine st_condT S rfl ?_
          refine wp_seq ?_
          -- region 4 pack.go:36
          refine wp_region_lit ?_
          refine st_y S rfl rfl rfl (y_assign S rfl) ?_; clear S a; intro a S
          refine st_y S rfl rfl rfl (y_assign S rfl) ?_; clear S a; intro a S
          refine wpList_nil ?_
          replace S := S.sub [(0, _), (1, _), (2, _), (15, _), (25, _), (6, _), (7, _)] rfl
          refine then_normal ?_
          refine wp_ret ?_
          refine then_ret ?_
          refine end_two S rfl (res_tmp rfl) (res_tmp rfl) ?_
          refine ⟨?_, M.below⟩; unfold getN getE; rw [if_neg (by omega), if_neg (by omega), if_pos (by omega)]
        · clear S; intro h25 S
          first | replace h25 := nrmA h25 | replace h25 := nrmB h25 | skip
          first | replace h25 := nrm1 h25 | replace h25 := nrm2 h25 | replace h25 := nrm3 h25 | replace h25 := nrm4 h25 | replace h25 := nrm5 h25 | replace h25 := nrm6 h25 | replace h25 := of_decide_eq_true h25 | replace h25 := of_decide_eq_false h25 | skip
          refine st_condF S rfl ?_
          refine wp_skip ?_
          refine then_normal ?_
          refine wp_seq ?_
          -- region 5 pack.go:38
          refine wp_region_lit ?_
          obtain ⟨K, rfl⟩ := Int.eq_ofNat_of_zero_le (show 0 ≤ k by omega)
          obtain ⟨A, rfl⟩ := Int.eq_ofNat_of_zero_le h18
          refine st_y S rfl rfl rfl (y_assign S rfl) ?_; clear S a; intro a S
          refine wpList_nil ?_
          replace S := S.sub [(0, _), (1, _), (2, _), (6, _), (7, _), (15, _), (25, _), (8, _)] rfl
          refine then_normal ?_
          refine wp_seq ?_
          refine wp_seq ?_
          -- region 6 pack.go:39
          refine wp_region_lit ?_
          refine st_y S rfl rfl rfl (y_move S rfl) ?_; clear S a; intro a S
          refine st_y S rfl rfl rfl (y_move S rfl) ?_; clear S a; intro a S
          refine wpList_nil ?_
          replace S := S.sub [(0, _), (1, _), (2, _), (6, _), (7, _), (15, _), (25, _), (8, _), (26, _), (27, _)] rfl
          refine then_normal ?_
          refine wp_block ?_
          refine wp_loop_g (fun m a w' => ∃ (j : Nat), j ≤ K ∧ m = K - j ∧ Sees 44 a [(0, v), (1, .int .i64 (A : Int)), (2, .int .i64 (K : Int)), (8, .int .i64 ((leN ((bs.drop A).take j) : Nat) : Int)), (26, .int .i64 (K : Int)), (27, .int .i64 (j : Int))] ∧ Mem w w' []) (K) ?_ ?_
          · skip
            exact ⟨0, Nat.zero_le _, rfl, S.sub _ rfl, M⟩
          · clear S M a; intro m a wl
            rintro ⟨j, hj, rfl, S, M⟩
            refine wp_seq ?_
            -- region 7 pack.go:39
            refine wp_region_lit ?_
            refine st_y S rfl rfl rfl (y_int S rfl rfl rfl) ?_; clear S a; intro a S
            refine wpList_nil ?_
            replace S := S.sub [(0, _), (1, _), (2, _), (8, _), (26, _), (27, _), (28, _)] rfl
            refine then_normal ?_
            refine wp_seq ?_
            refine st_split (t := 28) S rfl ?_ ?_
            · clear S; intro h28 S
              first | replace h28 := nrmA h28 | replace h28 := nrmB h28 | skip
              first | replace h28 := nrm1 h28 | replace h28 := nrm2 h28 | replace h28 := nrm3 h28 | replace h28 := nrm4 h28 | replace h28 := nrm5 h28 | replace h28 := nrm6 h28 | replace h28 := of_decide_eq_true h28 | replace h28 := of_decide_eq_false h28 | skip
              refine st_condT S rfl ?_
              refine wp_skip ?_
              refine then_normal ?_
              refine wp_seq ?_
              refine wp_block ?_
              refine wp_seq ?_
              -- region 8 pack.go:39
              refine wp_region_lit ?_
              refine st_y S rfl rfl rfl (y_move S rfl) ?_; clear S a; intro a S
              refine st_y S rfl rfl rfl (y_assign S rfl) ?_; clear S a; intro a S
              refine wpList_nil ?_
              replace S := S.sub [(0, _), (1, _), (2, _), (8, _), (26, _), (27, _), (28, _), (9, _)] rfl
              refine then_normal ?_
              -- region 9 pack.go:40
              refine wp_region_lit ?_
              have hj5 : j ≤ 5 := by omega
              obtain ⟨x, hx⟩ : ∃ x, (bs.drop A)[j]? = some x := ⟨_, List.getElem?_eq_getElem (by simp; omega)⟩
              have hx' : bs[((A : Int) + (j : Int)).toNat]? = some x := by rw [show ((A : Int) + (j : Int)).toNat = A + j by omega, ← List.getElem?_drop]; exact hx
              obtain ⟨hs1, hs2⟩ := sh_bd x j hj5
              have hx256 : x.toNat < 256 := UInt8.toNat_lt x
              have hl1 := leN_lt ((bs.drop A).take j)
              have hl2 : leN ((bs.drop A).take j) < 2 ^ 40 := Nat.lt_of_lt_of_le hl1 (by
                rw [show (256 : Nat) = 2 ^ 8 from rfl, ← Nat.pow_mul]; exact Nat.pow_le_pow_right (by omega) (by simp; omega))
              refine st_y S rfl rfl rfl (y_move S rfl) ?_; clear S a; intro a S
              refine st_y S rfl rfl rfl (y_move S rfl) ?_; clear S a; intro a S
              refine st_y S rfl rfl rfl (y_move S rfl) ?_; clear S a; intro a S
              refine st_y S rfl rfl rfl (y_move S rfl) ?_; clear S a; intro a S
              (first | refine st_y S rfl rfl rfl (y_addN S rfl rfl (by omega)) ?_ | refine st_y S rfl rfl rfl (y_int S rfl rfl rfl) ?_); clear S a; intro a S
              refine st_y S rfl rfl rfl (y_indexR (e := 5) (sz := 1) S (by kernel_rfl) rfl (M.arg hv) rfl (by first | omega | (simp; done) | (simp; omega))) ?_; clear S a; intro a S
              try simp only [Int.toNat_natCast, Nat.mul_one, Nat.zero_add] at S
              refine st_y S rfl rfl rfl (y_load S (by kernel_rfl) rfl ((M.arg hv).byte hx')) ?_; clear S a; intro a S
              (first | refine st_y S rfl rfl rfl (y_to64 S rfl (by kernel_rfl) (by kernel_rfl) (by omega)) ?_ | refine st_y S rfl rfl rfl (y_conv S rfl (by kernel_rfl) (by kernel_rfl)) ?_); clear S a; intro a S
              refine st_y S rfl rfl rfl (y_move S rfl) ?_; clear S a; intro a S
              (first | refine st_y S rfl rfl rfl (y_mulN S rfl rfl (by omega)) ?_ | refine st_y S rfl rfl rfl (y_int S rfl rfl rfl) ?_); clear S a; intro a S
              (first | refine st_y S rfl rfl rfl (y_shlN S rfl rfl (by omega) (by rw [hs1]; omega)) ?_ | refine st_y S rfl rfl rfl (y_shl S rfl rfl (by omega)) ?_); clear S a; intro a S
              rw [hs1] at S
              (first | refine st_y S rfl rfl rfl (y_orN S rfl rfl (by omega) (by omega)) ?_ | refine st_y S rfl rfl rfl (y_int S rfl rfl rfl) ?_); clear S a; intro a S
              refine st_y S rfl rfl rfl (y_assign S rfl) ?_; clear S a; intro a S
              refine wpList_nil ?_
              replace S := S.sub [(0, _), (1, _), (2, _), (26, _), (27, _), (28, _), (9, _), (8, _)] rfl
              refine block_normal ?_
              refine then_normal ?_
              -- region 10 pack.go:39
              refine wp_region_lit ?_
              (first | refine st_y S rfl rfl rfl (y_addN S rfl rfl (by omega)) ?_ | refine st_y S rfl rfl rfl (y_int S rfl rfl rfl) ?_); clear S a; intro a S
              refine st_y S rfl rfl rfl (y_move S rfl) ?_; clear S a; intro a S
              refine wpList_nil ?_
              replace S := S.sub [(0, _), (1, _), (2, _), (26, _), (28, _), (9, _), (8, _), (27, _)] rfl
              refine then_normal ?_
              refine ⟨K - (j + 1), by omega, j + 1, by omega, rfl, ?_, M⟩
              rw [← leN_snoc hx]; exact S.sub _ rfl
            · clear S; intro h28 S
              first | replace h28 := nrmA h28 | replace h28 := nrmB h28 | skip
              first | replace h28 := nrm1 h28 | replace h28 := nrm2 h28 | replace h28 := nrm3 h28 | replace h28 := nrm4 h28 | replace h28 := nrm5 h28 | replace h28 := nrm6 h28 | replace h28 := of_decide_eq_true h28 | replace h28 := of_decide_eq_false h28 | skip
              refine st_condF S rfl ?_
              refine wp_exit ?_
              refine then_exit ?_
              refine then_exit ?_
              refine block_hit ?_
              refine then_normal ?_
              refine wp_seq ?_
              -- region 11 pack.go:42
              refine wp_region_lit ?_
              refine st_y S rfl rfl rfl (y_move S rfl) ?_; clear S a; intro a S
              refine st_y S rfl rfl rfl (y_assign S rfl) ?_; clear S a; intro a S
              refine st_y S rfl rfl rfl (y_assign S rfl) ?_; clear S a; intro a S
              refine wpList_nil ?_
              replace S := S.sub [(0, _), (1, _), (2, _), (8, _), (26, _), (27, _), (28, _), (6, _), (7, _)] rfl
              refine then_normal ?_
              refine wp_ret ?_
              refine end_two S rfl (res_tmp rfl) (res_tmp rfl) ?_
              obtain rfl : j = K := by omega
              refine ⟨?_, M.below⟩
              unfold getN getE
              rw [if_pos (by omega), if_neg (by omega), if_neg (by omega), Int.toNat_natCast, Int.toNat_natCast]

end Go.Proofs.Ytbaoodlkcbiclaa
