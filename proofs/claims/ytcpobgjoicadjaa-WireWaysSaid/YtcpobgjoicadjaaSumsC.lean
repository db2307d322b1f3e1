/-
  The document's sum: remainder, Join, Sum; it is the program's.
-/
import Derived.Test.YtcpobgjoicadjaaSumsB
namespace Go.Proofs.Ytcpobgjoicadjaa
open Go.RowKit Go.Sort

def remT (r : BitVec 32) (b : UInt8) : BitVec 32 := stepN 8 (r ^^^ BitVec.ofInt 32 (b.toNat : Int))

theorem remainder_any (r : BitVec 32) (b : UInt8) (w : World) : Calls Try.prog 65 #[.int .u32 (r.toNat : Int), .int .u8 (b.toNat : Int)] w fun e w' => e = .returned (.int .u32 ((remT r b).toNat : Int)) ∧ Below w.heap.size w w' := by
  have M := Mem.start w
  refine calls_enter Try.func65 rfl 23 rfl rfl ?_; intro a S
  refine wp_seq ?_
  -- region 0 ref.go:5
  refine wp_region_lit ?_
  refine st_y S rfl rfl rfl (y_assign S rfl) ?_; clear S a; intro a S
  refine wpList_nil ?_
  replace S := S.sub [(0, _), (1, _), (4, _)] rfl
  refine then_normal ?_
  refine wp_seq ?_
  -- region 1 ref.go:6
  refine wp_region_lit ?_
  refine st_y S rfl rfl rfl (y_move S rfl) ?_; clear S a; intro a S
  refine st_y S rfl rfl rfl (y_move S rfl) ?_; clear S a; intro a S
  refine st_y S rfl rfl rfl (y_to32 S rfl (by kernel_rfl) (by kernel_rfl)) ?_; clear S a; intro a S
  refine st_y S rfl rfl rfl (y_xor32 S rfl rfl) ?_; clear S a; intro a S
  refine st_y S rfl rfl rfl (y_assign S rfl) ?_; clear S a; intro a S
  refine wpList_nil ?_
  replace S := S.sub [(1, _), (4, _), (0, _)] rfl
  refine then_normal ?_
  refine wp_seq ?_
  refine wp_seq ?_
  -- region 2 ref.go:7
  refine wp_region_lit ?_
  refine st_y S rfl rfl rfl (y_assign S rfl) ?_; clear S a; intro a S
  refine wpList_nil ?_
  replace S := S.sub [(1, _), (4, _), (0, _), (5, _)] rfl
  refine then_normal ?_
  refine wp_block ?_
  refine wp_loop_g (fun m a w' => ∃ (k : Nat), k ≤ 8 ∧ m = 8 - k ∧ Sees 23 a [(0, .int .u32 ((stepN k (r ^^^ BitVec.ofInt 32 (b.toNat : Int))).toNat : Int)), (5, .int .i64 (k : Int))] ∧ Mem w w' []) (8) ?_ ?_
  · skip
    exact ⟨0, by omega, rfl, S.sub _ rfl, M⟩
  · clear S M a; intro m a wl
    rintro ⟨k, hk, rfl, S, M⟩
    refine wp_seq ?_
    refine wp_seq ?_
    -- region 3 ref.go:7
    refine wp_region_lit ?_
    refine st_y S rfl rfl rfl (y_move S rfl) ?_; clear S a; intro a S
    refine st_y S rfl rfl rfl (y_int S rfl rfl rfl) ?_; clear S a; intro a S
    refine wpList_nil ?_
    replace S := S.sub [(0, _), (5, _), (11, _)] rfl
    refine then_normal ?_
    refine st_split (t := 11) S rfl ?_ ?_
    · clear S; intro h11 S
      first | replace h11 := nrmA h11 | replace h11 := nrmB h11 | skip
      first | replace h11 := nrm1 h11 | replace h11 := nrm2 h11 | replace h11 := nrm3 h11 | replace h11 := nrm4 h11 | replace h11 := nrm5 h11 | replace h11 := nrm6 h11 | replace h11 := of_decide_eq_true h11 | replace h11 := of_decide_eq_false h11 | skip
      refine st_condT S rfl ?_
      refine wp_skip ?_
      refine then_normal ?_
      refine wp_seq ?_
      refine wp_block ?_
      refine wp_seq ?_
      -- region 5 ref.go:8
      refine wp_region_lit ?_
      refine st_y S rfl rfl rfl (y_move S rfl) ?_; clear S a; intro a S
      refine st_y S rfl rfl rfl (y_and32 (q := 1#32) S rfl rfl) ?_; clear S a; intro a S
      refine st_y S rfl rfl rfl (y_eql32 (q := 1#32) S rfl rfl) ?_; clear S a; intro a S
      refine wpList_nil ?_
      replace S := S.sub [(0, _), (5, _), (11, _), (16, _)] rfl
      refine then_normal ?_
      refine st_split (t := 16) S rfl ?_ ?_
      · clear S; intro h16 S
        refine st_condT S rfl ?_
        -- region 6 ref.go:9
        refine wp_region_lit ?_
        refine st_y S rfl rfl rfl (y_move S rfl) ?_; clear S a; intro a S
        refine st_y S rfl rfl rfl (y_shr32 (k := 1) S rfl rfl) ?_; clear S a; intro a S
        refine st_y S rfl rfl rfl (y_xor32 (q := 3988292384#32) S rfl rfl) ?_; clear S a; intro a S
        refine st_y S rfl rfl rfl (y_assign S rfl) ?_; clear S a; intro a S
        refine wpList_nil ?_
        replace S := S.sub [(5, _), (11, _), (16, _), (0, _)] rfl
        refine block_normal ?_
        refine then_normal ?_
        -- region 4 ref.go:7
        refine wp_region_lit ?_
        refine st_y S rfl rfl rfl (y_move S rfl) ?_; clear S a; intro a S
        (first | refine st_y S rfl rfl rfl (y_addN S rfl rfl (by omega)) ?_ | refine st_y S rfl rfl rfl (y_int S rfl rfl rfl) ?_); clear S a; intro a S
        refine st_y S rfl rfl rfl (y_assign S rfl) ?_; clear S a; intro a S
        refine wpList_nil ?_
        replace S := S.sub [(11, _), (16, _), (0, _), (5, _)] rfl
        refine then_normal ?_
        refine ⟨8 - (k + 1), by omega, k + 1, by omega, rfl, ?_, M⟩
        have e : stepN (k + 1) (r ^^^ BitVec.ofInt 32 (b.toNat : Int)) = step1 (stepN k (r ^^^ BitVec.ofInt 32 (b.toNat : Int))) := rfl
        rw [e]
        unfold step1
        simp only [h16, if_true, if_false, Bool.false_eq_true]
        exact S.sub _ rfl
      · clear S; intro h16 S
        refine st_condF S rfl ?_
        -- region 7 ref.go:11
        refine wp_region_lit ?_
        refine st_y S rfl rfl rfl (y_move S rfl) ?_; clear S a; intro a S
        refine st_y S rfl rfl rfl (y_shr32 (k := 1) S rfl rfl) ?_; clear S a; intro a S
        refine st_y S rfl rfl rfl (y_assign S rfl) ?_; clear S a; intro a S
        refine wpList_nil ?_
        replace S := S.sub [(5, _), (11, _), (16, _), (0, _)] rfl
        refine block_normal ?_
        refine then_normal ?_
        -- region 4 ref.go:7
        refine wp_region_lit ?_
        refine st_y S rfl rfl rfl (y_move S rfl) ?_; clear S a; intro a S
        (first | refine st_y S rfl rfl rfl (y_addN S rfl rfl (by omega)) ?_ | refine st_y S rfl rfl rfl (y_int S rfl rfl rfl) ?_); clear S a; intro a S
        refine st_y S rfl rfl rfl (y_assign S rfl) ?_; clear S a; intro a S
        refine wpList_nil ?_
        replace S := S.sub [(11, _), (16, _), (0, _), (5, _)] rfl
        refine then_normal ?_
        refine ⟨8 - (k + 1), by omega, k + 1, by omega, rfl, ?_, M⟩
        have e : stepN (k + 1) (r ^^^ BitVec.ofInt 32 (b.toNat : Int)) = step1 (stepN k (r ^^^ BitVec.ofInt 32 (b.toNat : Int))) := rfl
        rw [e]
        unfold step1
        simp only [h16, if_true, if_false, Bool.false_eq_true]
        exact S.sub _ rfl
    · clear S; intro h11 S
      first | replace h11 := nrmA h11 | replace h11 := nrmB h11 | skip
      first | replace h11 := nrm1 h11 | replace h11 := nrm2 h11 | replace h11 := nrm3 h11 | replace h11 := nrm4 h11 | replace h11 := nrm5 h11 | replace h11 := nrm6 h11 | replace h11 := of_decide_eq_true h11 | replace h11 := of_decide_eq_false h11 | skip
      refine st_condF S rfl ?_
      refine wp_exit ?_
      refine then_exit ?_
      refine then_exit ?_
      refine block_hit ?_
      refine then_normal ?_
      refine wp_seq ?_
      -- region 8 ref.go:14
      refine wp_region_lit ?_
      refine st_y S rfl rfl rfl (y_move S rfl) ?_; clear S a; intro a S
      refine st_y S rfl rfl rfl (y_assign S rfl) ?_; clear S a; intro a S
      refine wpList_nil ?_
      replace S := S.sub [(0, _), (5, _), (11, _), (4, _)] rfl
      refine then_normal ?_
      refine wp_ret ?_
      refine end_one S rfl (res_tmp rfl) ?_
      obtain rfl : k = 8 := by omega
      exact ⟨rfl, M.below⟩

def refRun (r : BitVec 32) (bs : List UInt8) : BitVec 32 := bs.foldl remT r
theorem refJoin_any (s : BitVec 32) (v : Value) (bs : List UInt8) (w : World) (hv : Bs 0 w.heap.size w v bs) : Calls Try.prog 52 #[.int .u32 (s.toNat : Int), v] w fun e w' => e = .returned (.int .u32 ((~~~ refRun (~~~ s) bs).toNat : Int)) ∧ Below w.heap.size w w' := by
  have M := Mem.start w
  have hl := hv.2.1
  unfold maxLen at hl
  refine calls_enter Try.func52 rfl 23 rfl rfl ?_; intro a S
  refine wp_seq ?_
  -- region 0 ref.go:18
  refine wp_region_lit ?_
  refine st_y S rfl rfl rfl (y_assign S rfl) ?_; clear S a; intro a S
  refine wpList_nil ?_
  replace S := S.sub [(0, _), (1, _), (4, _)] rfl
  refine then_normal ?_
  refine wp_seq ?_
  -- region 1 ref.go:19
  refine wp_region_lit ?_
  refine st_y S rfl rfl rfl (y_move S rfl) ?_; clear S a; intro a S
  refine st_y S rfl rfl rfl (y_compl32 S rfl) ?_; clear S a; intro a S
  refine st_y S rfl rfl rfl (y_assign S rfl) ?_; clear S a; intro a S
  refine wpList_nil ?_
  replace S := S.sub [(0, _), (1, _), (4, _), (5, _)] rfl
  refine then_normal ?_
  refine wp_seq ?_
  refine wp_seq ?_
  -- region 2 ref.go:20
  refine wp_region_lit ?_
  refine st_y S rfl rfl rfl (y_assign S rfl) ?_; clear S a; intro a S
  refine wpList_nil ?_
  replace S := S.sub [(0, _), (1, _), (4, _), (5, _), (6, _)] rfl
  refine then_normal ?_
  refine wp_block ?_
  refine wp_loop_g (fun m a w' => ∃ (k : Nat), k ≤ bs.length ∧ m = bs.length - k ∧ Sees 23 a [(1, v), (5, .int .u32 ((refRun (~~~ s) (bs.take k)).toNat : Int)), (6, .int .i64 (k : Int))] ∧ Mem w w' []) (bs.length) ?_ ?_
  · skip
    exact ⟨0, by omega, rfl, S.sub _ rfl, M⟩
  · clear S M a; intro m a wl
    rintro ⟨k, hk, rfl, S, M⟩
    refine wp_seq ?_
    refine wp_seq ?_
    -- region 3 ref.go:20
    refine wp_region_lit ?_
    refine st_y S rfl rfl rfl (y_move S rfl) ?_; clear S a; intro a S
    refine st_y S rfl rfl rfl (y_move S rfl) ?_; clear S a; intro a S
    refine st_y S rfl rfl rfl (y_lenR (E := 5) S rfl (M.arg hv) (by kernel_rfl)) ?_; clear S a; intro a S
    refine st_y S rfl rfl rfl (y_int S rfl rfl rfl) ?_; clear S a; intro a S
    refine wpList_nil ?_
    replace S := S.sub [(1, _), (5, _), (6, _), (12, _)] rfl
    refine then_normal ?_
    refine st_split (t := 12) S rfl ?_ ?_
    · clear S; intro h12 S
      first | replace h12 := nrmA h12 | replace h12 := nrmB h12 | skip
      first | replace h12 := nrm1 h12 | replace h12 := nrm2 h12 | replace h12 := nrm3 h12 | replace h12 := nrm4 h12 | replace h12 := nrm5 h12 | replace h12 := nrm6 h12 | replace h12 := of_decide_eq_true h12 | replace h12 := of_decide_eq_false h12 | skip
      refine st_condT S rfl ?_
      refine wp_skip ?_
      refine then_normal ?_
      refine wp_seq ?_
      refine wp_block ?_
      -- region 5 ref.go:21
      refine wp_region_lit ?_
      have hk' : k < bs.length := by omega
      obtain ⟨x, hx⟩ : ∃ x, bs[k]? = some x := ⟨bs[k], List.getElem?_eq_getElem hk'⟩
      refine st_y S rfl rfl rfl (y_move S rfl) ?_; clear S a; intro a S
      refine st_y S rfl rfl rfl (y_move S rfl) ?_; clear S a; intro a S
      refine st_y S rfl rfl rfl (y_move S rfl) ?_; clear S a; intro a S
      refine st_y S rfl rfl rfl (y_indexR (e := 5) (sz := 1) S (by kernel_rfl) rfl (M.arg hv) rfl (by first | omega | (simp; done) | (simp; omega))) ?_; clear S a; intro a S
      try simp only [Int.toNat_natCast, Nat.mul_one, Nat.zero_add] at S
      refine st_y S rfl rfl rfl (y_load S (by kernel_rfl) rfl ((M.arg hv).byte hx)) ?_; clear S a; intro a S
      refine st_call (xs := [(Operand.tmp 15), (Operand.tmp 19)]) S (enters_of Try.func65 (by decide) rfl) rfl rfl rfl (remainder_any _ x _) ?_
      rintro _ w1 ⟨rfl, hK⟩; refine ⟨_, rfl, ?_⟩; clear S a; intro a S; replace M := M.grow hK
      refine st_y S rfl rfl rfl (y_assign S rfl) ?_; clear S a; intro a S
      refine wpList_nil ?_
      replace S := S.sub [(1, _), (6, _), (12, _), (5, _)] rfl
      refine block_normal ?_
      refine then_normal ?_
      -- region 4 ref.go:20
      refine wp_region_lit ?_
      refine st_y S rfl rfl rfl (y_move S rfl) ?_; clear S a; intro a S
      (first | refine st_y S rfl rfl rfl (y_addN S rfl rfl (by omega)) ?_ | refine st_y S rfl rfl rfl (y_int S rfl rfl rfl) ?_); clear S a; intro a S
      refine st_y S rfl rfl rfl (y_assign S rfl) ?_; clear S a; intro a S
      refine wpList_nil ?_
      replace S := S.sub [(1, _), (12, _), (5, _), (6, _)] rfl
      refine then_normal ?_
      refine ⟨bs.length - (k + 1), by omega, k + 1, by omega, rfl, ?_, M⟩
      have e : refRun (~~~ s) (bs.take (k + 1)) = remT (refRun (~~~ s) (bs.take k)) x := by
        rw [List.take_succ_eq_append_getElem hk', refRun, List.foldl_append]
        rw [List.getElem?_eq_getElem hk'] at hx
        rw [← Option.some.inj hx]; rfl
      rw [e]
      exact S.sub _ rfl
    · clear S; intro h12 S
      first | replace h12 := nrmA h12 | replace h12 := nrmB h12 | skip
      first | replace h12 := nrm1 h12 | replace h12 := nrm2 h12 | replace h12 := nrm3 h12 | replace h12 := nrm4 h12 | replace h12 := nrm5 h12 | replace h12 := nrm6 h12 | replace h12 := of_decide_eq_true h12 | replace h12 := of_decide_eq_false h12 | skip
      refine st_condF S rfl ?_
      refine wp_exit ?_
      refine then_exit ?_
      refine then_exit ?_
      refine block_hit ?_
      refine then_normal ?_
      refine wp_seq ?_
      -- region 6 ref.go:23
      refine wp_region_lit ?_
      refine st_y S rfl rfl rfl (y_move S rfl) ?_; clear S a; intro a S
      refine st_y S rfl rfl rfl (y_compl32 S rfl) ?_; clear S a; intro a S
      refine st_y S rfl rfl rfl (y_assign S rfl) ?_; clear S a; intro a S
      refine wpList_nil ?_
      replace S := S.sub [(1, _), (5, _), (6, _), (12, _), (4, _)] rfl
      refine then_normal ?_
      refine wp_ret ?_
      refine end_one S rfl (res_tmp rfl) ?_
      obtain rfl : k = bs.length := by omega
      rw [List.take_length]
      exact ⟨rfl, M.below⟩

/-! ### one sum -/
theorem step1_bit (r : BitVec 32) : step1 r = (r >>> 1) ^^^ (if r.getLsbD 0 then 3988292384#32 else 0#32) := by
  have h : ((r &&& 1#32) == 1#32) = r.getLsbD 0 := by
    have e : r &&& 1#32 = if r.getLsbD 0 then 1#32 else 0#32 := by
      apply BitVec.eq_of_getLsbD_eq
      intro i hi
      cases hr : r.getLsbD 0
      · rcases Nat.eq_zero_or_pos i with rfl | hp
        · rw [BitVec.getLsbD_and, hr]; rfl
        · have : (1#32).getLsbD i = false := by simp [BitVec.getLsbD_one]; omega
          simp [this]
      · rcases Nat.eq_zero_or_pos i with rfl | hp
        · rw [BitVec.getLsbD_and, hr]; rfl
        · have : (1#32).getLsbD i = false := by simp [BitVec.getLsbD_one]; omega
          simp [this]
    rw [e]; cases r.getLsbD 0 <;> rfl
  unfold step1
  rw [h]
  cases r.getLsbD 0 <;> simp
theorem step1_xor (x y : BitVec 32) : step1 (x ^^^ y) = step1 x ^^^ step1 y := by
  rw [step1_bit, step1_bit x, step1_bit y, BitVec.ushiftRight_xor_distrib, BitVec.getLsbD_xor]
  generalize x >>> 1 = p
  generalize y >>> 1 = q
  generalize 3988292384#32 = T
  cases x.getLsbD 0 <;> cases y.getLsbD 0
  · simp
  · simp [BitVec.xor_assoc]
  · simp only [Bool.true_xor, Bool.not_false, if_true, Bool.false_eq_true, if_false, BitVec.xor_zero]
    rw [BitVec.xor_assoc, BitVec.xor_comm q T, ← BitVec.xor_assoc]
  · simp only [Bool.true_xor, Bool.not_true, if_true, Bool.false_eq_true, if_false, BitVec.xor_zero]
    rw [BitVec.xor_assoc p T, BitVec.xor_comm q T, ← BitVec.xor_assoc T T q, BitVec.xor_self, BitVec.zero_xor]
theorem stepN_xor : ∀ (k : Nat) (x y : BitVec 32), stepN k (x ^^^ y) = stepN k x ^^^ stepN k y
  | 0, _, _ => rfl
  | k + 1, x, y => by simp only [stepN, stepN_xor k, step1_xor]
theorem step1_even {r : BitVec 32} (h : r.getLsbD 0 = false) : step1 r = r >>> 1 := by rw [step1_bit, h]; simp
theorem stepN_high : ∀ (k : Nat) (r : BitVec 32), (∀ i, i < k → r.getLsbD i = false) → stepN k r = r >>> k
  | 0, r, _ => by simp [stepN]
  | k + 1, r, h => by
    rw [stepN, stepN_high k r (fun i hi => h i (by omega)), step1_even, ← BitVec.shiftRight_add]
    rw [BitVec.getLsbD_ushiftRight]
    exact h (k + 0) (by omega)
theorem ofNat_toNat32 (r : BitVec 32) : BitVec.ofNat 32 r.toNat = r := by simp
theorem halfT_eq (r : BitVec 32) : halfT r = stepN 4 r := by
  have hsplit : r = (r &&& 15#32) ^^^ (r &&& 4294967280#32) := by
    apply BitVec.eq_of_getLsbD_eq
    intro i hi
    have : ((15#32).getLsbD i ^^ (4294967280#32).getLsbD i) = true := by
      have key : ∀ j : Fin 32, ((15#32).getLsbD j ^^ (4294967280#32).getLsbD j) = true := by decide
      exact key ⟨i, hi⟩
    simp only [BitVec.getLsbD_xor, BitVec.getLsbD_and]
    cases r.getLsbD i <;> simp_all
  have hhigh : stepN 4 (r &&& 4294967280#32) = (r &&& 4294967280#32) >>> 4 := stepN_high 4 _ (fun i hi => by
    have key : ∀ j : Fin 4, (4294967280#32).getLsbD j = false := by decide
    rw [BitVec.getLsbD_and, key ⟨i, hi⟩]; simp)
  have hsh : (r &&& 4294967280#32) >>> 4 = r >>> 4 := by
    apply BitVec.eq_of_getLsbD_eq
    intro i hi
    rw [BitVec.getLsbD_ushiftRight, BitVec.getLsbD_ushiftRight, BitVec.getLsbD_and]
    rcases Nat.lt_or_ge (4 + i) 32 with h | h
    · have key : ∀ j : Fin 28, (4294967280#32).getLsbD (4 + j) = true := by decide
      rw [key ⟨i, by omega⟩]; simp
    · rw [BitVec.getLsbD_of_ge _ _ h]; simp
  unfold halfT
  rw [ofNat_toNat32]
  conv => rhs; rw [hsplit, stepN_xor, hhigh, hsh]
theorem stepN_add (x y : Nat) (r : BitVec 32) : stepN (x + y) r = stepN x (stepN y r) := by
  induction x with
  | zero => simp [stepN]
  | succ x ih => rw [show x + 1 + y = (x + y) + 1 by omega]; simp only [stepN, ih]
theorem byteT_eq (r : BitVec 32) (b : UInt8) : byteT r b = remT r b := by
  unfold byteT remT
  rw [halfT_eq, halfT_eq, ← stepN_add]
theorem runT_eq (r : BitVec 32) (bs : List UInt8) : runT r bs = refRun r bs := by
  unfold runT refRun
  congr 1
  funext r b; exact byteT_eq r b

theorem refSum_any (v : Value) (bs : List UInt8) (w : World) (hv : Bs 0 w.heap.size w v bs) : Calls Try.prog 42 #[v] w fun e w' => e = .returned (.int .u32 ((sumT bs).toNat : Int)) ∧ Below w.heap.size w w' := by
  have M := Mem.start w
  refine calls_enter Try.func42 rfl 5 rfl rfl ?_; intro a S
  refine wp_seq ?_
  -- region 0 ref.go:27
  refine wp_region_lit ?_
  refine st_y S rfl rfl rfl (y_assign S rfl) ?_; clear S a; intro a S
  refine wpList_nil ?_
  replace S := S.sub [(0, _), (2, _)] rfl
  refine then_normal ?_
  refine wp_seq ?_
  -- region 1 ref.go:27
  refine wp_region_lit ?_
  refine st_y S rfl rfl rfl (y_move S rfl) ?_; clear S a; intro a S
  refine st_call (xs := [(Operand.const (Value.int IntKind.u32 0)), (Operand.tmp 3)]) S (enters_of Try.func52 (by decide) rfl) rfl rfl rfl (refJoin_any 0#32 v bs _ (M.argW hv)) ?_
  rintro _ w1 ⟨rfl, hK⟩; refine ⟨_, rfl, ?_⟩; clear S a; intro a S; replace M := M.grow hK
  refine st_y S rfl rfl rfl (y_assign S rfl) ?_; clear S a; intro a S
  refine wpList_nil ?_
  replace S := S.sub [(0, _), (2, _)] rfl
  refine then_normal ?_
  refine wp_ret ?_
  refine end_one S rfl (res_tmp rfl) ?_
  refine ⟨?_, M.below⟩
  rw [sumT, runT_eq]; rfl

end Go.Proofs.Ytcpobgjoicadjaa
