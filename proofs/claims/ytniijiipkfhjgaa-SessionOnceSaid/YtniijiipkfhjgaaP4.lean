/-
  What SessionOnce rests on, part 4.
-/
import Derived.Test.YtniijiipkfhjgaaP3
namespace Go.Proofs.Ytniijiipkfhjgaa
open Go.RowKit Go.Sort
theorem Mem.eqH {w0 w : World} {H H' : List Ent} (M : Mem w0 w H) (h : H = H') : Mem w0 w H' := h ▸ M
/-- a kind's cells: is it the coordinator's, which fields has it -/
abbrev kdL (d : Bool) (h : Nat → Bool) : List Value := [.bool d, .bool (h 0), .bool (h 1), .bool (h 2), .bool (h 3), .bool (h 4), .bool (h 5), .bool (h 6), .bool (h 7), .bool (h 8), .bool (h 9)]
theorem ten {x : Nat} (hx : x < 10) : x = 0 ∨ x = 1 ∨ x = 2 ∨ x = 3 ∨ x = 4 ∨ x = 5 ∨ x = 6 ∨ x = 7 ∨ x = 8 ∨ x = 9 := by omega
theorem kd_put {d : Bool} {h h' : Nat → Bool} {x : Nat} (hx : x < 10) (h1 : ∀ i, h' i = (h i || i == x)) : putL (kdL d h) (1 + x) [.bool true] = kdL d h' := by
  rcases ten hx with rfl | rfl | rfl | rfl | rfl | rfl | rfl | rfl | rfl | rfl <;> simp [putL, h1]
theorem kd_get {d : Bool} {h : Nat → Bool} {x : Nat} (hx : x < 10) : (kdL d h).toArray[0 + 1 + x]? = some (.bool (h x)) := by
  rcases ten hx with rfl | rfl | rfl | rfl | rfl | rfl | rfl | rfl | rfl | rfl <;> rfl
def ncells (fs : List Nat) : List Value := fs.map fun (x : Nat) => .int .i64 (x : Int)
theorem Rd.ncell {lo hi i : Nat} {w : World} {v : Value} {fs : List Nat} {z : Nat} (h : Rd lo hi w 1 v fs.length (ncells fs)) (hz : fs[i]? = some z) : w.cell? ⟨(adr v).block, (adr v).off + i, none⟩ = some (.int .i64 (z : Int)) := by
  have hlt := (List.getElem?_eq_some_iff.1 hz).1
  rw [h.at_ i (by simpa [ncells] using hlt)]; simp [ncells, hz]
theorem with_any (d : Bool) (v : Value) (fs : List Nat) (w : World) (hv : Rd 0 w.heap.size w 1 v fs.length (ncells fs)) (h10 : ∀ x ∈ fs, x < 10) :
    Calls Try.prog 54 #[.bool d, v] w fun e w' => e = .returned (.agg (kdL d (fun i => fs.contains i)).toArray) ∧ Below w.heap.size w w' := by
  have M := Mem.start w
  have hl := hv.2.1
  unfold maxLen at hl
  refine calls_enter Try.func54 rfl 21 rfl rfl ?_; intro a S
  refine nxD ?_
  refine st_alloc S M rfl rfl #[.bool false, .bool false, .bool false, .bool false, .bool false, .bool false, .bool false, .bool false, .bool false, .bool false, .bool false] (by kernel_rfl) ?_; clear S M a; intro a w1 bO S M hB
  refine nxA ?_
  refine st_go [1] S rfl (by kernel_rfl) ?_; clear S a; intro a S
  refine st_y S rfl rfl rfl (y_build (ps := [(0, (Operand.tmp 8))]) (pl := [(0, 1), (1, 10)]) (z := [.bool false, .bool false, .bool false, .bool false, .bool false, .bool false, .bool false, .bool false, .bool false, .bool false, .bool false]) (cs := [_, _, _, _, _, _, _, _, _, _, _]) S (by kernel_rfl) rfl (rfl)) ?_; clear S a; intro a S
  refine st_alloc S M rfl rfl #[.bool false, .bool false, .bool false, .bool false, .bool false, .bool false, .bool false, .bool false, .bool false, .bool false, .bool false] (by kernel_rfl) ?_; clear S M a; intro a w2 bK S M hB
  refine st_store (sz := 11) (us := [_, _, _, _, _, _, _, _, _, _, _]) S M 0 rfl (by kernel_rfl) rfl rfl rfl rfl rfl rfl (by first | decide | (simp; done) | (simp; omega)) ?_; clear M; intro w3 M
  simp only [putL, List.set_cons_zero, List.set_cons_succ, Nat.reduceAdd] at M
  refine nxC ?_
  refine wp_seq ?_
  refine nxD ?_
  refine st_go [1] S rfl (by kernel_rfl) ?_; clear S a; intro a S
  refine st_y S rfl rfl rfl (y_lenR (E := 3) S rfl (M.arg hv) (by kernel_rfl)) ?_; clear S a; intro a S
  refine st_go [1] S rfl (by kernel_rfl) ?_; clear S a; intro a S
  refine nxC ?_
  refine wp_block ?_
  refine wp_loop_g (fun m a w' => ∃ (k : Nat), k ≤ fs.length ∧ m = fs.length - k ∧ Sees 21 a [(4, .pointer (some ⟨bO, 0, none⟩)), (5, .pointer (some ⟨bK, 0, none⟩)), (10, v), (11, .int .i64 (fs.length : Int)), (12, .int .i64 (k : Int))] ∧ Mem w w' [.blk bK (kdL d (fun i => (fs.take k).contains i)).toArray 107, .blk bO (kdL false (fun _ => false)).toArray 107]) (fs.length) ?_ ?_
  · skip
    exact ⟨0, Nat.zero_le _, rfl, S.sub _ rfl, M⟩
  clear S M a; intro m a wl
  rintro ⟨k, hk, rfl, S, M⟩
  refine nxD ?_
  refine st_go [1] S rfl (by kernel_rfl) ?_; clear S a; intro a S
  refine nxC ?_
  refine wp_seq ?_
  refine st_fi (t := 13) S rfl ?_ ?_
  · clear S; intro h13 S
    refine st_condF S rfl ?_
    refine wp_exit ?_
    refine then_exit ?_
    refine then_exit ?_
    refine block_hit ?_
    refine nxE ?_
    refine st_y S rfl rfl rfl (y_loadAgg (cs := [_, _, _, _, _, _, _, _, _, _, _]) S (by kernel_rfl) rfl rfl (M.cellsAt (k := 11) 0 rfl rfl)) ?_; clear S a; intro a S
    refine st_store (sz := 11) (us := [_, _, _, _, _, _, _, _, _, _, _]) S M 1 rfl (by kernel_rfl) rfl rfl rfl rfl rfl rfl (by first | decide | (simp; done) | (simp; omega)) ?_; clear M; intro w5 M
    simp only [putL, List.set_cons_zero, List.set_cons_succ, Nat.reduceAdd] at M
    refine nxC ?_
    refine wp_ret ?_
    refine end_one S rfl (res_agg (cs := [_, _, _, _, _, _, _, _, _, _, _]) (by kernel_rfl) rfl rfl (M.cellsAt (k := 11) 1 rfl rfl)) ?_
    obtain rfl : k = fs.length := by omega
    rw [List.take_length]; exact ⟨rfl, M.below⟩
  clear S; intro h13 S
  refine st_condT S rfl ?_
  refine wp_skip ?_
  refine then_normal ?_
  refine wp_seq ?_
  refine wp_block ?_
  refine nxD ?_
  obtain ⟨x, hx⟩ : ∃ x, fs[k]? = some x := ⟨_, List.getElem?_eq_getElem (by omega)⟩
  have hx10 := h10 x (List.mem_of_getElem? hx)
  refine st_y S rfl rfl rfl (y_indexR (e := 3) (sz := 1) S (by kernel_rfl) rfl ((M.arg hv)) rfl (by first | omega | (simp; done) | (simp; omega))) ?_; clear S a; intro a S
  try simp only [Int.toNat_natCast, Nat.mul_one, Nat.zero_add] at S
  refine st_y S rfl rfl rfl (y_load S (by kernel_rfl) rfl ((M.arg hv).ncell hx)) ?_; clear S a; intro a S
  refine st_go [1] S rfl (by kernel_rfl) ?_; clear S a; intro a S
  refine nxB ?_
  refine st_go [1, 2] S rfl (by kernel_rfl) ?_; clear S a; intro a S
  refine st_y S rfl rfl rfl (y_indexA (m := 10) (sz := 1) S (by kernel_rfl) rfl rfl (by first | omega | (simp; done) | (simp; omega))) ?_; clear S a; intro a S
  try simp only [Int.toNat_natCast, Nat.mul_one, Nat.zero_add] at S
  refine st_store (sz := 1) (us := [_]) S M 0 rfl (by kernel_rfl) rfl rfl rfl rfl rfl rfl (by simp; omega) ?_; clear M; intro w4 M
  simp only [List.set_cons_zero, List.set_cons_succ] at M
  refine wpList_nil ?_
  refine block_normal ?_
  refine nxF ?_
  (first | refine st_y S rfl rfl rfl (y_addN S rfl rfl (by omega)) ?_ | refine st_y S rfl rfl rfl (y_int S rfl rfl rfl) ?_); clear S a; intro a S
  refine st_go [1] S rfl (by kernel_rfl) ?_; clear S a; intro a S
  refine nxC ?_
  refine ⟨fs.length - (k + 1), by omega, k + 1, by omega, rfl, S.sub _ rfl, ?_⟩
  obtain ⟨hlt, he⟩ := List.getElem?_eq_some_iff.1 hx
  have e := kd_put (d := d) (h := fun i => (fs.take k).contains i) (h' := fun i => (fs.take (k + 1)).contains i) hx10 (fun i => by
    rw [List.take_succ_eq_append_getElem hlt, he, List.contains_eq_any_beq, List.contains_eq_any_beq, List.any_append]; simp [List.any_cons])
  rw [← e]; exact M
def kdown (k : Int) : Bool := k == 1 || k == 2 || k == 4 || k == 6 || k == 9
/-- which fields a kind's messages have -/
def kfields (k : Int) : List Nat :=
  if k = 2 then [0, 1, 2, 3, 4] else if k = 3 then [0, 1, 4, 5] else if k = 4 then [0, 7, 8, 9] else if k = 5 then [0, 6] else if k = 6 then [0, 6] else if k = 7 then [0] else if k = 8 then [0] else if k = 9 then [0] else if k = 10 then [0, 5] else []
def khas (k : Int) (i : Nat) : Bool := (kfields k).contains i
def isKind (k : Int) : Bool := decide (1 ≤ k ∧ k ≤ 11)
theorem kindOf_any (k : Int) (w : World) : Calls Try.prog 41 #[.int .i8 k] w fun e w' => e = .returned (.tuple #[.agg (kdL (kdown k) (khas k)).toArray, .bool (isKind k)]) ∧ Below w.heap.size w w' := by
  have M := Mem.start w
  refine calls_enter Try.func41 rfl 45 rfl rfl ?_; intro a S
  refine nxD ?_
  refine st_alloc S M rfl rfl #[.bool false, .bool false, .bool false, .bool false, .bool false, .bool false, .bool false, .bool false, .bool false, .bool false, .bool false] (by kernel_rfl) ?_; clear S M a; intro a w1 bO S M hB
  refine st_go [1] S rfl (by kernel_rfl) ?_; clear S a; intro a S
  refine nxC ?_
  refine wp_seq ?_
  refine nxD ?_
  refine st_go [1] S rfl (by kernel_rfl) ?_; clear S a; intro a S
  refine nxC ?_
  refine wp_block ?_
  refine nxD ?_
  refine st_go [1, 1] S rfl (by kernel_rfl) ?_; clear S a; intro a S
  refine nxC ?_
  refine st_if (t := 5) S rfl ?_ ?_
  · clear S; intro h5 S
    refine st_condT S rfl ?_
    refine nxD ?_
    refine st_call (xs := [(Operand.const (Value.bool true)), (Operand.const (Value.slice none 0 0))]) S (enters_of Try.func54 (by decide) rfl) rfl rfl rfl (with_any true _ [] _ (Rd.nil _ _ _ _) (by simp)) ?_
    rintro _ w2 ⟨rfl, hK⟩; refine ⟨_, rfl, ?_⟩; clear S a; intro a S; replace M := M.grow hK
    refine st_store (sz := 11) (us := [_, _, _, _, _, _, _, _, _, _, _]) S M 0 rfl (by kernel_rfl) rfl rfl rfl rfl rfl rfl (by first | decide | (simp; done) | (simp; omega)) ?_; clear M; intro w3 M
    simp only [putL, List.set_cons_zero, List.set_cons_succ, Nat.reduceAdd] at M
    refine st_go [1] S rfl (by kernel_rfl) ?_; clear S a; intro a S
    refine nxC ?_
    refine wp_ret ?_
    refine block_ret ?_
    refine then_ret ?_
    refine end_two S rfl (res_agg (cs := [_, _, _, _, _, _, _, _, _, _, _]) (by kernel_rfl) rfl rfl (M.cellsAt (k := 11) 0 rfl rfl)) (res_tmp rfl) ?_
    have hB' := M.below
    clear S M
    first
      | (suffices hk : k = 1 by (subst hk; exact ⟨rfl, hB'⟩)
         assumption)
      | (suffices hk : k = 11 by (subst hk; exact ⟨rfl, hB'⟩)
         assumption)
      | (suffices hk : k = 2 by (subst hk; exact ⟨rfl, hB'⟩)
         assumption)
      | (suffices hk : k = 3 by (subst hk; exact ⟨rfl, hB'⟩)
         assumption)
      | (suffices hk : k = 4 by (subst hk; exact ⟨rfl, hB'⟩)
         assumption)
      | (suffices hk : k = 5 by (subst hk; exact ⟨rfl, hB'⟩)
         assumption)
      | (suffices hk : k = 6 by (subst hk; exact ⟨rfl, hB'⟩)
         assumption)
      | (suffices hk : k = 7 by (subst hk; exact ⟨rfl, hB'⟩)
         assumption)
      | (suffices hk : k = 8 by (subst hk; exact ⟨rfl, hB'⟩)
         assumption)
      | (suffices hk : k = 9 by (subst hk; exact ⟨rfl, hB'⟩)
         assumption)
      | (suffices hk : k = 10 by (subst hk; exact ⟨rfl, hB'⟩)
         assumption)
      | (have e1 : isKind k = false := by unfold isKind; rw [decide_eq_false (by omega)]
         have e2 : kdown k = false := by unfold kdown; simp; omega
         have e3 : kfields k = [] := by unfold kfields; (repeat rw [if_neg (by omega)])
         unfold khas; rw [e1, e2, e3]; exact ⟨rfl, hB'⟩)
  clear S; intro h5 S
  refine st_condF S rfl ?_
  refine nxD ?_
  refine st_go [1, 1] S rfl (by kernel_rfl) ?_; clear S a; intro a S
  refine nxC ?_
  refine st_if (t := 8) S rfl ?_ ?_
  · clear S; intro h8 S
    refine st_condT S rfl ?_
    refine nxD ?_
    refine st_call (xs := [(Operand.const (Value.bool false)), (Operand.const (Value.slice none 0 0))]) S (enters_of Try.func54 (by decide) rfl) rfl rfl rfl (with_any false _ [] _ (Rd.nil _ _ _ _) (by simp)) ?_
    rintro _ w4 ⟨rfl, hK⟩; refine ⟨_, rfl, ?_⟩; clear S a; intro a S; replace M := M.grow hK
    refine st_store (sz := 11) (us := [_, _, _, _, _, _, _, _, _, _, _]) S M 0 rfl (by kernel_rfl) rfl rfl rfl rfl rfl rfl (by first | decide | (simp; done) | (simp; omega)) ?_; clear M; intro w5 M
    simp only [putL, List.set_cons_zero, List.set_cons_succ, Nat.reduceAdd] at M
    refine st_go [1] S rfl (by kernel_rfl) ?_; clear S a; intro a S
    refine nxC ?_
    refine wp_ret ?_
    refine block_ret ?_
    refine then_ret ?_
    refine end_two S rfl (res_agg (cs := [_, _, _, _, _, _, _, _, _, _, _]) (by kernel_rfl) rfl rfl (M.cellsAt (k := 11) 0 rfl rfl)) (res_tmp rfl) ?_
    have hB' := M.below
    clear S M
    first
      | (suffices hk : k = 1 by (subst hk; exact ⟨rfl, hB'⟩)
         assumption)
      | (suffices hk : k = 11 by (subst hk; exact ⟨rfl, hB'⟩)
         assumption)
      | (suffices hk : k = 2 by (subst hk; exact ⟨rfl, hB'⟩)
         assumption)
      | (suffices hk : k = 3 by (subst hk; exact ⟨rfl, hB'⟩)
         assumption)
      | (suffices hk : k = 4 by (subst hk; exact ⟨rfl, hB'⟩)
         assumption)
      | (suffices hk : k = 5 by (subst hk; exact ⟨rfl, hB'⟩)
         assumption)
      | (suffices hk : k = 6 by (subst hk; exact ⟨rfl, hB'⟩)
         assumption)
      | (suffices hk : k = 7 by (subst hk; exact ⟨rfl, hB'⟩)
         assumption)
      | (suffices hk : k = 8 by (subst hk; exact ⟨rfl, hB'⟩)
         assumption)
      | (suffices hk : k = 9 by (subst hk; exact ⟨rfl, hB'⟩)
         assumption)
      | (suffices hk : k = 10 by (subst hk; exact ⟨rfl, hB'⟩)
         assumption)
      | (have e1 : isKind k = false := by unfold isKind; rw [decide_eq_false (by omega)]
         have e2 : kdown k = false := by unfold kdown; simp; omega
         have e3 : kfields k = [] := by unfold kfields; (repeat rw [if_neg (by omega)])
         unfold khas; rw [e1, e2, e3]; exact ⟨rfl, hB'⟩)
  clear S; intro h8 S
  refine st_condF S rfl ?_
  refine nxD ?_
  refine st_go [1, 1] S rfl (by kernel_rfl) ?_; clear S a; intro a S
  refine nxC ?_
  refine st_if (t := 11) S rfl ?_ ?_
  · clear S; intro h11 S
    refine st_condT S rfl ?_
    refine nxD ?_
    refine st_lit (ps := [(0, (Operand.const (Value.int IntKind.i64 0))), (1, (Operand.const (Value.int IntKind.i64 1))), (2, (Operand.const (Value.int IntKind.i64 2))), (3, (Operand.const (Value.int IntKind.i64 3))), (4, (Operand.const (Value.int IntKind.i64 4)))]) (e := 3) (sz := 1) (zl := [.int .i64 0, .int .i64 0, .int .i64 0, .int .i64 0, .int .i64 0]) (cs := [_, _, _, _, _]) S M rfl rfl (by kernel_rfl) rfl (rfl) ?_; clear S M a; intro a w6 bZ S M hB
    refine st_call (xs := [(Operand.const (Value.bool true)), (Operand.tmp 13)]) S (enters_of Try.func54 (by decide) rfl) rfl rfl rfl (with_any true _ [0, 1, 2, 3, 4] _ (M.sliceAt 0 rfl (M.cellsAt (k := 5) 0 rfl rfl) rfl (Nat.le_refl _) (by unfold maxLen; omega)) (by decide)) ?_
    rintro _ w7 ⟨rfl, hK⟩; refine ⟨_, rfl, ?_⟩; clear S a; intro a S; replace M := M.grow hK
    refine st_store (sz := 11) (us := [_, _, _, _, _, _, _, _, _, _, _]) S M 1 rfl (by kernel_rfl) rfl rfl rfl rfl rfl rfl (by first | decide | (simp; done) | (simp; omega)) ?_; clear M; intro w8 M
    simp only [putL, List.set_cons_zero, List.set_cons_succ, Nat.reduceAdd] at M
    refine st_go [1] S rfl (by kernel_rfl) ?_; clear S a; intro a S
    refine nxC ?_
    refine wp_ret ?_
    refine block_ret ?_
    refine then_ret ?_
    refine end_two S rfl (res_agg (cs := [_, _, _, _, _, _, _, _, _, _, _]) (by kernel_rfl) rfl rfl (M.cellsAt (k := 11) 1 rfl rfl)) (res_tmp rfl) ?_
    have hB' := M.below
    clear S M
    first
      | (suffices hk : k = 1 by (subst hk; exact ⟨rfl, hB'⟩)
         assumption)
      | (suffices hk : k = 11 by (subst hk; exact ⟨rfl, hB'⟩)
         assumption)
      | (suffices hk : k = 2 by (subst hk; exact ⟨rfl, hB'⟩)
         assumption)
      | (suffices hk : k = 3 by (subst hk; exact ⟨rfl, hB'⟩)
         assumption)
      | (suffices hk : k = 4 by (subst hk; exact ⟨rfl, hB'⟩)
         assumption)
      | (suffices hk : k = 5 by (subst hk; exact ⟨rfl, hB'⟩)
         assumption)
      | (suffices hk : k = 6 by (subst hk; exact ⟨rfl, hB'⟩)
         assumption)
      | (suffices hk : k = 7 by (subst hk; exact ⟨rfl, hB'⟩)
         assumption)
      | (suffices hk : k = 8 by (subst hk; exact ⟨rfl, hB'⟩)
         assumption)
      | (suffices hk : k = 9 by (subst hk; exact ⟨rfl, hB'⟩)
         assumption)
      | (suffices hk : k = 10 by (subst hk; exact ⟨rfl, hB'⟩)
         assumption)
      | (have e1 : isKind k = false := by unfold isKind; rw [decide_eq_false (by omega)]
         have e2 : kdown k = false := by unfold kdown; simp; omega
         have e3 : kfields k = [] := by unfold kfields; (repeat rw [if_neg (by omega)])
         unfold khas; rw [e1, e2, e3]; exact ⟨rfl, hB'⟩)
  clear S; intro h11 S
  refine st_condF S rfl ?_
  refine nxD ?_
  refine st_go [1, 1] S rfl (by kernel_rfl) ?_; clear S a; intro a S
  refine nxC ?_
  refine st_if (t := 15) S rfl ?_ ?_
  · clear S; intro h15 S
    refine st_condT S rfl ?_
    refine nxD ?_
    refine st_lit (ps := [(0, (Operand.const (Value.int IntKind.i64 0))), (1, (Operand.const (Value.int IntKind.i64 1))), (2, (Operand.const (Value.int IntKind.i64 4))), (3, (Operand.const (Value.int IntKind.i64 5)))]) (e := 3) (sz := 1) (zl := [.int .i64 0, .int .i64 0, .int .i64 0, .int .i64 0]) (cs := [_, _, _, _]) S M rfl rfl (by kernel_rfl) rfl (rfl) ?_; clear S M a; intro a w9 bZ S M hB
    refine st_call (xs := [(Operand.const (Value.bool false)), (Operand.tmp 17)]) S (enters_of Try.func54 (by decide) rfl) rfl rfl rfl (with_any false _ [0, 1, 4, 5] _ (M.sliceAt 0 rfl (M.cellsAt (k := 4) 0 rfl rfl) rfl (Nat.le_refl _) (by unfold maxLen; omega)) (by decide)) ?_
    rintro _ w10 ⟨rfl, hK⟩; refine ⟨_, rfl, ?_⟩; clear S a; intro a S; replace M := M.grow hK
    refine st_store (sz := 11) (us := [_, _, _, _, _, _, _, _, _, _, _]) S M 1 rfl (by kernel_rfl) rfl rfl rfl rfl rfl rfl (by first | decide | (simp; done) | (simp; omega)) ?_; clear M; intro w11 M
    simp only [putL, List.set_cons_zero, List.set_cons_succ, Nat.reduceAdd] at M
    refine st_go [1] S rfl (by kernel_rfl) ?_; clear S a; intro a S
    refine nxC ?_
    refine wp_ret ?_
    refine block_ret ?_
    refine then_ret ?_
    refine end_two S rfl (res_agg (cs := [_, _, _, _, _, _, _, _, _, _, _]) (by kernel_rfl) rfl rfl (M.cellsAt (k := 11) 1 rfl rfl)) (res_tmp rfl) ?_
    have hB' := M.below
    clear S M
    first
      | (suffices hk : k = 1 by (subst hk; exact ⟨rfl, hB'⟩)
         assumption)
      | (suffices hk : k = 11 by (subst hk; exact ⟨rfl, hB'⟩)
         assumption)
      | (suffices hk : k = 2 by (subst hk; exact ⟨rfl, hB'⟩)
         assumption)
      | (suffices hk : k = 3 by (subst hk; exact ⟨rfl, hB'⟩)
         assumption)
      | (suffices hk : k = 4 by (subst hk; exact ⟨rfl, hB'⟩)
         assumption)
      | (suffices hk : k = 5 by (subst hk; exact ⟨rfl, hB'⟩)
         assumption)
      | (suffices hk : k = 6 by (subst hk; exact ⟨rfl, hB'⟩)
         assumption)
      | (suffices hk : k = 7 by (subst hk; exact ⟨rfl, hB'⟩)
         assumption)
      | (suffices hk : k = 8 by (subst hk; exact ⟨rfl, hB'⟩)
         assumption)
      | (suffices hk : k = 9 by (subst hk; exact ⟨rfl, hB'⟩)
         assumption)
      | (suffices hk : k = 10 by (subst hk; exact ⟨rfl, hB'⟩)
         assumption)
      | (have e1 : isKind k = false := by unfold isKind; rw [decide_eq_false (by omega)]
         have e2 : kdown k = false := by unfold kdown; simp; omega
         have e3 : kfields k = [] := by unfold kfields; (repeat rw [if_neg (by omega)])
         unfold khas; rw [e1, e2, e3]; exact ⟨rfl, hB'⟩)
  clear S; intro h15 S
  refine st_condF S rfl ?_
  refine nxD ?_
  refine st_go [1, 1] S rfl (by kernel_rfl) ?_; clear S a; intro a S
  refine nxC ?_
  refine st_if (t := 19) S rfl ?_ ?_
  · clear S; intro h19 S
    refine st_condT S rfl ?_
    refine nxD ?_
    refine st_lit (ps := [(0, (Operand.const (Value.int IntKind.i64 0))), (1, (Operand.const (Value.int IntKind.i64 7))), (2, (Operand.const (Value.int IntKind.i64 8))), (3, (Operand.const (Value.int IntKind.i64 9)))]) (e := 3) (sz := 1) (zl := [.int .i64 0, .int .i64 0, .int .i64 0, .int .i64 0]) (cs := [_, _, _, _]) S M rfl rfl (by kernel_rfl) rfl (rfl) ?_; clear S M a; intro a w12 bZ S M hB
    refine st_call (xs := [(Operand.const (Value.bool true)), (Operand.tmp 21)]) S (enters_of Try.func54 (by decide) rfl) rfl rfl rfl (with_any true _ [0, 7, 8, 9] _ (M.sliceAt 0 rfl (M.cellsAt (k := 4) 0 rfl rfl) rfl (Nat.le_refl _) (by unfold maxLen; omega)) (by decide)) ?_
    rintro _ w13 ⟨rfl, hK⟩; refine ⟨_, rfl, ?_⟩; clear S a; intro a S; replace M := M.grow hK
    refine st_store (sz := 11) (us := [_, _, _, _, _, _, _, _, _, _, _]) S M 1 rfl (by kernel_rfl) rfl rfl rfl rfl rfl rfl (by first | decide | (simp; done) | (simp; omega)) ?_; clear M; intro w14 M
    simp only [putL, List.set_cons_zero, List.set_cons_succ, Nat.reduceAdd] at M
    refine st_go [1] S rfl (by kernel_rfl) ?_; clear S a; intro a S
    refine nxC ?_
    refine wp_ret ?_
    refine block_ret ?_
    refine then_ret ?_
    refine end_two S rfl (res_agg (cs := [_, _, _, _, _, _, _, _, _, _, _]) (by kernel_rfl) rfl rfl (M.cellsAt (k := 11) 1 rfl rfl)) (res_tmp rfl) ?_
    have hB' := M.below
    clear S M
    first
      | (suffices hk : k = 1 by (subst hk; exact ⟨rfl, hB'⟩)
         assumption)
      | (suffices hk : k = 11 by (subst hk; exact ⟨rfl, hB'⟩)
         assumption)
      | (suffices hk : k = 2 by (subst hk; exact ⟨rfl, hB'⟩)
         assumption)
      | (suffices hk : k = 3 by (subst hk; exact ⟨rfl, hB'⟩)
         assumption)
      | (suffices hk : k = 4 by (subst hk; exact ⟨rfl, hB'⟩)
         assumption)
      | (suffices hk : k = 5 by (subst hk; exact ⟨rfl, hB'⟩)
         assumption)
      | (suffices hk : k = 6 by (subst hk; exact ⟨rfl, hB'⟩)
         assumption)
      | (suffices hk : k = 7 by (subst hk; exact ⟨rfl, hB'⟩)
         assumption)
      | (suffices hk : k = 8 by (subst hk; exact ⟨rfl, hB'⟩)
         assumption)
      | (suffices hk : k = 9 by (subst hk; exact ⟨rfl, hB'⟩)
         assumption)
      | (suffices hk : k = 10 by (subst hk; exact ⟨rfl, hB'⟩)
         assumption)
      | (have e1 : isKind k = false := by unfold isKind; rw [decide_eq_false (by omega)]
         have e2 : kdown k = false := by unfold kdown; simp; omega
         have e3 : kfields k = [] := by unfold kfields; (repeat rw [if_neg (by omega)])
         unfold khas; rw [e1, e2, e3]; exact ⟨rfl, hB'⟩)
  clear S; intro h19 S
  refine st_condF S rfl ?_
  refine nxD ?_
  refine st_go [1, 1] S rfl (by kernel_rfl) ?_; clear S a; intro a S
  refine nxC ?_
  refine st_if (t := 23) S rfl ?_ ?_
  · clear S; intro h23 S
    refine st_condT S rfl ?_
    refine nxD ?_
    refine st_lit (ps := [(0, (Operand.const (Value.int IntKind.i64 0))), (1, (Operand.const (Value.int IntKind.i64 6)))]) (e := 3) (sz := 1) (zl := [.int .i64 0, .int .i64 0]) (cs := [_, _]) S M rfl rfl (by kernel_rfl) rfl (rfl) ?_; clear S M a; intro a w15 bZ S M hB
    refine st_call (xs := [(Operand.const (Value.bool false)), (Operand.tmp 25)]) S (enters_of Try.func54 (by decide) rfl) rfl rfl rfl (with_any false _ [0, 6] _ (M.sliceAt 0 rfl (M.cellsAt (k := 2) 0 rfl rfl) rfl (Nat.le_refl _) (by unfold maxLen; omega)) (by decide)) ?_
    rintro _ w16 ⟨rfl, hK⟩; refine ⟨_, rfl, ?_⟩; clear S a; intro a S; replace M := M.grow hK
    refine st_store (sz := 11) (us := [_, _, _, _, _, _, _, _, _, _, _]) S M 1 rfl (by kernel_rfl) rfl rfl rfl rfl rfl rfl (by first | decide | (simp; done) | (simp; omega)) ?_; clear M; intro w17 M
    simp only [putL, List.set_cons_zero, List.set_cons_succ, Nat.reduceAdd] at M
    refine st_go [1] S rfl (by kernel_rfl) ?_; clear S a; intro a S
    refine nxC ?_
    refine wp_ret ?_
    refine block_ret ?_
    refine then_ret ?_
    refine end_two S rfl (res_agg (cs := [_, _, _, _, _, _, _, _, _, _, _]) (by kernel_rfl) rfl rfl (M.cellsAt (k := 11) 1 rfl rfl)) (res_tmp rfl) ?_
    have hB' := M.below
    clear S M
    first
      | (suffices hk : k = 1 by (subst hk; exact ⟨rfl, hB'⟩)
         assumption)
      | (suffices hk : k = 11 by (subst hk; exact ⟨rfl, hB'⟩)
         assumption)
      | (suffices hk : k = 2 by (subst hk; exact ⟨rfl, hB'⟩)
         assumption)
      | (suffices hk : k = 3 by (subst hk; exact ⟨rfl, hB'⟩)
         assumption)
      | (suffices hk : k = 4 by (subst hk; exact ⟨rfl, hB'⟩)
         assumption)
      | (suffices hk : k = 5 by (subst hk; exact ⟨rfl, hB'⟩)
         assumption)
      | (suffices hk : k = 6 by (subst hk; exact ⟨rfl, hB'⟩)
         assumption)
      | (suffices hk : k = 7 by (subst hk; exact ⟨rfl, hB'⟩)
         assumption)
      | (suffices hk : k = 8 by (subst hk; exact ⟨rfl, hB'⟩)
         assumption)
      | (suffices hk : k = 9 by (subst hk; exact ⟨rfl, hB'⟩)
         assumption)
      | (suffices hk : k = 10 by (subst hk; exact ⟨rfl, hB'⟩)
         assumption)
      | (have e1 : isKind k = false := by unfold isKind; rw [decide_eq_false (by omega)]
         have e2 : kdown k = false := by unfold kdown; simp; omega
         have e3 : kfields k = [] := by unfold kfields; (repeat rw [if_neg (by omega)])
         unfold khas; rw [e1, e2, e3]; exact ⟨rfl, hB'⟩)
  clear S; intro h23 S
  refine st_condF S rfl ?_
  refine nxD ?_
  refine st_go [1, 1] S rfl (by kernel_rfl) ?_; clear S a; intro a S
  refine nxC ?_
  refine st_if (t := 27) S rfl ?_ ?_
  · clear S; intro h27 S
    refine st_condT S rfl ?_
    refine nxD ?_
    refine st_lit (ps := [(0, (Operand.const (Value.int IntKind.i64 0))), (1, (Operand.const (Value.int IntKind.i64 6)))]) (e := 3) (sz := 1) (zl := [.int .i64 0, .int .i64 0]) (cs := [_, _]) S M rfl rfl (by kernel_rfl) rfl (rfl) ?_; clear S M a; intro a w18 bZ S M hB
    refine st_call (xs := [(Operand.const (Value.bool true)), (Operand.tmp 29)]) S (enters_of Try.func54 (by decide) rfl) rfl rfl rfl (with_any true _ [0, 6] _ (M.sliceAt 0 rfl (M.cellsAt (k := 2) 0 rfl rfl) rfl (Nat.le_refl _) (by unfold maxLen; omega)) (by decide)) ?_
    rintro _ w19 ⟨rfl, hK⟩; refine ⟨_, rfl, ?_⟩; clear S a; intro a S; replace M := M.grow hK
    refine st_store (sz := 11) (us := [_, _, _, _, _, _, _, _, _, _, _]) S M 1 rfl (by kernel_rfl) rfl rfl rfl rfl rfl rfl (by first | decide | (simp; done) | (simp; omega)) ?_; clear M; intro w20 M
    simp only [putL, List.set_cons_zero, List.set_cons_succ, Nat.reduceAdd] at M
    refine st_go [1] S rfl (by kernel_rfl) ?_; clear S a; intro a S
    refine nxC ?_
    refine wp_ret ?_
    refine block_ret ?_
    refine then_ret ?_
    refine end_two S rfl (res_agg (cs := [_, _, _, _, _, _, _, _, _, _, _]) (by kernel_rfl) rfl rfl (M.cellsAt (k := 11) 1 rfl rfl)) (res_tmp rfl) ?_
    have hB' := M.below
    clear S M
    first
      | (suffices hk : k = 1 by (subst hk; exact ⟨rfl, hB'⟩)
         assumption)
      | (suffices hk : k = 11 by (subst hk; exact ⟨rfl, hB'⟩)
         assumption)
      | (suffices hk : k = 2 by (subst hk; exact ⟨rfl, hB'⟩)
         assumption)
      | (suffices hk : k = 3 by (subst hk; exact ⟨rfl, hB'⟩)
         assumption)
      | (suffices hk : k = 4 by (subst hk; exact ⟨rfl, hB'⟩)
         assumption)
      | (suffices hk : k = 5 by (subst hk; exact ⟨rfl, hB'⟩)
         assumption)
      | (suffices hk : k = 6 by (subst hk; exact ⟨rfl, hB'⟩)
         assumption)
      | (suffices hk : k = 7 by (subst hk; exact ⟨rfl, hB'⟩)
         assumption)
      | (suffices hk : k = 8 by (subst hk; exact ⟨rfl, hB'⟩)
         assumption)
      | (suffices hk : k = 9 by (subst hk; exact ⟨rfl, hB'⟩)
         assumption)
      | (suffices hk : k = 10 by (subst hk; exact ⟨rfl, hB'⟩)
         assumption)
      | (have e1 : isKind k = false := by unfold isKind; rw [decide_eq_false (by omega)]
         have e2 : kdown k = false := by unfold kdown; simp; omega
         have e3 : kfields k = [] := by unfold kfields; (repeat rw [if_neg (by omega)])
         unfold khas; rw [e1, e2, e3]; exact ⟨rfl, hB'⟩)
  clear S; intro h27 S
  refine st_condF S rfl ?_
  refine wp_seq ?_
  refine nxD ?_
  refine st_go [1, 1] S rfl (by kernel_rfl) ?_; clear S a; intro a S
  refine nxC ?_
  refine st_if (t := 31) S rfl ?_ ?_
  · clear S; intro h31 S
    refine st_condT S rfl ?_
    refine wp_skip ?_
    refine then_normal ?_
    refine st_condT S rfl ?_
    refine nxD ?_
    refine st_lit (ps := [(0, (Operand.const (Value.int IntKind.i64 0)))]) (e := 3) (sz := 1) (zl := [.int .i64 0]) (cs := [_]) S M rfl rfl (by kernel_rfl) rfl (rfl) ?_; clear S M a; intro a w21 bZ S M hB
    refine st_call (xs := [(Operand.const (Value.bool false)), (Operand.tmp 34)]) S (enters_of Try.func54 (by decide) rfl) rfl rfl rfl (with_any false _ [0] _ (M.sliceAt 0 rfl (M.cellsAt (k := 1) 0 rfl rfl) rfl (Nat.le_refl _) (by unfold maxLen; omega)) (by decide)) ?_
    rintro _ w22 ⟨rfl, hK⟩; refine ⟨_, rfl, ?_⟩; clear S a; intro a S; replace M := M.grow hK
    refine st_store (sz := 11) (us := [_, _, _, _, _, _, _, _, _, _, _]) S M 1 rfl (by kernel_rfl) rfl rfl rfl rfl rfl rfl (by first | decide | (simp; done) | (simp; omega)) ?_; clear M; intro w23 M
    simp only [putL, List.set_cons_zero, List.set_cons_succ, Nat.reduceAdd] at M
    refine st_go [1] S rfl (by kernel_rfl) ?_; clear S a; intro a S
    refine nxC ?_
    refine wp_ret ?_
    refine block_ret ?_
    refine then_ret ?_
    refine end_two S rfl (res_agg (cs := [_, _, _, _, _, _, _, _, _, _, _]) (by kernel_rfl) rfl rfl (M.cellsAt (k := 11) 1 rfl rfl)) (res_tmp rfl) ?_
    have hB' := M.below
    clear S M
    first
      | (suffices hk : k = 1 by (subst hk; exact ⟨rfl, hB'⟩)
         assumption)
      | (suffices hk : k = 11 by (subst hk; exact ⟨rfl, hB'⟩)
         assumption)
      | (suffices hk : k = 2 by (subst hk; exact ⟨rfl, hB'⟩)
         assumption)
      | (suffices hk : k = 3 by (subst hk; exact ⟨rfl, hB'⟩)
         assumption)
      | (suffices hk : k = 4 by (subst hk; exact ⟨rfl, hB'⟩)
         assumption)
      | (suffices hk : k = 5 by (subst hk; exact ⟨rfl, hB'⟩)
         assumption)
      | (suffices hk : k = 6 by (subst hk; exact ⟨rfl, hB'⟩)
         assumption)
      | (suffices hk : k = 7 by (subst hk; exact ⟨rfl, hB'⟩)
         assumption)
      | (suffices hk : k = 8 by (subst hk; exact ⟨rfl, hB'⟩)
         assumption)
      | (suffices hk : k = 9 by (subst hk; exact ⟨rfl, hB'⟩)
         assumption)
      | (suffices hk : k = 10 by (subst hk; exact ⟨rfl, hB'⟩)
         assumption)
      | (have e1 : isKind k = false := by unfold isKind; rw [decide_eq_false (by omega)]
         have e2 : kdown k = false := by unfold kdown; simp; omega
         have e3 : kfields k = [] := by unfold kfields; (repeat rw [if_neg (by omega)])
         unfold khas; rw [e1, e2, e3]; exact ⟨rfl, hB'⟩)
  clear S; intro h31 S
  refine st_condF S rfl ?_
  refine wp_region_lit ?_
  refine st_go [1, 1] S rfl (by kernel_rfl) ?_; clear S a; intro a S
  refine nxC ?_
  refine st_if (t := 31) S rfl ?_ ?_
  · clear S; intro h31 S
    refine st_condT S rfl ?_
    refine nxD ?_
    refine st_lit (ps := [(0, (Operand.const (Value.int IntKind.i64 0)))]) (e := 3) (sz := 1) (zl := [.int .i64 0]) (cs := [_]) S M rfl rfl (by kernel_rfl) rfl (rfl) ?_; clear S M a; intro a w24 bZ S M hB
    refine st_call (xs := [(Operand.const (Value.bool false)), (Operand.tmp 34)]) S (enters_of Try.func54 (by decide) rfl) rfl rfl rfl (with_any false _ [0] _ (M.sliceAt 0 rfl (M.cellsAt (k := 1) 0 rfl rfl) rfl (Nat.le_refl _) (by unfold maxLen; omega)) (by decide)) ?_
    rintro _ w25 ⟨rfl, hK⟩; refine ⟨_, rfl, ?_⟩; clear S a; intro a S; replace M := M.grow hK
    refine st_store (sz := 11) (us := [_, _, _, _, _, _, _, _, _, _, _]) S M 1 rfl (by kernel_rfl) rfl rfl rfl rfl rfl rfl (by first | decide | (simp; done) | (simp; omega)) ?_; clear M; intro w26 M
    simp only [putL, List.set_cons_zero, List.set_cons_succ, Nat.reduceAdd] at M
    refine st_go [1] S rfl (by kernel_rfl) ?_; clear S a; intro a S
    refine nxC ?_
    refine wp_ret ?_
    refine block_ret ?_
    refine then_ret ?_
    refine end_two S rfl (res_agg (cs := [_, _, _, _, _, _, _, _, _, _, _]) (by kernel_rfl) rfl rfl (M.cellsAt (k := 11) 1 rfl rfl)) (res_tmp rfl) ?_
    have hB' := M.below
    clear S M
    first
      | (suffices hk : k = 1 by (subst hk; exact ⟨rfl, hB'⟩)
         assumption)
      | (suffices hk : k = 11 by (subst hk; exact ⟨rfl, hB'⟩)
         assumption)
      | (suffices hk : k = 2 by (subst hk; exact ⟨rfl, hB'⟩)
         assumption)
      | (suffices hk : k = 3 by (subst hk; exact ⟨rfl, hB'⟩)
         assumption)
      | (suffices hk : k = 4 by (subst hk; exact ⟨rfl, hB'⟩)
         assumption)
      | (suffices hk : k = 5 by (subst hk; exact ⟨rfl, hB'⟩)
         assumption)
      | (suffices hk : k = 6 by (subst hk; exact ⟨rfl, hB'⟩)
         assumption)
      | (suffices hk : k = 7 by (subst hk; exact ⟨rfl, hB'⟩)
         assumption)
      | (suffices hk : k = 8 by (subst hk; exact ⟨rfl, hB'⟩)
         assumption)
      | (suffices hk : k = 9 by (subst hk; exact ⟨rfl, hB'⟩)
         assumption)
      | (suffices hk : k = 10 by (subst hk; exact ⟨rfl, hB'⟩)
         assumption)
      | (have e1 : isKind k = false := by unfold isKind; rw [decide_eq_false (by omega)]
         have e2 : kdown k = false := by unfold kdown; simp; omega
         have e3 : kfields k = [] := by unfold kfields; (repeat rw [if_neg (by omega)])
         unfold khas; rw [e1, e2, e3]; exact ⟨rfl, hB'⟩)
  clear S; intro h31 S
  refine st_condF S rfl ?_
  refine nxD ?_
  refine st_go [1, 1] S rfl (by kernel_rfl) ?_; clear S a; intro a S
  refine nxC ?_
  refine st_if (t := 36) S rfl ?_ ?_
  · clear S; intro h36 S
    refine st_condT S rfl ?_
    refine nxD ?_
    refine st_lit (ps := [(0, (Operand.const (Value.int IntKind.i64 0)))]) (e := 3) (sz := 1) (zl := [.int .i64 0]) (cs := [_]) S M rfl rfl (by kernel_rfl) rfl (rfl) ?_; clear S M a; intro a w27 bZ S M hB
    refine st_call (xs := [(Operand.const (Value.bool true)), (Operand.tmp 38)]) S (enters_of Try.func54 (by decide) rfl) rfl rfl rfl (with_any true _ [0] _ (M.sliceAt 0 rfl (M.cellsAt (k := 1) 0 rfl rfl) rfl (Nat.le_refl _) (by unfold maxLen; omega)) (by decide)) ?_
    rintro _ w28 ⟨rfl, hK⟩; refine ⟨_, rfl, ?_⟩; clear S a; intro a S; replace M := M.grow hK
    refine st_store (sz := 11) (us := [_, _, _, _, _, _, _, _, _, _, _]) S M 1 rfl (by kernel_rfl) rfl rfl rfl rfl rfl rfl (by first | decide | (simp; done) | (simp; omega)) ?_; clear M; intro w29 M
    simp only [putL, List.set_cons_zero, List.set_cons_succ, Nat.reduceAdd] at M
    refine st_go [1] S rfl (by kernel_rfl) ?_; clear S a; intro a S
    replace S := S.sub [(0, _), (2, _), (4, _), (5, _), (8, _), (11, _), (15, _), (19, _), (23, _), (27, _), (31, _), (36, _), (3, _)] rfl
    refine nxC ?_
    refine wp_ret ?_
    refine block_ret ?_
    refine then_ret ?_
    refine end_two S rfl (res_agg (cs := [_, _, _, _, _, _, _, _, _, _, _]) (by kernel_rfl) rfl rfl (M.cellsAt (k := 11) 1 rfl rfl)) (res_tmp rfl) ?_
    have hB' := M.below
    clear S M
    first
      | (suffices hk : k = 1 by (subst hk; exact ⟨rfl, hB'⟩)
         assumption)
      | (suffices hk : k = 11 by (subst hk; exact ⟨rfl, hB'⟩)
         assumption)
      | (suffices hk : k = 2 by (subst hk; exact ⟨rfl, hB'⟩)
         assumption)
      | (suffices hk : k = 3 by (subst hk; exact ⟨rfl, hB'⟩)
         assumption)
      | (suffices hk : k = 4 by (subst hk; exact ⟨rfl, hB'⟩)
         assumption)
      | (suffices hk : k = 5 by (subst hk; exact ⟨rfl, hB'⟩)
         assumption)
      | (suffices hk : k = 6 by (subst hk; exact ⟨rfl, hB'⟩)
         assumption)
      | (suffices hk : k = 7 by (subst hk; exact ⟨rfl, hB'⟩)
         assumption)
      | (suffices hk : k = 8 by (subst hk; exact ⟨rfl, hB'⟩)
         assumption)
      | (suffices hk : k = 9 by (subst hk; exact ⟨rfl, hB'⟩)
         assumption)
      | (suffices hk : k = 10 by (subst hk; exact ⟨rfl, hB'⟩)
         assumption)
      | (have e1 : isKind k = false := by unfold isKind; rw [decide_eq_false (by omega)]
         have e2 : kdown k = false := by unfold kdown; simp; omega
         have e3 : kfields k = [] := by unfold kfields; (repeat rw [if_neg (by omega)])
         unfold khas; rw [e1, e2, e3]; exact ⟨rfl, hB'⟩)
  clear S; intro h36 S
  refine st_condF S rfl ?_
  refine nxD ?_
  refine st_go [1, 1] S rfl (by kernel_rfl) ?_; clear S a; intro a S
  refine nxC ?_
  refine st_fi (t := 40) S rfl ?_ ?_
  · clear S; intro h40 S
    refine st_condF S rfl ?_
    refine wp_skip ?_
    refine block_normal ?_
    refine nxE ?_
    refine st_y S rfl rfl rfl (y_build (ps := []) (pl := [(0, 1), (1, 10)]) (z := [.bool false, .bool false, .bool false, .bool false, .bool false, .bool false, .bool false, .bool false, .bool false, .bool false, .bool false]) (cs := [_, _, _, _, _, _, _, _, _, _, _]) S (by kernel_rfl) rfl (rfl)) ?_; clear S a; intro a S
    refine st_store (sz := 11) (us := [_, _, _, _, _, _, _, _, _, _, _]) S M 0 rfl (by kernel_rfl) rfl rfl rfl rfl rfl rfl (by first | decide | (simp; done) | (simp; omega)) ?_; clear M; intro w33 M
    simp only [putL, List.set_cons_zero, List.set_cons_succ, Nat.reduceAdd] at M
    refine st_go [1] S rfl (by kernel_rfl) ?_; clear S a; intro a S
    replace S := S.sub [(0, _), (2, _), (4, _), (5, _), (8, _), (11, _), (15, _), (19, _), (23, _), (27, _), (31, _), (36, _), (40, _), (3, _)] rfl
    refine nxC ?_
    refine wp_ret ?_
    refine end_two S rfl (res_agg (cs := [_, _, _, _, _, _, _, _, _, _, _]) (by kernel_rfl) rfl rfl (M.cellsAt (k := 11) 0 rfl rfl)) (res_tmp rfl) ?_
    have hB' := M.below
    clear S M
    first
      | (suffices hk : k = 1 by (subst hk; exact ⟨rfl, hB'⟩)
         assumption)
      | (suffices hk : k = 11 by (subst hk; exact ⟨rfl, hB'⟩)
         assumption)
      | (suffices hk : k = 2 by (subst hk; exact ⟨rfl, hB'⟩)
         assumption)
      | (suffices hk : k = 3 by (subst hk; exact ⟨rfl, hB'⟩)
         assumption)
      | (suffices hk : k = 4 by (subst hk; exact ⟨rfl, hB'⟩)
         assumption)
      | (suffices hk : k = 5 by (subst hk; exact ⟨rfl, hB'⟩)
         assumption)
      | (suffices hk : k = 6 by (subst hk; exact ⟨rfl, hB'⟩)
         assumption)
      | (suffices hk : k = 7 by (subst hk; exact ⟨rfl, hB'⟩)
         assumption)
      | (suffices hk : k = 8 by (subst hk; exact ⟨rfl, hB'⟩)
         assumption)
      | (suffices hk : k = 9 by (subst hk; exact ⟨rfl, hB'⟩)
         assumption)
      | (suffices hk : k = 10 by (subst hk; exact ⟨rfl, hB'⟩)
         assumption)
      | (have e1 : isKind k = false := by unfold isKind; rw [decide_eq_false (by omega)]
         have e2 : kdown k = false := by unfold kdown; simp; omega
         have e3 : kfields k = [] := by unfold kfields; (repeat rw [if_neg (by omega)])
         unfold khas; rw [e1, e2, e3]; exact ⟨rfl, hB'⟩)
  clear S; intro h40 S
  refine st_condT S rfl ?_
  refine nxD ?_
  refine st_lit (ps := [(0, (Operand.const (Value.int IntKind.i64 0))), (1, (Operand.const (Value.int IntKind.i64 5)))]) (e := 3) (sz := 1) (zl := [.int .i64 0, .int .i64 0]) (cs := [_, _]) S M rfl rfl (by kernel_rfl) rfl (rfl) ?_; clear S M a; intro a w30 bZ S M hB
  refine st_call (xs := [(Operand.const (Value.bool false)), (Operand.tmp 42)]) S (enters_of Try.func54 (by decide) rfl) rfl rfl rfl (with_any false _ [0, 5] _ (M.sliceAt 0 rfl (M.cellsAt (k := 2) 0 rfl rfl) rfl (Nat.le_refl _) (by unfold maxLen; omega)) (by decide)) ?_
  rintro _ w31 ⟨rfl, hK⟩; refine ⟨_, rfl, ?_⟩; clear S a; intro a S; replace M := M.grow hK
  refine st_store (sz := 11) (us := [_, _, _, _, _, _, _, _, _, _, _]) S M 1 rfl (by kernel_rfl) rfl rfl rfl rfl rfl rfl (by first | decide | (simp; done) | (simp; omega)) ?_; clear M; intro w32 M
  simp only [putL, List.set_cons_zero, List.set_cons_succ, Nat.reduceAdd] at M
  refine st_go [1] S rfl (by kernel_rfl) ?_; clear S a; intro a S
  replace S := S.sub [(0, _), (2, _), (4, _), (5, _), (8, _), (11, _), (15, _), (19, _), (23, _), (27, _), (31, _), (36, _), (40, _), (3, _)] rfl
  refine nxC ?_
  refine wp_ret ?_
  refine block_ret ?_
  refine then_ret ?_
  refine end_two S rfl (res_agg (cs := [_, _, _, _, _, _, _, _, _, _, _]) (by kernel_rfl) rfl rfl (M.cellsAt (k := 11) 1 rfl rfl)) (res_tmp rfl) ?_
  have hB' := M.below
  clear S M
  first
    | (suffices hk : k = 1 by (subst hk; exact ⟨rfl, hB'⟩)
       assumption)
    | (suffices hk : k = 11 by (subst hk; exact ⟨rfl, hB'⟩)
       assumption)
    | (suffices hk : k = 2 by (subst hk; exact ⟨rfl, hB'⟩)
       assumption)
    | (suffices hk : k = 3 by (subst hk; exact ⟨rfl, hB'⟩)
       assumption)
    | (suffices hk : k = 4 by (subst hk; exact ⟨rfl, hB'⟩)
       assumption)
    | (suffices hk : k = 5 by (subst hk; exact ⟨rfl, hB'⟩)
       assumption)
    | (suffices hk : k = 6 by (subst hk; exact ⟨rfl, hB'⟩)
       assumption)
    | (suffices hk : k = 7 by (subst hk; exact ⟨rfl, hB'⟩)
       assumption)
    | (suffices hk : k = 8 by (subst hk; exact ⟨rfl, hB'⟩)
       assumption)
    | (suffices hk : k = 9 by (subst hk; exact ⟨rfl, hB'⟩)
       assumption)
    | (suffices hk : k = 10 by (subst hk; exact ⟨rfl, hB'⟩)
       assumption)
    | (have e1 : isKind k = false := by unfold isKind; rw [decide_eq_false (by omega)]
       have e2 : kdown k = false := by unfold kdown; simp; omega
       have e3 : kfields k = [] := by unfold kfields; (repeat rw [if_neg (by omega)])
       unfold khas; rw [e1, e2, e3]; exact ⟨rfl, hB'⟩)
def betweenB (f t : Int) (d : Bool) : Bool := if d then decide (f = 0 ∧ t ≠ 0 ∧ 0 ≤ t ∧ t ≤ 4) else decide (t = 0 ∧ f ≠ 0 ∧ 0 ≤ f ∧ f ≤ 4)
theorem between_any (m : Msg) (va : Option Addr) (vn vc : Nat) (d : Bool) (w : World) : Calls Try.prog 42 #[.agg (m.cells (.slice va vn vc)), .bool d] w fun e w' => e = .returned (.bool (betweenB m.frm m.to d)) ∧ Below w.heap.size w w' := by
  have M := Mem.start w
  have key : ∀ (b : Bool) (P : Prop) [Decidable P], (b = true ↔ P) → b = decide P := fun b P _ h => by rw [Bool.eq_iff_iff, h]; simp
  refine calls_enter Try.func42 rfl 31 rfl rfl ?_; intro a S
  refine nxD ?_
  refine st_box S M rfl rfl rfl #[_, _, _, _, _, _, _, _, _, _, _, _, _, _, _, _, _, _, _, _, _, _, _, _] rfl ?_; clear S M a; intro a w1 b1 S M hB
  refine st_go [1] S rfl (by kernel_rfl) ?_; clear S a; intro a S
  refine nxC ?_
  refine wp_seq ?_
  refine wp_quiet M (by kernel_rfl) (by kernel_rfl) ?_
  refine qt_y S rfl rfl rfl (fun w M => y_fieldAddr (k := 1) S (by kernel_rfl) rfl) ?_; clear S a; intro a S
  refine qt_y S rfl rfl rfl (fun w M => y_load S (by kernel_rfl) rfl (M.cell 0 rfl rfl)) ?_; clear S a; intro a S
  refine qt_y S rfl rfl rfl (fun w M => y_fieldAddr (k := 2) S (by kernel_rfl) rfl) ?_; clear S a; intro a S
  refine qt_y S rfl rfl rfl (fun w M => y_load S (by kernel_rfl) rfl (M.cell 0 rfl rfl)) ?_; clear S a; intro a S
  refine qt_y S rfl rfl rfl (fun w M => y_assign S rfl) ?_; clear S a; intro a S
  refine qt_y S rfl rfl rfl (fun w M => y_assign S rfl) ?_; clear S a; intro a S
  refine wpQuiet_nil ?_; clear M; intro w2 M
  refine then_normal ?_
  refine wp_seq ?_
  refine nxD ?_
  refine st_go [1, 1] S rfl (by kernel_rfl) ?_; clear S a; intro a S
  refine nxC ?_
  refine st_tils (t := 12) S rfl ?_ ?_
  · clear S; intro h12 S
    refine st_condF S rfl ?_
    refine wp_skip ?_
    refine nxE ?_
    refine st_go [1, 1, 1] S rfl (by kernel_rfl) ?_; clear S a; intro a S
    refine st_fi (t := 19) S rfl ?_ ?_
    · clear S; intro h19 S
      refine st_go [0, 0, 1, 1, 0, 0, 1, 1, 0, 0, 1, 1] S rfl (by kernel_rfl) ?_; clear S a; intro a S
      replace S := S.sub [(0, _), (1, _), (2, _), (5, _), (6, _), (12, _), (4, _)] rfl
      refine nxC ?_
      refine wp_ret ?_
      refine end_one S rfl (res_tmp rfl) ?_
      refine ⟨ret_bool ?_, M.below⟩; clear S M; unfold betweenB
      first
        | (rw [show d = false by simpa using h12]; refine key _ _ ?_; (first | (simp; done) | (simp; omega)))
        | (rw [show d = true by simpa using h12]; refine key _ _ ?_; (first | (simp; done) | (simp; omega)))
    clear S; intro h19 S
    refine st_go [1, 1, 1, 1] S rfl (by kernel_rfl) ?_; clear S a; intro a S
    refine st_fi (t := 23) S rfl ?_ ?_
    · clear S; intro h23 S
      refine st_go [0, 0, 1, 1, 0, 0, 1, 1] S rfl (by kernel_rfl) ?_; clear S a; intro a S
      replace S := S.sub [(0, _), (1, _), (2, _), (5, _), (6, _), (12, _), (4, _)] rfl
      refine nxC ?_
      refine wp_ret ?_
      refine end_one S rfl (res_tmp rfl) ?_
      refine ⟨ret_bool ?_, M.below⟩; clear S M; unfold betweenB
      first
        | (rw [show d = false by simpa using h12]; refine key _ _ ?_; (first | (simp; done) | (simp; omega)))
        | (rw [show d = true by simpa using h12]; refine key _ _ ?_; (first | (simp; done) | (simp; omega)))
    clear S; intro h23 S
    refine st_go [1, 1, 1, 1] S rfl (by kernel_rfl) ?_; clear S a; intro a S
    refine st_if (t := 27) S rfl ?_ ?_
    · clear S; intro h27 S
      refine st_go [1, 1, 1, 1] S rfl (by kernel_rfl) ?_; clear S a; intro a S
      replace S := S.sub [(0, _), (1, _), (2, _), (5, _), (6, _), (12, _), (4, _)] rfl
      refine nxC ?_
      refine wp_ret ?_
      refine end_one S rfl (res_tmp rfl) ?_
      refine ⟨ret_bool ?_, M.below⟩; clear S M; unfold betweenB
      first
        | (rw [show d = false by simpa using h12]; refine key _ _ ?_; (first | (simp; done) | (simp; omega)))
        | (rw [show d = true by simpa using h12]; refine key _ _ ?_; (first | (simp; done) | (simp; omega)))
    clear S; intro h27 S
    refine st_go [0, 0, 1, 1] S rfl (by kernel_rfl) ?_; clear S a; intro a S
    replace S := S.sub [(0, _), (1, _), (2, _), (5, _), (6, _), (12, _), (4, _)] rfl
    refine nxC ?_
    refine wp_ret ?_
    refine end_one S rfl (res_tmp rfl) ?_
    refine ⟨ret_bool ?_, M.below⟩; clear S M; unfold betweenB
    first
      | (rw [show d = false by simpa using h12]; refine key _ _ ?_; (first | (simp; done) | (simp; omega)))
      | (rw [show d = true by simpa using h12]; refine key _ _ ?_; (first | (simp; done) | (simp; omega)))
  clear S; intro h12 S
  refine st_condT S rfl ?_
  refine wp_quiet M (by kernel_rfl) (by kernel_rfl) ?_
  refine qt_y S rfl rfl rfl (fun w M => y_fieldAddr (k := 2) S (by kernel_rfl) rfl) ?_; clear S a; intro a S
  refine qt_y S rfl rfl rfl (fun w M => y_load S (by kernel_rfl) rfl (M.cell 0 rfl rfl)) ?_; clear S a; intro a S
  refine qt_y S rfl rfl rfl (fun w M => y_fieldAddr (k := 1) S (by kernel_rfl) rfl) ?_; clear S a; intro a S
  refine qt_y S rfl rfl rfl (fun w M => y_load S (by kernel_rfl) rfl (M.cell 0 rfl rfl)) ?_; clear S a; intro a S
  refine qt_y S rfl rfl rfl (fun w M => y_assign S rfl) ?_; clear S a; intro a S
  refine qt_y S rfl rfl rfl (fun w M => y_assign S rfl) ?_; clear S a; intro a S
  refine wpQuiet_nil ?_; clear M; intro w3 M
  refine nxE ?_
  refine st_go [1, 1, 1] S rfl (by kernel_rfl) ?_; clear S a; intro a S
  refine st_fi (t := 19) S rfl ?_ ?_
  · clear S; intro h19 S
    refine st_go [0, 0, 1, 1, 0, 0, 1, 1, 0, 0, 1, 1] S rfl (by kernel_rfl) ?_; clear S a; intro a S
    replace S := S.sub [(0, _), (1, _), (2, _), (12, _), (5, _), (6, _), (4, _)] rfl
    refine nxC ?_
    refine wp_ret ?_
    refine end_one S rfl (res_tmp rfl) ?_
    refine ⟨ret_bool ?_, M.below⟩; clear S M; unfold betweenB
    first
      | (rw [show d = false by simpa using h12]; refine key _ _ ?_; (first | (simp; done) | (simp; omega)))
      | (rw [show d = true by simpa using h12]; refine key _ _ ?_; (first | (simp; done) | (simp; omega)))
  clear S; intro h19 S
  refine st_go [1, 1, 1, 1] S rfl (by kernel_rfl) ?_; clear S a; intro a S
  refine st_fi (t := 23) S rfl ?_ ?_
  · clear S; intro h23 S
    refine st_go [0, 0, 1, 1, 0, 0, 1, 1] S rfl (by kernel_rfl) ?_; clear S a; intro a S
    replace S := S.sub [(0, _), (1, _), (2, _), (12, _), (5, _), (6, _), (4, _)] rfl
    refine nxC ?_
    refine wp_ret ?_
    refine end_one S rfl (res_tmp rfl) ?_
    refine ⟨ret_bool ?_, M.below⟩; clear S M; unfold betweenB
    first
      | (rw [show d = false by simpa using h12]; refine key _ _ ?_; (first | (simp; done) | (simp; omega)))
      | (rw [show d = true by simpa using h12]; refine key _ _ ?_; (first | (simp; done) | (simp; omega)))
  clear S; intro h23 S
  refine st_go [1, 1, 1, 1] S rfl (by kernel_rfl) ?_; clear S a; intro a S
  refine st_if (t := 27) S rfl ?_ ?_
  · clear S; intro h27 S
    refine st_go [1, 1, 1, 1] S rfl (by kernel_rfl) ?_; clear S a; intro a S
    replace S := S.sub [(0, _), (1, _), (2, _), (12, _), (5, _), (6, _), (4, _)] rfl
    refine nxC ?_
    refine wp_ret ?_
    refine end_one S rfl (res_tmp rfl) ?_
    refine ⟨ret_bool ?_, M.below⟩; clear S M; unfold betweenB
    first
      | (rw [show d = false by simpa using h12]; refine key _ _ ?_; (first | (simp; done) | (simp; omega)))
      | (rw [show d = true by simpa using h12]; refine key _ _ ?_; (first | (simp; done) | (simp; omega)))
  clear S; intro h27 S
  refine st_go [0, 0, 1, 1] S rfl (by kernel_rfl) ?_; clear S a; intro a S
  replace S := S.sub [(0, _), (1, _), (2, _), (12, _), (5, _), (6, _), (4, _)] rfl
  refine nxC ?_
  refine wp_ret ?_
  refine end_one S rfl (res_tmp rfl) ?_
  refine ⟨ret_bool ?_, M.below⟩; clear S M; unfold betweenB
  first
    | (rw [show d = false by simpa using h12]; refine key _ _ ?_; (first | (simp; done) | (simp; omega)))
    | (rw [show d = true by simpa using h12]; refine key _ _ ?_; (first | (simp; done) | (simp; omega)))
def Msg.same (a b : Msg) (x y : List Wr) : Bool :=
  a.kind == b.kind && a.frm == b.frm && a.to == b.to && a.inc == b.inc && a.your == b.your && a.name.eqb b.name && a.n == b.n && a.op == b.op && a.block == b.block && a.val.eqb b.val && a.e == b.e && a.yes == b.yes && a.give == b.give && a.take == b.take && eqWs x y
theorem Msg.same_iff {a b : Msg} {x y : List Wr} : a.same b x y = true ↔ a = b ∧ x = y := by
  cases a; cases b
  simp [Msg.same, Nm.eqb_iff, V8.eqb_iff, eqWs_iff, and_assoc]
theorem sameM_any (p q : Msg) (va vb : Value) (x y : List Wr) (w : World) (hx : Ws 0 w.heap.size w va x) (hy : Ws 0 w.heap.size w vb y) :
    Calls Try.prog 43 #[.agg (p.cells va), .agg (q.cells vb)] w fun e w' => e = .returned (.bool (p.same q x y)) ∧ Below w.heap.size w w' := by
  obtain ⟨aa, ca, rfl, -, -⟩ := hx.form
  obtain ⟨ab, cb, rfl, -, -⟩ := hy.form
  have M := Mem.start w
  generalize hr : p.same q x y = R
  refine calls_enter Try.func43 rfl 108 rfl rfl ?_; intro a S
  refine nxD ?_
  refine st_box S M rfl rfl rfl #[_, _, _, _, _, _, _, _, _, _, _, _, _, _, _, _, _, _, _, _, _, _, _, _] rfl ?_; clear S M a; intro a w1 b1 S M hB
  refine st_box S M rfl rfl rfl #[_, _, _, _, _, _, _, _, _, _, _, _, _, _, _, _, _, _, _, _, _, _, _, _] rfl ?_; clear S M a; intro a w2 b2 S M hB
  refine st_go [1] S rfl (by kernel_rfl) ?_; clear S a; intro a S
  refine nxA ?_
  refine st_run [1, 2, 1, 1, 1, 1] S M rfl (by kernel_rfl) ?_; clear S a; intro a S
  refine st_tils (t := 10) S rfl ?_ ?_
  · clear S; intro h10 S
    refine st_go [0, 0, 0, 0, 0, 1, 1, 0, 0, 0, 0, 0, 1, 1, 0, 0, 0, 0, 0, 1, 1, 0, 0, 0, 0, 0, 1, 1, 0, 0, 0, 0, 0, 1, 1, 0, 0, 0, 0, 0, 1, 1, 0, 0, 0, 0, 0, 1, 1, 0, 0, 0, 0, 0, 1, 1, 0, 0, 0, 0, 0, 1, 1, 0, 0, 0, 0, 0, 1, 1, 0, 0, 0, 0, 0, 1, 1, 0, 0, 0, 0, 0, 1, 1, 0, 0, 0, 0, 0, 1, 1, 0, 0, 0, 0, 0, 1, 1] S rfl (by kernel_rfl) ?_; clear S a; intro a S
    replace S := S.sub [(0, _), (1, _), (2, _), (3, _), (4, _)] rfl
    refine nxC ?_
    refine wp_ret ?_
    refine end_one S rfl (res_tmp rfl) ?_
    refine ⟨ret_bool ?_, M.below⟩; rw [← hr]; clear S M; simp [Msg.same, *]
  clear S; intro h10 S
  refine st_run [2, 2, 2, 1, 1, 1, 1] S M rfl (by kernel_rfl) ?_; clear S a; intro a S
  refine st_tils (t := 17) S rfl ?_ ?_
  · clear S; intro h17 S
    refine st_go [0, 0, 0, 0, 0, 1, 1, 0, 0, 0, 0, 0, 1, 1, 0, 0, 0, 0, 0, 1, 1, 0, 0, 0, 0, 0, 1, 1, 0, 0, 0, 0, 0, 1, 1, 0, 0, 0, 0, 0, 1, 1, 0, 0, 0, 0, 0, 1, 1, 0, 0, 0, 0, 0, 1, 1, 0, 0, 0, 0, 0, 1, 1, 0, 0, 0, 0, 0, 1, 1, 0, 0, 0, 0, 0, 1, 1, 0, 0, 0, 0, 0, 1, 1, 0, 0, 0, 0, 0, 1, 1] S rfl (by kernel_rfl) ?_; clear S a; intro a S
    replace S := S.sub [(0, _), (1, _), (2, _), (3, _), (4, _)] rfl
    refine nxC ?_
    refine wp_ret ?_
    refine end_one S rfl (res_tmp rfl) ?_
    refine ⟨ret_bool ?_, M.below⟩; rw [← hr]; clear S M; simp [Msg.same, *]
  clear S; intro h17 S
  refine st_run [3, 2, 3, 1, 1, 1, 1] S M rfl (by kernel_rfl) ?_; clear S a; intro a S
  refine st_tils (t := 24) S rfl ?_ ?_
  · clear S; intro h24 S
    refine st_go [0, 0, 0, 0, 0, 1, 1, 0, 0, 0, 0, 0, 1, 1, 0, 0, 0, 0, 0, 1, 1, 0, 0, 0, 0, 0, 1, 1, 0, 0, 0, 0, 0, 1, 1, 0, 0, 0, 0, 0, 1, 1, 0, 0, 0, 0, 0, 1, 1, 0, 0, 0, 0, 0, 1, 1, 0, 0, 0, 0, 0, 1, 1, 0, 0, 0, 0, 0, 1, 1, 0, 0, 0, 0, 0, 1, 1, 0, 0, 0, 0, 0, 1, 1] S rfl (by kernel_rfl) ?_; clear S a; intro a S
    replace S := S.sub [(0, _), (1, _), (2, _), (3, _), (4, _)] rfl
    refine nxC ?_
    refine wp_ret ?_
    refine end_one S rfl (res_tmp rfl) ?_
    refine ⟨ret_bool ?_, M.below⟩; rw [← hr]; clear S M; simp [Msg.same, *]
  clear S; intro h24 S
  refine st_run [4, 2, 4, 1, 1, 1, 1] S M rfl (by kernel_rfl) ?_; clear S a; intro a S
  refine st_tils (t := 31) S rfl ?_ ?_
  · clear S; intro h31 S
    refine st_go [0, 0, 0, 0, 0, 1, 1, 0, 0, 0, 0, 0, 1, 1, 0, 0, 0, 0, 0, 1, 1, 0, 0, 0, 0, 0, 1, 1, 0, 0, 0, 0, 0, 1, 1, 0, 0, 0, 0, 0, 1, 1, 0, 0, 0, 0, 0, 1, 1, 0, 0, 0, 0, 0, 1, 1, 0, 0, 0, 0, 0, 1, 1, 0, 0, 0, 0, 0, 1, 1, 0, 0, 0, 0, 0, 1, 1] S rfl (by kernel_rfl) ?_; clear S a; intro a S
    replace S := S.sub [(0, _), (1, _), (2, _), (3, _), (4, _)] rfl
    refine nxC ?_
    refine wp_ret ?_
    refine end_one S rfl (res_tmp rfl) ?_
    refine ⟨ret_bool ?_, M.below⟩; rw [← hr]; clear S M; simp [Msg.same, *]
  clear S; intro h31 S
  refine st_run [5, 2, 5, 1, 1, 1, 1] S M rfl (by kernel_rfl) ?_; clear S a; intro a S
  refine st_tils (t := 38) S rfl ?_ ?_
  · clear S; intro h38 S
    refine st_go [0, 0, 0, 0, 0, 1, 1, 0, 0, 0, 0, 0, 1, 1, 0, 0, 0, 0, 0, 1, 1, 0, 0, 0, 0, 0, 1, 1, 0, 0, 0, 0, 0, 1, 1, 0, 0, 0, 0, 0, 1, 1, 0, 0, 0, 0, 0, 1, 1, 0, 0, 0, 0, 0, 1, 1, 0, 0, 0, 0, 0, 1, 1, 0, 0, 0, 0, 0, 1, 1] S rfl (by kernel_rfl) ?_; clear S a; intro a S
    replace S := S.sub [(0, _), (1, _), (2, _), (3, _), (4, _)] rfl
    refine nxC ?_
    refine wp_ret ?_
    refine end_one S rfl (res_tmp rfl) ?_
    refine ⟨ret_bool ?_, M.below⟩; rw [← hr]; clear S M; simp [Msg.same, *]
  clear S; intro h38 S
  refine st_go [6] S rfl (by kernel_rfl) ?_; clear S a; intro a S
  refine st_y S rfl rfl rfl (y_loadAgg (cs := [_, _, _]) S (by kernel_rfl) rfl rfl (M.cellsAt (k := 3) 1 rfl rfl)) ?_; clear S a; intro a S
  refine st_go [6] S rfl (by kernel_rfl) ?_; clear S a; intro a S
  refine st_y S rfl rfl rfl (y_loadAgg (cs := [_, _, _]) S (by kernel_rfl) rfl rfl (M.cellsAt (k := 3) 0 rfl rfl)) ?_; clear S a; intro a S
  refine st_y S rfl rfl rfl (y_eqlG (by kernel_rfl) S rfl rfl (fun w => equalNm 9998 ⟨_, _, _⟩ ⟨_, _, _⟩ w)) ?_; clear S a; intro a S
  refine st_go [1, 1] S rfl (by kernel_rfl) ?_; clear S a; intro a S
  refine st_tils (t := 45) S rfl ?_ ?_
  · clear S; intro h45 S
    refine st_go [0, 0, 0, 0, 0, 1, 1, 0, 0, 0, 0, 0, 1, 1, 0, 0, 0, 0, 0, 1, 1, 0, 0, 0, 0, 0, 1, 1, 0, 0, 0, 0, 0, 1, 1, 0, 0, 0, 0, 0, 1, 1, 0, 0, 0, 0, 0, 1, 1, 0, 0, 0, 0, 0, 1, 1, 0, 0, 0, 0, 0, 1, 1] S rfl (by kernel_rfl) ?_; clear S a; intro a S
    replace S := S.sub [(0, _), (1, _), (2, _), (3, _), (4, _)] rfl
    refine nxC ?_
    refine wp_ret ?_
    refine end_one S rfl (res_tmp rfl) ?_
    refine ⟨ret_bool ?_, M.below⟩; rw [← hr]; clear S M; simp [Msg.same, *]
  clear S; intro h45 S
  refine st_run [9, 2, 9, 1, 1, 1, 1] S M rfl (by kernel_rfl) ?_; clear S a; intro a S
  refine st_tils (t := 52) S rfl ?_ ?_
  · clear S; intro h52 S
    refine st_go [0, 0, 0, 0, 0, 1, 1, 0, 0, 0, 0, 0, 1, 1, 0, 0, 0, 0, 0, 1, 1, 0, 0, 0, 0, 0, 1, 1, 0, 0, 0, 0, 0, 1, 1, 0, 0, 0, 0, 0, 1, 1, 0, 0, 0, 0, 0, 1, 1, 0, 0, 0, 0, 0, 1, 1] S rfl (by kernel_rfl) ?_; clear S a; intro a S
    replace S := S.sub [(0, _), (1, _), (2, _), (3, _), (4, _)] rfl
    refine nxC ?_
    refine wp_ret ?_
    refine end_one S rfl (res_tmp rfl) ?_
    refine ⟨ret_bool ?_, M.below⟩; rw [← hr]; clear S M; simp [Msg.same, *]
  clear S; intro h52 S
  refine st_run [10, 2, 10, 1, 1, 1, 1] S M rfl (by kernel_rfl) ?_; clear S a; intro a S
  refine st_tils (t := 59) S rfl ?_ ?_
  · clear S; intro h59 S
    refine st_go [0, 0, 0, 0, 0, 1, 1, 0, 0, 0, 0, 0, 1, 1, 0, 0, 0, 0, 0, 1, 1, 0, 0, 0, 0, 0, 1, 1, 0, 0, 0, 0, 0, 1, 1, 0, 0, 0, 0, 0, 1, 1, 0, 0, 0, 0, 0, 1, 1] S rfl (by kernel_rfl) ?_; clear S a; intro a S
    replace S := S.sub [(0, _), (1, _), (2, _), (3, _), (4, _)] rfl
    refine nxC ?_
    refine wp_ret ?_
    refine end_one S rfl (res_tmp rfl) ?_
    refine ⟨ret_bool ?_, M.below⟩; rw [← hr]; clear S M; simp [Msg.same, *]
  clear S; intro h59 S
  refine st_run [11, 2, 11, 1, 1, 1, 1] S M rfl (by kernel_rfl) ?_; clear S a; intro a S
  refine st_tils (t := 66) S rfl ?_ ?_
  · clear S; intro h66 S
    refine st_go [0, 0, 0, 0, 0, 1, 1, 0, 0, 0, 0, 0, 1, 1, 0, 0, 0, 0, 0, 1, 1, 0, 0, 0, 0, 0, 1, 1, 0, 0, 0, 0, 0, 1, 1, 0, 0, 0, 0, 0, 1, 1] S rfl (by kernel_rfl) ?_; clear S a; intro a S
    replace S := S.sub [(0, _), (1, _), (2, _), (3, _), (4, _)] rfl
    refine nxC ?_
    refine wp_ret ?_
    refine end_one S rfl (res_tmp rfl) ?_
    refine ⟨ret_bool ?_, M.below⟩; rw [← hr]; clear S M; simp [Msg.same, *]
  clear S; intro h66 S
  refine st_go [12] S rfl (by kernel_rfl) ?_; clear S a; intro a S
  refine st_y S rfl rfl rfl (y_loadAgg (cs := [_, _, _, _, _, _, _, _]) S (by kernel_rfl) rfl rfl (M.cellsAt (k := 8) 1 rfl rfl)) ?_; clear S a; intro a S
  refine st_go [12] S rfl (by kernel_rfl) ?_; clear S a; intro a S
  refine st_y S rfl rfl rfl (y_loadAgg (cs := [_, _, _, _, _, _, _, _]) S (by kernel_rfl) rfl rfl (M.cellsAt (k := 8) 0 rfl rfl)) ?_; clear S a; intro a S
  refine st_y S rfl rfl rfl (y_eqlG (by kernel_rfl) S rfl rfl (fun w => equalV8 9998 ⟨_, _, _, _, _, _, _, _⟩ ⟨_, _, _, _, _, _, _, _⟩ w)) ?_; clear S a; intro a S
  refine st_go [1, 1] S rfl (by kernel_rfl) ?_; clear S a; intro a S
  refine st_tils (t := 73) S rfl ?_ ?_
  · clear S; intro h73 S
    refine st_go [0, 0, 0, 0, 0, 1, 1, 0, 0, 0, 0, 0, 1, 1, 0, 0, 0, 0, 0, 1, 1, 0, 0, 0, 0, 0, 1, 1, 0, 0, 0, 0, 0, 1, 1] S rfl (by kernel_rfl) ?_; clear S a; intro a S
    replace S := S.sub [(0, _), (1, _), (2, _), (3, _), (4, _)] rfl
    refine nxC ?_
    refine wp_ret ?_
    refine end_one S rfl (res_tmp rfl) ?_
    refine ⟨ret_bool ?_, M.below⟩; rw [← hr]; clear S M; simp [Msg.same, *]
  clear S; intro h73 S
  refine st_run [20, 2, 20, 1, 1, 1, 1] S M rfl (by kernel_rfl) ?_; clear S a; intro a S
  refine st_tils (t := 80) S rfl ?_ ?_
  · clear S; intro h80 S
    refine st_go [0, 0, 0, 0, 0, 1, 1, 0, 0, 0, 0, 0, 1, 1, 0, 0, 0, 0, 0, 1, 1, 0, 0, 0, 0, 0, 1, 1] S rfl (by kernel_rfl) ?_; clear S a; intro a S
    replace S := S.sub [(0, _), (1, _), (2, _), (3, _), (4, _)] rfl
    refine nxC ?_
    refine wp_ret ?_
    refine end_one S rfl (res_tmp rfl) ?_
    refine ⟨ret_bool ?_, M.below⟩; rw [← hr]; clear S M; simp [Msg.same, *]
  clear S; intro h80 S
  refine st_run [21, 2, 21, 1] S M rfl (by kernel_rfl) ?_; clear S a; intro a S
  refine st_y S rfl rfl rfl (y_eqlBool (by kernel_rfl) S rfl rfl) ?_; clear S a; intro a S
  refine st_go [1, 1] S rfl (by kernel_rfl) ?_; clear S a; intro a S
  refine st_tils (t := 87) S rfl ?_ ?_
  · clear S; intro h87 S
    refine st_go [0, 0, 0, 0, 0, 1, 1, 0, 0, 0, 0, 0, 1, 1, 0, 0, 0, 0, 0, 1, 1] S rfl (by kernel_rfl) ?_; clear S a; intro a S
    replace S := S.sub [(0, _), (1, _), (2, _), (3, _), (4, _)] rfl
    refine nxC ?_
    refine wp_ret ?_
    refine end_one S rfl (res_tmp rfl) ?_
    refine ⟨ret_bool ?_, M.below⟩; rw [← hr]; clear S M; simp [Msg.same, *]
  clear S; intro h87 S
  refine st_run [22, 2, 22, 1, 1, 1, 1] S M rfl (by kernel_rfl) ?_; clear S a; intro a S
  refine st_tils (t := 94) S rfl ?_ ?_
  · clear S; intro h94 S
    refine st_go [0, 0, 0, 0, 0, 1, 1, 0, 0, 0, 0, 0, 1, 1] S rfl (by kernel_rfl) ?_; clear S a; intro a S
    replace S := S.sub [(0, _), (1, _), (2, _), (3, _), (4, _)] rfl
    refine nxC ?_
    refine wp_ret ?_
    refine end_one S rfl (res_tmp rfl) ?_
    refine ⟨ret_bool ?_, M.below⟩; rw [← hr]; clear S M; simp [Msg.same, *]
  clear S; intro h94 S
  refine st_run [23, 2, 23, 1, 1, 1, 1] S M rfl (by kernel_rfl) ?_; clear S a; intro a S
  refine st_tils (t := 101) S rfl ?_ ?_
  · clear S; intro h101 S
    refine st_go [0, 0, 0, 0, 0, 1, 1] S rfl (by kernel_rfl) ?_; clear S a; intro a S
    replace S := S.sub [(0, _), (1, _), (2, _), (3, _), (4, _)] rfl
    refine nxC ?_
    refine wp_ret ?_
    refine end_one S rfl (res_tmp rfl) ?_
    refine ⟨ret_bool ?_, M.below⟩; rw [← hr]; clear S M; simp [Msg.same, *]
  clear S; intro h101 S
  refine st_run [24, 2, 24, 1] S M rfl (by kernel_rfl) ?_; clear S a; intro a S
  refine st_call (xs := [(Operand.tmp 103), (Operand.tmp 105)]) S (enters_of Try.func55 (by decide) rfl) rfl rfl rfl (equalW_any _ _ x y _ (M.argW hx) (M.argW hy)) ?_
  rintro _ w3 ⟨rfl, hK⟩; refine ⟨_, rfl, ?_⟩; clear S a; intro a S; replace M := M.grow hK
  refine st_go [1, 1] S rfl (by kernel_rfl) ?_; clear S a; intro a S
  replace S := S.sub [(0, _), (1, _), (2, _), (3, _), (4, _)] rfl
  refine nxC ?_
  refine wp_ret ?_
  refine end_one S rfl (res_tmp rfl) ?_
  refine ⟨ret_bool ?_, M.below⟩; rw [← hr]; clear S M; simp [Msg.same, *]
end Go.Proofs.Ytniijiipkfhjgaa

namespace Go.Proofs.Ytniijiipkfhjgaa
open Go.RowKit Go.Sort
/-- a message with the fields of its kind alone, up to the j-th -/
def bareM (h : Nat → Bool) (j : Nat) (m : Msg) : Msg :=
  { m with
    name := if (decide (0 < j) && !h 0) = true then ⟨0, 0, 0⟩ else m.name
    n := if (decide (1 < j) && !h 1) = true then 0 else m.n
    op := if (decide (2 < j) && !h 2) = true then 0 else m.op
    block := if (decide (3 < j) && !h 3) = true then 0 else m.block
    val := if (decide (4 < j) && !h 4) = true then ⟨0, 0, 0, 0, 0, 0, 0, 0⟩ else m.val
    e := if (decide (5 < j) && !h 5) = true then 0 else m.e
    yes := if (decide (6 < j) && !h 6) = true then false else m.yes
    give := if (decide (7 < j) && !h 7) = true then 0 else m.give
    take := if (decide (8 < j) && !h 8) = true then 0 else m.take }
def bareW (h : Nat → Bool) (j : Nat) (v : Value) : Value := if (decide (9 < j) && !h 9) = true then .slice none 0 0 else v
def bareX (h : Nat → Bool) (x : List Wr) : List Wr := if h 9 then x else []
abbrev zMsg : Msg := ⟨0, 0, 0, 0, 0, ⟨0, 0, 0⟩, 0, 0, 0, ⟨0, 0, 0, 0, 0, 0, 0, 0⟩, 0, false, 0, 0⟩
theorem bareM_same {h : Nat → Bool} {j : Nat} (hj : h j = true) (m : Msg) : bareM h (j + 1) m = bareM h j m := by
  have e : ∀ i, (decide (i < j + 1) && !h i) = (decide (i < j) && !h i) := fun i => by
    by_cases hi : i = j
    · subst hi; simp [hj]
    · have : (i < j + 1) = (i < j) := by simp only [eq_iff_iff]; omega
      simp only [this]
  unfold bareM; simp only [e]
theorem bareW_same {h : Nat → Bool} {j : Nat} (hj : h j = true) (v : Value) : bareW h (j + 1) v = bareW h j v := by
  have e : (decide (9 < j + 1) && !h 9) = (decide (9 < j) && !h 9) := by
    by_cases hi : 9 = j
    · subst hi; simp [hj]
    · have : (9 < j + 1) = (9 < j) := by simp only [eq_iff_iff]; omega
      simp only [this]
  unfold bareW; simp only [e]
def BarePost (h : Nat → Bool) (m : Msg) (va : Option Addr) (vn vc : Nat) (x : List Wr) (w : World) (e : Ending) (w' : World) : Prop :=
  ∃ ad l c, e = .returned (.agg ((bareM h 10 m).cells (.slice ad l c))) ∧ Below w.heap.size w w' ∧ ((ad = none ∧ l = 0 ∧ c = 0 ∧ bareX h x = []) ∨ (ad = va ∧ l = vn ∧ c = vc ∧ bareX h x = x))
theorem bare_any (m : Msg) (va : Option Addr) (vn vc : Nat) (x : List Wr) (d : Bool) (h : Nat → Bool) (w : World) :
    Calls Try.prog 44 #[.agg (m.cells (.slice va vn vc)), .agg (kdL d h).toArray] w (BarePost h m va vn vc x w) := by
  have M := Mem.start w
  refine calls_enter Try.func44 rfl 50 rfl rfl ?_; intro a S
  refine nxD ?_
  refine st_box S M rfl rfl rfl #[_, _, _, _, _, _, _, _, _, _, _, _, _, _, _, _, _, _, _, _, _, _, _, _] rfl ?_; clear S M a; intro a w1 bA S M hB
  refine st_box S M rfl rfl rfl #[_, _, _, _, _, _, _, _, _, _, _] rfl ?_; clear S M a; intro a w2 bK S M hB
  refine st_alloc S M rfl rfl #[.int .i8 0, .int .i64 0, .int .i64 0, .int .i64 0, .int .i64 0, .int .i64 0, .int .i64 0, .int .i64 0, .int .i64 0, .int .i8 0, .int .i64 0, .int .u8 0, .int .u8 0, .int .u8 0, .int .u8 0, .int .u8 0, .int .u8 0, .int .u8 0, .int .u8 0, .int .i64 0, .bool false, .int .i64 0, .int .i64 0, .slice none 0 0] (by kernel_rfl) ?_; clear S M a; intro a w3 bO S M hB
  refine nxA ?_
  refine st_y S rfl rfl rfl (y_loadAgg (cs := [_, _, _, _, _, _, _, _, _, _, _, _, _, _, _, _, _, _, _, _, _, _, _, _]) S (by kernel_rfl) rfl rfl (M.cellsAt (k := 24) 2 rfl rfl)) ?_; clear S a; intro a S
  refine st_alloc S M rfl rfl #[.int .i8 0, .int .i64 0, .int .i64 0, .int .i64 0, .int .i64 0, .int .i64 0, .int .i64 0, .int .i64 0, .int .i64 0, .int .i8 0, .int .i64 0, .int .u8 0, .int .u8 0, .int .u8 0, .int .u8 0, .int .u8 0, .int .u8 0, .int .u8 0, .int .u8 0, .int .i64 0, .bool false, .int .i64 0, .int .i64 0, .slice none 0 0] (by kernel_rfl) ?_; clear S M a; intro a w4 bB S M hB
  refine st_store (sz := 24) (us := [_, _, _, _, _, _, _, _, _, _, _, _, _, _, _, _, _, _, _, _, _, _, _, _]) S M 0 rfl (by kernel_rfl) rfl rfl rfl rfl rfl rfl (by first | decide | (simp; done) | (simp; omega)) ?_; clear M; intro w5 M
  simp only [putL, List.set_cons_zero, List.set_cons_succ, Nat.reduceAdd] at M
  refine nxC ?_
  refine wp_seq ?_
  refine nxD ?_
  refine st_go [1] S rfl (by kernel_rfl) ?_; clear S a; intro a S
  refine nxC ?_
  refine wp_block ?_
  refine wp_loop_g (fun q a w' => ∃ (j : Nat), j ≤ 10 ∧ q = 10 - j ∧ Sees 50 a [(3, .pointer (some ⟨bK, 0, none⟩)), (4, .pointer (some ⟨bO, 0, none⟩)), (5, .pointer (some ⟨bB, 0, none⟩)), (8, .int .i64 (j : Int))] ∧ Mem w w' [.blk bB ((bareM h j m).cells (bareW h j (.slice va vn vc))) 45, .blk bO (zMsg.cells (.slice none 0 0)) 45, .blk bK (kdL d h).toArray 107]) (10) ?_ ?_
  · skip
    exact ⟨0, by omega, rfl, S.sub _ rfl, M.drop 3⟩
  clear S M a; intro m a wl
  rintro ⟨j, hj, rfl, S, M⟩
  refine nxD ?_
  refine st_go [1] S rfl (by kernel_rfl) ?_; clear S a; intro a S
  refine nxC ?_
  refine wp_seq ?_
  refine st_fi (t := 9) S rfl ?_ ?_
  · clear S; intro h9 S
    refine st_condF S rfl ?_
    refine wp_exit ?_
    refine then_exit ?_
    refine then_exit ?_
    refine block_hit ?_
    refine then_normal ?_
    refine wp_seq ?_
    obtain rfl : j = 10 := by omega
    obtain ⟨ad, l, c, hbw, hbx⟩ : ∃ ad l c, bareW h 10 (.slice va vn vc) = .slice ad l c ∧ ((ad = none ∧ l = 0 ∧ c = 0 ∧ bareX h x = []) ∨ (ad = va ∧ l = vn ∧ c = vc ∧ bareX h x = x)) := by
      cases h9 : h 9 with
      | true => exact ⟨va, vn, vc, by simp [bareW, h9], .inr ⟨rfl, rfl, rfl, by simp [bareX, h9]⟩⟩
      | false => exact ⟨none, 0, 0, by simp [bareW, h9], .inl ⟨rfl, rfl, rfl, by simp [bareX, h9]⟩⟩
    rw [hbw] at M
    refine wp_region_lit ?_
    refine st_y S rfl rfl rfl (y_loadAgg (cs := [_, _, _, _, _, _, _, _, _, _, _, _, _, _, _, _, _, _, _, _, _, _, _, _]) S (by kernel_rfl) rfl rfl (M.cellsAt (k := 24) 0 rfl rfl)) ?_; clear S a; intro a S
    refine st_store (sz := 24) (us := [_, _, _, _, _, _, _, _, _, _, _, _, _, _, _, _, _, _, _, _, _, _, _, _]) S M 1 rfl (by kernel_rfl) rfl rfl rfl rfl rfl rfl (by first | decide | (simp; done) | (simp; omega)) ?_; clear M; intro w16 M
    simp only [putL, List.set_cons_zero, List.set_cons_succ, Nat.reduceAdd] at M
    refine nxC ?_
    refine wp_ret ?_
    refine end_one S rfl (res_agg (cs := [_, _, _, _, _, _, _, _, _, _, _, _, _, _, _, _, _, _, _, _, _, _, _, _]) (by kernel_rfl) rfl rfl (M.cellsAt (k := 24) 1 rfl rfl)) ?_
    exact ⟨ad, l, c, rfl, M.below, hbx⟩
  clear S; intro h9 S
  refine st_condT S rfl ?_
  refine wp_skip ?_
  refine then_normal ?_
  refine wp_seq ?_
  refine wp_block ?_
  refine nxD ?_
  refine st_go [1, 1] S rfl (by kernel_rfl) ?_; clear S a; intro a S
  refine nxC ?_
  refine wp_seq ?_
  refine nxD ?_
  refine st_go [1, 2] S rfl (by kernel_rfl) ?_; clear S a; intro a S
  refine st_y S rfl rfl rfl (y_indexA (m := 10) (sz := 1) S (by kernel_rfl) rfl rfl (by first | omega | (simp; done) | (simp; omega))) ?_; clear S a; intro a S
  try simp only [Int.toNat_natCast, Nat.mul_one, Nat.zero_add] at S
  refine st_y S rfl rfl rfl (y_load S (by kernel_rfl) rfl (M.cell 2 rfl (kd_get (by omega)))) ?_; clear S a; intro a S
  refine nxC ?_
  refine st_split (t := 14) S rfl ?_ ?_
  · clear S; intro h14 S
    refine st_condT S rfl ?_
    refine wp_exit ?_
    refine then_exit ?_
    refine block_hit ?_
    refine nxF ?_
    (first | refine st_y S rfl rfl rfl (y_addN S rfl rfl (by omega)) ?_ | refine st_y S rfl rfl rfl (y_int S rfl rfl rfl) ?_); clear S a; intro a S
    refine st_go [1] S rfl (by kernel_rfl) ?_; clear S a; intro a S
    refine nxC ?_
    refine ⟨10 - (j + 1), by omega, j + 1, by omega, rfl, S.sub _ rfl, ?_⟩
    first
      | (rw [bareM_same h14, bareW_same h14]; exact M)
      | (exfalso; omega)
      | (suffices hj0 : j = 0 by (subst hj0; exact M.eqH (by simp [bareM, bareW, h14]))
         omega)
      | (suffices hj0 : j = 1 by (subst hj0; exact M.eqH (by simp [bareM, bareW, h14]))
         omega)
      | (suffices hj0 : j = 2 by (subst hj0; exact M.eqH (by simp [bareM, bareW, h14]))
         omega)
      | (suffices hj0 : j = 3 by (subst hj0; exact M.eqH (by simp [bareM, bareW, h14]))
         omega)
      | (suffices hj0 : j = 4 by (subst hj0; exact M.eqH (by simp [bareM, bareW, h14]))
         omega)
      | (suffices hj0 : j = 5 by (subst hj0; exact M.eqH (by simp [bareM, bareW, h14]))
         omega)
      | (suffices hj0 : j = 6 by (subst hj0; exact M.eqH (by simp [bareM, bareW, h14]))
         omega)
      | (suffices hj0 : j = 7 by (subst hj0; exact M.eqH (by simp [bareM, bareW, h14]))
         omega)
      | (suffices hj0 : j = 8 by (subst hj0; exact M.eqH (by simp [bareM, bareW, h14]))
         omega)
      | (suffices hj0 : j = 9 by (subst hj0; exact M.eqH (by simp [bareM, bareW, h14]))
         omega)
  clear S; intro h14 S
  refine st_condF S rfl ?_
  refine wp_skip ?_
  refine nxE ?_
  refine st_go [1] S rfl (by kernel_rfl) ?_; clear S a; intro a S
  refine nxC ?_
  refine wp_block ?_
  refine nxD ?_
  refine st_go [1, 1] S rfl (by kernel_rfl) ?_; clear S a; intro a S
  refine nxC ?_
  refine st_if (t := 16) S rfl ?_ ?_
  · clear S; intro h16 S
    refine st_condT S rfl ?_
    refine wp_region_lit ?_
    refine st_y S rfl rfl rfl (y_build (ps := []) (pl := [(0, 1), (1, 1), (2, 1)]) (z := [.int .i64 0, .int .i64 0, .int .i64 0]) (cs := [_, _, _]) S (by kernel_rfl) rfl (rfl)) ?_; clear S a; intro a S
    refine st_go [6] S rfl (by kernel_rfl) ?_; clear S a; intro a S
    refine st_store (sz := 3) (us := [_, _, _]) S M 0 rfl (by kernel_rfl) rfl rfl rfl rfl rfl rfl (by first | decide | (simp; done) | (simp; omega)) ?_; clear M; intro w6 M
    simp only [putL, List.set_cons_zero, List.set_cons_succ, Nat.reduceAdd] at M
    refine wpList_nil ?_
    refine block_normal ?_
    refine block_normal ?_
    refine nxF ?_
    (first | refine st_y S rfl rfl rfl (y_addN S rfl rfl (by omega)) ?_ | refine st_y S rfl rfl rfl (y_int S rfl rfl rfl) ?_); clear S a; intro a S
    refine st_go [1] S rfl (by kernel_rfl) ?_; clear S a; intro a S
    refine nxC ?_
    refine ⟨10 - (j + 1), by omega, j + 1, by omega, rfl, S.sub _ rfl, ?_⟩
    first
      | (rw [bareM_same h14, bareW_same h14]; exact M)
      | (exfalso; omega)
      | (suffices hj0 : j = 0 by (subst hj0; exact M.eqH (by simp [bareM, bareW, h14]))
         omega)
      | (suffices hj0 : j = 1 by (subst hj0; exact M.eqH (by simp [bareM, bareW, h14]))
         omega)
      | (suffices hj0 : j = 2 by (subst hj0; exact M.eqH (by simp [bareM, bareW, h14]))
         omega)
      | (suffices hj0 : j = 3 by (subst hj0; exact M.eqH (by simp [bareM, bareW, h14]))
         omega)
      | (suffices hj0 : j = 4 by (subst hj0; exact M.eqH (by simp [bareM, bareW, h14]))
         omega)
      | (suffices hj0 : j = 5 by (subst hj0; exact M.eqH (by simp [bareM, bareW, h14]))
         omega)
      | (suffices hj0 : j = 6 by (subst hj0; exact M.eqH (by simp [bareM, bareW, h14]))
         omega)
      | (suffices hj0 : j = 7 by (subst hj0; exact M.eqH (by simp [bareM, bareW, h14]))
         omega)
      | (suffices hj0 : j = 8 by (subst hj0; exact M.eqH (by simp [bareM, bareW, h14]))
         omega)
      | (suffices hj0 : j = 9 by (subst hj0; exact M.eqH (by simp [bareM, bareW, h14]))
         omega)
  clear S; intro h16 S
  refine st_condF S rfl ?_
  refine nxD ?_
  refine st_go [1, 1] S rfl (by kernel_rfl) ?_; clear S a; intro a S
  refine nxC ?_
  refine st_if (t := 20) S rfl ?_ ?_
  · clear S; intro h20 S
    refine st_condT S rfl ?_
    refine wp_region_lit ?_
    refine st_go [9] S rfl (by kernel_rfl) ?_; clear S a; intro a S
    refine st_store (sz := 1) (us := [_]) S M 0 rfl (by kernel_rfl) rfl rfl rfl rfl rfl rfl (by first | decide | (simp; done) | (simp; omega)) ?_; clear M; intro w7 M
    simp only [putL, List.set_cons_zero, List.set_cons_succ, Nat.reduceAdd] at M
    refine wpList_nil ?_
    refine block_normal ?_
    refine block_normal ?_
    refine nxF ?_
    (first | refine st_y S rfl rfl rfl (y_addN S rfl rfl (by omega)) ?_ | refine st_y S rfl rfl rfl (y_int S rfl rfl rfl) ?_); clear S a; intro a S
    refine st_go [1] S rfl (by kernel_rfl) ?_; clear S a; intro a S
    refine nxC ?_
    refine ⟨10 - (j + 1), by omega, j + 1, by omega, rfl, S.sub _ rfl, ?_⟩
    first
      | (rw [bareM_same h14, bareW_same h14]; exact M)
      | (exfalso; omega)
      | (suffices hj0 : j = 0 by (subst hj0; exact M.eqH (by simp [bareM, bareW, h14]))
         omega)
      | (suffices hj0 : j = 1 by (subst hj0; exact M.eqH (by simp [bareM, bareW, h14]))
         omega)
      | (suffices hj0 : j = 2 by (subst hj0; exact M.eqH (by simp [bareM, bareW, h14]))
         omega)
      | (suffices hj0 : j = 3 by (subst hj0; exact M.eqH (by simp [bareM, bareW, h14]))
         omega)
      | (suffices hj0 : j = 4 by (subst hj0; exact M.eqH (by simp [bareM, bareW, h14]))
         omega)
      | (suffices hj0 : j = 5 by (subst hj0; exact M.eqH (by simp [bareM, bareW, h14]))
         omega)
      | (suffices hj0 : j = 6 by (subst hj0; exact M.eqH (by simp [bareM, bareW, h14]))
         omega)
      | (suffices hj0 : j = 7 by (subst hj0; exact M.eqH (by simp [bareM, bareW, h14]))
         omega)
      | (suffices hj0 : j = 8 by (subst hj0; exact M.eqH (by simp [bareM, bareW, h14]))
         omega)
      | (suffices hj0 : j = 9 by (subst hj0; exact M.eqH (by simp [bareM, bareW, h14]))
         omega)
  clear S; intro h20 S
  refine st_condF S rfl ?_
  refine nxD ?_
  refine st_go [1, 1] S rfl (by kernel_rfl) ?_; clear S a; intro a S
  refine nxC ?_
  refine st_if (t := 23) S rfl ?_ ?_
  · clear S; intro h23 S
    refine st_condT S rfl ?_
    refine wp_region_lit ?_
    refine st_go [10] S rfl (by kernel_rfl) ?_; clear S a; intro a S
    refine st_store (sz := 1) (us := [_]) S M 0 rfl (by kernel_rfl) rfl rfl rfl rfl rfl rfl (by first | decide | (simp; done) | (simp; omega)) ?_; clear M; intro w8 M
    simp only [putL, List.set_cons_zero, List.set_cons_succ, Nat.reduceAdd] at M
    refine wpList_nil ?_
    refine block_normal ?_
    refine block_normal ?_
    refine nxF ?_
    (first | refine st_y S rfl rfl rfl (y_addN S rfl rfl (by omega)) ?_ | refine st_y S rfl rfl rfl (y_int S rfl rfl rfl) ?_); clear S a; intro a S
    refine st_go [1] S rfl (by kernel_rfl) ?_; clear S a; intro a S
    refine nxC ?_
    refine ⟨10 - (j + 1), by omega, j + 1, by omega, rfl, S.sub _ rfl, ?_⟩
    first
      | (rw [bareM_same h14, bareW_same h14]; exact M)
      | (exfalso; omega)
      | (suffices hj0 : j = 0 by (subst hj0; exact M.eqH (by simp [bareM, bareW, h14]))
         omega)
      | (suffices hj0 : j = 1 by (subst hj0; exact M.eqH (by simp [bareM, bareW, h14]))
         omega)
      | (suffices hj0 : j = 2 by (subst hj0; exact M.eqH (by simp [bareM, bareW, h14]))
         omega)
      | (suffices hj0 : j = 3 by (subst hj0; exact M.eqH (by simp [bareM, bareW, h14]))
         omega)
      | (suffices hj0 : j = 4 by (subst hj0; exact M.eqH (by simp [bareM, bareW, h14]))
         omega)
      | (suffices hj0 : j = 5 by (subst hj0; exact M.eqH (by simp [bareM, bareW, h14]))
         omega)
      | (suffices hj0 : j = 6 by (subst hj0; exact M.eqH (by simp [bareM, bareW, h14]))
         omega)
      | (suffices hj0 : j = 7 by (subst hj0; exact M.eqH (by simp [bareM, bareW, h14]))
         omega)
      | (suffices hj0 : j = 8 by (subst hj0; exact M.eqH (by simp [bareM, bareW, h14]))
         omega)
      | (suffices hj0 : j = 9 by (subst hj0; exact M.eqH (by simp [bareM, bareW, h14]))
         omega)
  clear S; intro h23 S
  refine st_condF S rfl ?_
  refine nxD ?_
  refine st_go [1, 1] S rfl (by kernel_rfl) ?_; clear S a; intro a S
  refine nxC ?_
  refine st_if (t := 26) S rfl ?_ ?_
  · clear S; intro h26 S
    refine st_condT S rfl ?_
    refine wp_region_lit ?_
    refine st_go [11] S rfl (by kernel_rfl) ?_; clear S a; intro a S
    refine st_store (sz := 1) (us := [_]) S M 0 rfl (by kernel_rfl) rfl rfl rfl rfl rfl rfl (by first | decide | (simp; done) | (simp; omega)) ?_; clear M; intro w9 M
    simp only [putL, List.set_cons_zero, List.set_cons_succ, Nat.reduceAdd] at M
    refine wpList_nil ?_
    refine block_normal ?_
    refine block_normal ?_
    refine nxF ?_
    (first | refine st_y S rfl rfl rfl (y_addN S rfl rfl (by omega)) ?_ | refine st_y S rfl rfl rfl (y_int S rfl rfl rfl) ?_); clear S a; intro a S
    refine st_go [1] S rfl (by kernel_rfl) ?_; clear S a; intro a S
    refine nxC ?_
    refine ⟨10 - (j + 1), by omega, j + 1, by omega, rfl, S.sub _ rfl, ?_⟩
    first
      | (rw [bareM_same h14, bareW_same h14]; exact M)
      | (exfalso; omega)
      | (suffices hj0 : j = 0 by (subst hj0; exact M.eqH (by simp [bareM, bareW, h14]))
         omega)
      | (suffices hj0 : j = 1 by (subst hj0; exact M.eqH (by simp [bareM, bareW, h14]))
         omega)
      | (suffices hj0 : j = 2 by (subst hj0; exact M.eqH (by simp [bareM, bareW, h14]))
         omega)
      | (suffices hj0 : j = 3 by (subst hj0; exact M.eqH (by simp [bareM, bareW, h14]))
         omega)
      | (suffices hj0 : j = 4 by (subst hj0; exact M.eqH (by simp [bareM, bareW, h14]))
         omega)
      | (suffices hj0 : j = 5 by (subst hj0; exact M.eqH (by simp [bareM, bareW, h14]))
         omega)
      | (suffices hj0 : j = 6 by (subst hj0; exact M.eqH (by simp [bareM, bareW, h14]))
         omega)
      | (suffices hj0 : j = 7 by (subst hj0; exact M.eqH (by simp [bareM, bareW, h14]))
         omega)
      | (suffices hj0 : j = 8 by (subst hj0; exact M.eqH (by simp [bareM, bareW, h14]))
         omega)
      | (suffices hj0 : j = 9 by (subst hj0; exact M.eqH (by simp [bareM, bareW, h14]))
         omega)
  clear S; intro h26 S
  refine st_condF S rfl ?_
  refine nxD ?_
  refine st_go [1, 1] S rfl (by kernel_rfl) ?_; clear S a; intro a S
  refine nxC ?_
  refine st_if (t := 29) S rfl ?_ ?_
  · clear S; intro h29 S
    refine st_condT S rfl ?_
    refine wp_region_lit ?_
    refine st_y S rfl rfl rfl (y_buildA (ps := []) (sz := 1) (z := [.int .u8 0, .int .u8 0, .int .u8 0, .int .u8 0, .int .u8 0, .int .u8 0, .int .u8 0, .int .u8 0]) (cs := [_, _, _, _, _, _, _, _]) S (by kernel_rfl) rfl rfl) ?_; clear S a; intro a S
    refine st_go [12] S rfl (by kernel_rfl) ?_; clear S a; intro a S
    refine st_store (sz := 8) (us := [_, _, _, _, _, _, _, _]) S M 0 rfl (by kernel_rfl) rfl rfl rfl rfl rfl rfl (by first | decide | (simp; done) | (simp; omega)) ?_; clear M; intro w10 M
    simp only [putL, List.set_cons_zero, List.set_cons_succ, Nat.reduceAdd] at M
    refine wpList_nil ?_
    refine block_normal ?_
    refine block_normal ?_
    refine nxF ?_
    (first | refine st_y S rfl rfl rfl (y_addN S rfl rfl (by omega)) ?_ | refine st_y S rfl rfl rfl (y_int S rfl rfl rfl) ?_); clear S a; intro a S
    refine st_go [1] S rfl (by kernel_rfl) ?_; clear S a; intro a S
    refine nxC ?_
    refine ⟨10 - (j + 1), by omega, j + 1, by omega, rfl, S.sub _ rfl, ?_⟩
    first
      | (rw [bareM_same h14, bareW_same h14]; exact M)
      | (exfalso; omega)
      | (suffices hj0 : j = 0 by (subst hj0; exact M.eqH (by simp [bareM, bareW, h14]))
         omega)
      | (suffices hj0 : j = 1 by (subst hj0; exact M.eqH (by simp [bareM, bareW, h14]))
         omega)
      | (suffices hj0 : j = 2 by (subst hj0; exact M.eqH (by simp [bareM, bareW, h14]))
         omega)
      | (suffices hj0 : j = 3 by (subst hj0; exact M.eqH (by simp [bareM, bareW, h14]))
         omega)
      | (suffices hj0 : j = 4 by (subst hj0; exact M.eqH (by simp [bareM, bareW, h14]))
         omega)
      | (suffices hj0 : j = 5 by (subst hj0; exact M.eqH (by simp [bareM, bareW, h14]))
         omega)
      | (suffices hj0 : j = 6 by (subst hj0; exact M.eqH (by simp [bareM, bareW, h14]))
         omega)
      | (suffices hj0 : j = 7 by (subst hj0; exact M.eqH (by simp [bareM, bareW, h14]))
         omega)
      | (suffices hj0 : j = 8 by (subst hj0; exact M.eqH (by simp [bareM, bareW, h14]))
         omega)
      | (suffices hj0 : j = 9 by (subst hj0; exact M.eqH (by simp [bareM, bareW, h14]))
         omega)
  clear S; intro h29 S
  refine st_condF S rfl ?_
  refine nxD ?_
  refine st_go [1, 1] S rfl (by kernel_rfl) ?_; clear S a; intro a S
  refine nxC ?_
  refine st_if (t := 33) S rfl ?_ ?_
  · clear S; intro h33 S
    refine st_condT S rfl ?_
    refine wp_region_lit ?_
    refine st_go [20] S rfl (by kernel_rfl) ?_; clear S a; intro a S
    refine st_store (sz := 1) (us := [_]) S M 0 rfl (by kernel_rfl) rfl rfl rfl rfl rfl rfl (by first | decide | (simp; done) | (simp; omega)) ?_; clear M; intro w11 M
    simp only [putL, List.set_cons_zero, List.set_cons_succ, Nat.reduceAdd] at M
    refine wpList_nil ?_
    refine block_normal ?_
    refine block_normal ?_
    refine nxF ?_
    (first | refine st_y S rfl rfl rfl (y_addN S rfl rfl (by omega)) ?_ | refine st_y S rfl rfl rfl (y_int S rfl rfl rfl) ?_); clear S a; intro a S
    refine st_go [1] S rfl (by kernel_rfl) ?_; clear S a; intro a S
    refine nxC ?_
    refine ⟨10 - (j + 1), by omega, j + 1, by omega, rfl, S.sub _ rfl, ?_⟩
    first
      | (rw [bareM_same h14, bareW_same h14]; exact M)
      | (exfalso; omega)
      | (suffices hj0 : j = 0 by (subst hj0; exact M.eqH (by simp [bareM, bareW, h14]))
         omega)
      | (suffices hj0 : j = 1 by (subst hj0; exact M.eqH (by simp [bareM, bareW, h14]))
         omega)
      | (suffices hj0 : j = 2 by (subst hj0; exact M.eqH (by simp [bareM, bareW, h14]))
         omega)
      | (suffices hj0 : j = 3 by (subst hj0; exact M.eqH (by simp [bareM, bareW, h14]))
         omega)
      | (suffices hj0 : j = 4 by (subst hj0; exact M.eqH (by simp [bareM, bareW, h14]))
         omega)
      | (suffices hj0 : j = 5 by (subst hj0; exact M.eqH (by simp [bareM, bareW, h14]))
         omega)
      | (suffices hj0 : j = 6 by (subst hj0; exact M.eqH (by simp [bareM, bareW, h14]))
         omega)
      | (suffices hj0 : j = 7 by (subst hj0; exact M.eqH (by simp [bareM, bareW, h14]))
         omega)
      | (suffices hj0 : j = 8 by (subst hj0; exact M.eqH (by simp [bareM, bareW, h14]))
         omega)
      | (suffices hj0 : j = 9 by (subst hj0; exact M.eqH (by simp [bareM, bareW, h14]))
         omega)
  clear S; intro h33 S
  refine st_condF S rfl ?_
  refine nxD ?_
  refine st_go [1, 1] S rfl (by kernel_rfl) ?_; clear S a; intro a S
  refine nxC ?_
  refine st_if (t := 36) S rfl ?_ ?_
  · clear S; intro h36 S
    refine st_condT S rfl ?_
    refine wp_region_lit ?_
    refine st_go [21] S rfl (by kernel_rfl) ?_; clear S a; intro a S
    refine st_store (sz := 1) (us := [_]) S M 0 rfl (by kernel_rfl) rfl rfl rfl rfl rfl rfl (by first | decide | (simp; done) | (simp; omega)) ?_; clear M; intro w12 M
    simp only [putL, List.set_cons_zero, List.set_cons_succ, Nat.reduceAdd] at M
    refine wpList_nil ?_
    refine block_normal ?_
    refine block_normal ?_
    refine nxF ?_
    (first | refine st_y S rfl rfl rfl (y_addN S rfl rfl (by omega)) ?_ | refine st_y S rfl rfl rfl (y_int S rfl rfl rfl) ?_); clear S a; intro a S
    refine st_go [1] S rfl (by kernel_rfl) ?_; clear S a; intro a S
    replace S := S.sub [(3, _), (4, _), (5, _), (9, _), (6, _), (14, _), (15, _), (16, _), (20, _), (23, _), (26, _), (29, _), (33, _), (36, _), (8, _)] rfl
    refine nxC ?_
    refine ⟨10 - (j + 1), by omega, j + 1, by omega, rfl, S.sub _ rfl, ?_⟩
    first
      | (rw [bareM_same h14, bareW_same h14]; exact M)
      | (exfalso; omega)
      | (suffices hj0 : j = 0 by (subst hj0; exact M.eqH (by simp [bareM, bareW, h14]))
         omega)
      | (suffices hj0 : j = 1 by (subst hj0; exact M.eqH (by simp [bareM, bareW, h14]))
         omega)
      | (suffices hj0 : j = 2 by (subst hj0; exact M.eqH (by simp [bareM, bareW, h14]))
         omega)
      | (suffices hj0 : j = 3 by (subst hj0; exact M.eqH (by simp [bareM, bareW, h14]))
         omega)
      | (suffices hj0 : j = 4 by (subst hj0; exact M.eqH (by simp [bareM, bareW, h14]))
         omega)
      | (suffices hj0 : j = 5 by (subst hj0; exact M.eqH (by simp [bareM, bareW, h14]))
         omega)
      | (suffices hj0 : j = 6 by (subst hj0; exact M.eqH (by simp [bareM, bareW, h14]))
         omega)
      | (suffices hj0 : j = 7 by (subst hj0; exact M.eqH (by simp [bareM, bareW, h14]))
         omega)
      | (suffices hj0 : j = 8 by (subst hj0; exact M.eqH (by simp [bareM, bareW, h14]))
         omega)
      | (suffices hj0 : j = 9 by (subst hj0; exact M.eqH (by simp [bareM, bareW, h14]))
         omega)
  clear S; intro h36 S
  refine st_condF S rfl ?_
  refine nxD ?_
  refine st_go [1, 1] S rfl (by kernel_rfl) ?_; clear S a; intro a S
  refine nxC ?_
  refine st_if (t := 39) S rfl ?_ ?_
  · clear S; intro h39 S
    refine st_condT S rfl ?_
    refine wp_region_lit ?_
    refine st_go [22] S rfl (by kernel_rfl) ?_; clear S a; intro a S
    refine st_store (sz := 1) (us := [_]) S M 0 rfl (by kernel_rfl) rfl rfl rfl rfl rfl rfl (by first | decide | (simp; done) | (simp; omega)) ?_; clear M; intro w13 M
    simp only [putL, List.set_cons_zero, List.set_cons_succ, Nat.reduceAdd] at M
    refine wpList_nil ?_
    refine block_normal ?_
    refine block_normal ?_
    refine nxF ?_
    (first | refine st_y S rfl rfl rfl (y_addN S rfl rfl (by omega)) ?_ | refine st_y S rfl rfl rfl (y_int S rfl rfl rfl) ?_); clear S a; intro a S
    refine st_go [1] S rfl (by kernel_rfl) ?_; clear S a; intro a S
    replace S := S.sub [(3, _), (4, _), (5, _), (9, _), (6, _), (14, _), (15, _), (16, _), (20, _), (23, _), (26, _), (29, _), (33, _), (36, _), (39, _), (8, _)] rfl
    refine nxC ?_
    refine ⟨10 - (j + 1), by omega, j + 1, by omega, rfl, S.sub _ rfl, ?_⟩
    first
      | (rw [bareM_same h14, bareW_same h14]; exact M)
      | (exfalso; omega)
      | (suffices hj0 : j = 0 by (subst hj0; exact M.eqH (by simp [bareM, bareW, h14]))
         omega)
      | (suffices hj0 : j = 1 by (subst hj0; exact M.eqH (by simp [bareM, bareW, h14]))
         omega)
      | (suffices hj0 : j = 2 by (subst hj0; exact M.eqH (by simp [bareM, bareW, h14]))
         omega)
      | (suffices hj0 : j = 3 by (subst hj0; exact M.eqH (by simp [bareM, bareW, h14]))
         omega)
      | (suffices hj0 : j = 4 by (subst hj0; exact M.eqH (by simp [bareM, bareW, h14]))
         omega)
      | (suffices hj0 : j = 5 by (subst hj0; exact M.eqH (by simp [bareM, bareW, h14]))
         omega)
      | (suffices hj0 : j = 6 by (subst hj0; exact M.eqH (by simp [bareM, bareW, h14]))
         omega)
      | (suffices hj0 : j = 7 by (subst hj0; exact M.eqH (by simp [bareM, bareW, h14]))
         omega)
      | (suffices hj0 : j = 8 by (subst hj0; exact M.eqH (by simp [bareM, bareW, h14]))
         omega)
      | (suffices hj0 : j = 9 by (subst hj0; exact M.eqH (by simp [bareM, bareW, h14]))
         omega)
  clear S; intro h39 S
  refine st_condF S rfl ?_
  refine nxD ?_
  refine st_go [1, 1] S rfl (by kernel_rfl) ?_; clear S a; intro a S
  refine nxC ?_
  refine st_if (t := 42) S rfl ?_ ?_
  · clear S; intro h42 S
    refine st_condT S rfl ?_
    refine wp_region_lit ?_
    refine st_go [23] S rfl (by kernel_rfl) ?_; clear S a; intro a S
    refine st_store (sz := 1) (us := [_]) S M 0 rfl (by kernel_rfl) rfl rfl rfl rfl rfl rfl (by first | decide | (simp; done) | (simp; omega)) ?_; clear M; intro w14 M
    simp only [putL, List.set_cons_zero, List.set_cons_succ, Nat.reduceAdd] at M
    replace S := S.sub [(3, _), (4, _), (5, _), (8, _), (9, _), (6, _), (14, _), (15, _), (16, _), (20, _), (23, _), (26, _), (29, _), (33, _), (36, _), (39, _), (42, _)] rfl
    refine wpList_nil ?_
    refine block_normal ?_
    refine block_normal ?_
    refine nxF ?_
    (first | refine st_y S rfl rfl rfl (y_addN S rfl rfl (by omega)) ?_ | refine st_y S rfl rfl rfl (y_int S rfl rfl rfl) ?_); clear S a; intro a S
    refine st_go [1] S rfl (by kernel_rfl) ?_; clear S a; intro a S
    refine nxC ?_
    refine ⟨10 - (j + 1), by omega, j + 1, by omega, rfl, S.sub _ rfl, ?_⟩
    first
      | (rw [bareM_same h14, bareW_same h14]; exact M)
      | (exfalso; omega)
      | (suffices hj0 : j = 0 by (subst hj0; exact M.eqH (by simp [bareM, bareW, h14]))
         omega)
      | (suffices hj0 : j = 1 by (subst hj0; exact M.eqH (by simp [bareM, bareW, h14]))
         omega)
      | (suffices hj0 : j = 2 by (subst hj0; exact M.eqH (by simp [bareM, bareW, h14]))
         omega)
      | (suffices hj0 : j = 3 by (subst hj0; exact M.eqH (by simp [bareM, bareW, h14]))
         omega)
      | (suffices hj0 : j = 4 by (subst hj0; exact M.eqH (by simp [bareM, bareW, h14]))
         omega)
      | (suffices hj0 : j = 5 by (subst hj0; exact M.eqH (by simp [bareM, bareW, h14]))
         omega)
      | (suffices hj0 : j = 6 by (subst hj0; exact M.eqH (by simp [bareM, bareW, h14]))
         omega)
      | (suffices hj0 : j = 7 by (subst hj0; exact M.eqH (by simp [bareM, bareW, h14]))
         omega)
      | (suffices hj0 : j = 8 by (subst hj0; exact M.eqH (by simp [bareM, bareW, h14]))
         omega)
      | (suffices hj0 : j = 9 by (subst hj0; exact M.eqH (by simp [bareM, bareW, h14]))
         omega)
  clear S; intro h42 S
  refine st_condF S rfl ?_
  refine nxD ?_
  refine st_go [1, 1] S rfl (by kernel_rfl) ?_; clear S a; intro a S
  replace S := S.sub [(3, _), (4, _), (5, _), (8, _), (9, _), (6, _), (14, _), (15, _), (16, _), (20, _), (23, _), (26, _), (29, _), (33, _), (36, _), (39, _), (42, _), (45, _)] rfl
  refine nxC ?_
  refine st_fi (t := 45) S rfl ?_ ?_
  · clear S; intro h45 S
    refine st_condF S rfl ?_
    refine wp_skip ?_
    refine block_normal ?_
    refine block_normal ?_
    refine nxF ?_
    (first | refine st_y S rfl rfl rfl (y_addN S rfl rfl (by omega)) ?_ | refine st_y S rfl rfl rfl (y_int S rfl rfl rfl) ?_); clear S a; intro a S
    refine st_go [1] S rfl (by kernel_rfl) ?_; clear S a; intro a S
    refine nxC ?_
    refine ⟨10 - (j + 1), by omega, j + 1, by omega, rfl, S.sub _ rfl, ?_⟩
    first
      | (rw [bareM_same h14, bareW_same h14]; exact M)
      | (exfalso; omega)
      | (suffices hj0 : j = 0 by (subst hj0; exact M.eqH (by simp [bareM, bareW, h14]))
         omega)
      | (suffices hj0 : j = 1 by (subst hj0; exact M.eqH (by simp [bareM, bareW, h14]))
         omega)
      | (suffices hj0 : j = 2 by (subst hj0; exact M.eqH (by simp [bareM, bareW, h14]))
         omega)
      | (suffices hj0 : j = 3 by (subst hj0; exact M.eqH (by simp [bareM, bareW, h14]))
         omega)
      | (suffices hj0 : j = 4 by (subst hj0; exact M.eqH (by simp [bareM, bareW, h14]))
         omega)
      | (suffices hj0 : j = 5 by (subst hj0; exact M.eqH (by simp [bareM, bareW, h14]))
         omega)
      | (suffices hj0 : j = 6 by (subst hj0; exact M.eqH (by simp [bareM, bareW, h14]))
         omega)
      | (suffices hj0 : j = 7 by (subst hj0; exact M.eqH (by simp [bareM, bareW, h14]))
         omega)
      | (suffices hj0 : j = 8 by (subst hj0; exact M.eqH (by simp [bareM, bareW, h14]))
         omega)
      | (suffices hj0 : j = 9 by (subst hj0; exact M.eqH (by simp [bareM, bareW, h14]))
         omega)
  clear S; intro h45 S
  refine st_condT S rfl ?_
  refine wp_region_lit ?_
  refine st_go [24] S rfl (by kernel_rfl) ?_; clear S a; intro a S
  refine st_store (sz := 1) (us := [_]) S M 0 rfl (by kernel_rfl) rfl rfl rfl rfl rfl rfl (by first | decide | (simp; done) | (simp; omega)) ?_; clear M; intro w15 M
  simp only [putL, List.set_cons_zero, List.set_cons_succ, Nat.reduceAdd] at M
  refine wpList_nil ?_
  refine block_normal ?_
  refine block_normal ?_
  refine nxF ?_
  (first | refine st_y S rfl rfl rfl (y_addN S rfl rfl (by omega)) ?_ | refine st_y S rfl rfl rfl (y_int S rfl rfl rfl) ?_); clear S a; intro a S
  refine st_go [1] S rfl (by kernel_rfl) ?_; clear S a; intro a S
  refine nxC ?_
  refine ⟨10 - (j + 1), by omega, j + 1, by omega, rfl, S.sub _ rfl, ?_⟩
  first
    | (rw [bareM_same h14, bareW_same h14]; exact M)
    | (exfalso; omega)
    | (suffices hj0 : j = 0 by (subst hj0; exact M.eqH (by simp [bareM, bareW, h14]))
       omega)
    | (suffices hj0 : j = 1 by (subst hj0; exact M.eqH (by simp [bareM, bareW, h14]))
       omega)
    | (suffices hj0 : j = 2 by (subst hj0; exact M.eqH (by simp [bareM, bareW, h14]))
       omega)
    | (suffices hj0 : j = 3 by (subst hj0; exact M.eqH (by simp [bareM, bareW, h14]))
       omega)
    | (suffices hj0 : j = 4 by (subst hj0; exact M.eqH (by simp [bareM, bareW, h14]))
       omega)
    | (suffices hj0 : j = 5 by (subst hj0; exact M.eqH (by simp [bareM, bareW, h14]))
       omega)
    | (suffices hj0 : j = 6 by (subst hj0; exact M.eqH (by simp [bareM, bareW, h14]))
       omega)
    | (suffices hj0 : j = 7 by (subst hj0; exact M.eqH (by simp [bareM, bareW, h14]))
       omega)
    | (suffices hj0 : j = 8 by (subst hj0; exact M.eqH (by simp [bareM, bareW, h14]))
       omega)
    | (suffices hj0 : j = 9 by (subst hj0; exact M.eqH (by simp [bareM, bareW, h14]))
       omega)
end Go.Proofs.Ytniijiipkfhjgaa

namespace Go.Proofs.Ytniijiipkfhjgaa
open Go.RowKit Go.Sort
def V8.zero (v : V8) : Bool := v.eqb ⟨0, 0, 0, 0, 0, 0, 0, 0⟩
/-- the fields that all kinds that have them have alike -/
def fitHead (h : Nat → Bool) (m : Msg) : Bool := !(h 0 && !m.name.named) && !(h 1 && !(withinB m.n 1048576))
/-- the fields of a kind -/
def fitKind (m : Msg) (x : List Wr) : Bool :=
  if m.kind = 2 then decide (0 ≤ m.op ∧ m.op ≤ 2 ∧ 0 ≤ m.block ∧ m.block < 32) && (m.op == 1 || m.val.zero)
  else if m.kind = 4 then Rc.may ⟨2, m.name, false, m.give, m.take, 0, 0, 0, 0⟩ x
  else if m.kind = 3 then m.e == 0 || ((m.e == 120 || m.e == 112 || m.e == 121 || m.e == 50) && m.val.zero)
  else if m.kind = 10 then m.e == 0 || m.e == 50 || m.e == 121
  else true
def fitB (h : Nat → Bool) (m : Msg) (x : List Wr) : Bool := fitHead h m && fitKind m x
set_option maxHeartbeats 1000000 in
theorem fit_any (m : Msg) (va : Option Addr) (vn vc : Nat) (x : List Wr) (d : Bool) (h : Nat → Bool) (w : World) (hv : Ws 0 w.heap.size w (.slice va vn vc) x) :
    Calls Try.prog 45 #[.agg (m.cells (.slice va vn vc)), .agg (kdL d h).toArray] w fun e w' => e = .returned (.bool (fitB h m x)) ∧ Below w.heap.size w w' := by
  have M := Mem.start w
  have hh1 : ∀ b : Bool, fitHead h m = b → fitB h m x = (b && fitKind m x) := fun b e => by unfold fitB; rw [e]
  refine calls_enter Try.func45 rfl 103 rfl rfl ?_; intro a S
  refine nxD ?_
  refine st_box S M rfl rfl rfl #[_, _, _, _, _, _, _, _, _, _, _, _, _, _, _, _, _, _, _, _, _, _, _, _] rfl ?_; clear S M a; intro a w1 bA S M hB
  refine st_box S M rfl rfl rfl #[_, _, _, _, _, _, _, _, _, _, _] rfl ?_; clear S M a; intro a w2 bK S M hB
  refine st_go [1] S rfl (by kernel_rfl) ?_; clear S a; intro a S
  refine nxC ?_
  refine wp_cut (fun a w' => Sees 103 a [(2, .pointer (some ⟨bA, 0, none⟩))] ∧ Mem w w' [.blk bK (kdL d h).toArray 107, .blk bA (m.cells (.slice va vn vc)) 45] ∧ fitHead h m = true) ?_ ?_
  · skip
    refine wp_block ?_
    refine nxD ?_
    refine st_go [2] S rfl (by kernel_rfl) ?_; clear S a; intro a S
    refine st_y S rfl rfl rfl (y_indexA (m := 10) (sz := 1) S (by kernel_rfl) rfl rfl (by first | omega | (simp; done) | (simp; omega))) ?_; clear S a; intro a S
    refine st_run [1, 1] S M rfl (by kernel_rfl) ?_; clear S a; intro a S
    refine st_tils (t := 10) S rfl ?_ ?_
    · clear S; intro h10 S
      refine st_go [0, 0, 0, 0, 1, 1] S rfl (by kernel_rfl) ?_; clear S a; intro a S
      refine nxC ?_
      refine st_condF S rfl ?_
      refine nxD ?_
      refine st_go [2] S rfl (by kernel_rfl) ?_; clear S a; intro a S
      refine st_y S rfl rfl rfl (y_indexA (m := 10) (sz := 1) S (by kernel_rfl) rfl rfl (by first | omega | (simp; done) | (simp; omega))) ?_; clear S a; intro a S
      refine st_run [1, 1] S M rfl (by kernel_rfl) ?_; clear S a; intro a S
      refine st_tils (t := 20) S rfl ?_ ?_
      · clear S; intro h20 S
        refine st_go [0, 0, 0, 0, 0, 0, 0, 0, 1, 1] S rfl (by kernel_rfl) ?_; clear S a; intro a S
        replace S := S.sub [(0, _), (1, _), (2, _), (3, _), (4, _), (6, _), (16, _)] rfl
        refine nxC ?_
        refine st_condF S rfl ?_
        refine wp_skip ?_
        refine block_normal ?_
        refine then_normal ?_
        have hF : fitHead h m = true := by
          unfold fitHead
          have e1 : (h 0 && !m.name.named) = false := by first | (rw [h10]; rfl) | (rw [show m.name.named = true by simpa using h6]; simp; done)
          have e2 : (h 1 && !withinB m.n 1048576) = false := by
            first
              | (rw [h20]; rfl)
              | (have : withinB m.n 1048576 = true := by unfold withinB; rw [decide_eq_true (by omega)]
                 rw [this]; simp)
          rw [e1, e2]; rfl
        exact ⟨S.sub _ rfl, M, hF⟩
      clear S; intro h20 S
      refine st_run [9, 2, 1, 1] S M rfl (by kernel_rfl) ?_; clear S a; intro a S
      refine st_if (t := 24) S rfl ?_ ?_
      · clear S; intro h24 S
        refine st_go [0, 0, 0, 1, 1, 1] S rfl (by kernel_rfl) ?_; clear S a; intro a S
        replace S := S.sub [(0, _), (1, _), (2, _), (3, _), (4, _), (6, _), (16, _)] rfl
        refine nxC ?_
        refine st_condT S rfl ?_
        refine wp_seq ?_
        have hF : fitHead h m = false := by
          unfold fitHead
          have : withinB m.n 1048576 = false := by unfold withinB; rw [decide_eq_false (by omega)]
          rw [this, h20]; simp
        refine wp_region_lit ?_
        refine st_go [1] S rfl (by kernel_rfl) ?_; clear S a; intro a S
        refine nxC ?_
        refine wp_ret ?_
        refine block_ret ?_
        refine then_ret ?_
        refine end_one S rfl (res_tmp rfl) ?_
        refine ⟨ret_bool ?_, M.below⟩; rw [hh1 _ hF]; rfl
      clear S; intro h24 S
      refine st_run [9, 2, 1, 1, 1, 1] S M rfl (by kernel_rfl) ?_; clear S a; intro a S
      replace S := S.sub [(0, _), (1, _), (2, _), (3, _), (4, _), (6, _), (16, _)] rfl
      refine nxC ?_
      refine st_if (t := 16) S rfl ?_ ?_
      · clear S; intro h16 S
        refine st_condT S rfl ?_
        refine wp_seq ?_
        have hF : fitHead h m = false := by
          unfold fitHead
          have : withinB m.n 1048576 = false := by unfold withinB; rw [decide_eq_false (by omega)]
          rw [this, h20]; simp
        refine wp_region_lit ?_
        refine st_go [1] S rfl (by kernel_rfl) ?_; clear S a; intro a S
        refine nxC ?_
        refine wp_ret ?_
        refine block_ret ?_
        refine then_ret ?_
        refine end_one S rfl (res_tmp rfl) ?_
        refine ⟨ret_bool ?_, M.below⟩; rw [hh1 _ hF]; rfl
      clear S; intro h16 S
      refine st_condF S rfl ?_
      refine wp_skip ?_
      refine block_normal ?_
      refine then_normal ?_
      have hF : fitHead h m = true := by
        unfold fitHead
        have e1 : (h 0 && !m.name.named) = false := by first | (rw [h10]; rfl) | (rw [show m.name.named = true by simpa using h6]; simp; done)
        have e2 : (h 1 && !withinB m.n 1048576) = false := by
          first
            | (rw [h20]; rfl)
            | (have : withinB m.n 1048576 = true := by unfold withinB; rw [decide_eq_true (by omega)]
               rw [this]; simp)
        rw [e1, e2]; rfl
      exact ⟨S.sub _ rfl, M, hF⟩
    clear S; intro h10 S
    refine st_go [6] S rfl (by kernel_rfl) ?_; clear S a; intro a S
    refine st_y S rfl rfl rfl (y_loadAgg (cs := [_, _, _]) S (by kernel_rfl) rfl rfl (M.cellsAt (k := 3) 1 rfl rfl)) ?_; clear S a; intro a S
    refine st_call (xs := [(Operand.tmp 12)]) S (enters_of Try.func30 (by decide) rfl) rfl rfl rfl (named_any m.name _) ?_
    rintro _ w3 ⟨rfl, hK⟩; refine ⟨_, rfl, ?_⟩; clear S a; intro a S; replace M := M.grow hK
    refine st_go [1, 1, 1] S rfl (by kernel_rfl) ?_; clear S a; intro a S
    refine nxC ?_
    refine st_split (t := 6) S rfl ?_ ?_
    · clear S; intro h6 S
      refine st_condT S rfl ?_
      refine wp_seq ?_
      have hF : fitHead h m = false := by unfold fitHead; rw [h10, show m.name.named = false by simpa using h6]; rfl
      refine wp_region_lit ?_
      refine st_go [1] S rfl (by kernel_rfl) ?_; clear S a; intro a S
      refine nxC ?_
      refine wp_ret ?_
      refine block_ret ?_
      refine then_ret ?_
      refine end_one S rfl (res_tmp rfl) ?_
      refine ⟨ret_bool ?_, M.below⟩; rw [hh1 _ hF]; rfl
    clear S; intro h6 S
    refine st_condF S rfl ?_
    refine nxD ?_
    refine st_go [2] S rfl (by kernel_rfl) ?_; clear S a; intro a S
    refine st_y S rfl rfl rfl (y_indexA (m := 10) (sz := 1) S (by kernel_rfl) rfl rfl (by first | omega | (simp; done) | (simp; omega))) ?_; clear S a; intro a S
    refine st_run [1, 1] S M rfl (by kernel_rfl) ?_; clear S a; intro a S
    refine st_tils (t := 20) S rfl ?_ ?_
    · clear S; intro h20 S
      refine st_go [0, 0, 0, 0, 0, 0, 0, 0, 1, 1] S rfl (by kernel_rfl) ?_; clear S a; intro a S
      replace S := S.sub [(0, _), (1, _), (2, _), (3, _), (4, _), (6, _), (16, _)] rfl
      refine nxC ?_
      refine st_condF S rfl ?_
      refine wp_skip ?_
      refine block_normal ?_
      refine then_normal ?_
      have hF : fitHead h m = true := by
        unfold fitHead
        have e1 : (h 0 && !m.name.named) = false := by first | (rw [h10]; rfl) | (rw [show m.name.named = true by simpa using h6]; simp; done)
        have e2 : (h 1 && !withinB m.n 1048576) = false := by
          first
            | (rw [h20]; rfl)
            | (have : withinB m.n 1048576 = true := by unfold withinB; rw [decide_eq_true (by omega)]
               rw [this]; simp)
        rw [e1, e2]; rfl
      exact ⟨S.sub _ rfl, M, hF⟩
    clear S; intro h20 S
    refine st_run [9, 2, 1, 1] S M rfl (by kernel_rfl) ?_; clear S a; intro a S
    refine st_if (t := 24) S rfl ?_ ?_
    · clear S; intro h24 S
      refine st_go [0, 0, 0, 1, 1, 1] S rfl (by kernel_rfl) ?_; clear S a; intro a S
      replace S := S.sub [(0, _), (1, _), (2, _), (3, _), (4, _), (6, _), (16, _)] rfl
      refine nxC ?_
      refine st_condT S rfl ?_
      refine wp_seq ?_
      have hF : fitHead h m = false := by
        unfold fitHead
        have : withinB m.n 1048576 = false := by unfold withinB; rw [decide_eq_false (by omega)]
        rw [this, h20]; simp
      refine wp_region_lit ?_
      refine st_go [1] S rfl (by kernel_rfl) ?_; clear S a; intro a S
      refine nxC ?_
      refine wp_ret ?_
      refine block_ret ?_
      refine then_ret ?_
      refine end_one S rfl (res_tmp rfl) ?_
      refine ⟨ret_bool ?_, M.below⟩; rw [hh1 _ hF]; rfl
    clear S; intro h24 S
    refine st_run [9, 2, 1, 1, 1, 1] S M rfl (by kernel_rfl) ?_; clear S a; intro a S
    replace S := S.sub [(0, _), (1, _), (2, _), (3, _), (4, _), (6, _), (16, _)] rfl
    refine nxC ?_
    refine st_if (t := 16) S rfl ?_ ?_
    · clear S; intro h16 S
      refine st_condT S rfl ?_
      refine wp_seq ?_
      have hF : fitHead h m = false := by
        unfold fitHead
        have : withinB m.n 1048576 = false := by unfold withinB; rw [decide_eq_false (by omega)]
        rw [this, h20]; simp
      refine wp_region_lit ?_
      refine st_go [1] S rfl (by kernel_rfl) ?_; clear S a; intro a S
      refine nxC ?_
      refine wp_ret ?_
      refine block_ret ?_
      refine then_ret ?_
      refine end_one S rfl (res_tmp rfl) ?_
      refine ⟨ret_bool ?_, M.below⟩; rw [hh1 _ hF]; rfl
    clear S; intro h16 S
    refine st_condF S rfl ?_
    refine wp_skip ?_
    refine block_normal ?_
    refine then_normal ?_
    have hF : fitHead h m = true := by
      unfold fitHead
      have e1 : (h 0 && !m.name.named) = false := by first | (rw [h10]; rfl) | (rw [show m.name.named = true by simpa using h6]; simp; done)
      have e2 : (h 1 && !withinB m.n 1048576) = false := by
        first
          | (rw [h20]; rfl)
          | (have : withinB m.n 1048576 = true := by unfold withinB; rw [decide_eq_true (by omega)]
             rw [this]; simp)
      rw [e1, e2]; rfl
    exact ⟨S.sub _ rfl, M, hF⟩
  clear S a M; intro a wc
  rintro ⟨S, M, hF⟩
  refine nxD ?_
  refine st_go [12] S rfl (by kernel_rfl) ?_; clear S a; intro a S
  refine st_y S rfl rfl rfl (y_loadAgg (cs := [_, _, _, _, _, _, _, _]) S (by kernel_rfl) rfl rfl (M.cellsAt (k := 8) 1 rfl rfl)) ?_; clear S a; intro a S
  refine st_y S rfl rfl rfl (y_buildA (ps := []) (sz := 1) (z := [.int .u8 0, .int .u8 0, .int .u8 0, .int .u8 0, .int .u8 0, .int .u8 0, .int .u8 0, .int .u8 0]) (cs := [_, _, _, _, _, _, _, _]) S (by kernel_rfl) rfl rfl) ?_; clear S a; intro a S
  refine st_y S rfl rfl rfl (y_eqlG (by kernel_rfl) S rfl rfl (fun w => equalV8 9998 m.val ⟨0, 0, 0, 0, 0, 0, 0, 0⟩ w)) ?_; clear S a; intro a S
  refine st_go [1] S rfl (by kernel_rfl) ?_; clear S a; intro a S
  refine nxC ?_
  refine wp_seq ?_
  refine nxD ?_
  refine st_run [1, 2] S M rfl (by kernel_rfl) ?_; clear S a; intro a S
  refine nxC ?_
  refine wp_block ?_
  refine nxD ?_
  refine st_go [1, 1] S rfl (by kernel_rfl) ?_; clear S a; intro a S
  refine nxC ?_
  refine st_if (t := 36) S rfl ?_ ?_
  · clear S; intro h36 S
    refine st_condT S rfl ?_
    refine nxD ?_
    refine st_run [10, 2, 1, 1] S M rfl (by kernel_rfl) ?_; clear S a; intro a S
    refine st_fi (t := 41) S rfl ?_ ?_
    · clear S; intro h41 S
      refine st_go [0, 0, 0, 1, 1, 0, 0, 0, 1, 1, 0, 0, 0, 1, 1, 0, 0, 0, 0, 0, 0, 1, 1] S rfl (by kernel_rfl) ?_; clear S a; intro a S
      replace S := S.sub [(2, _), (5, _), (35, _), (36, _), (4, _)] rfl
      refine nxC ?_
      refine wp_ret ?_
      refine block_ret ?_
      refine then_ret ?_
      refine end_one S rfl (res_tmp rfl) ?_
      refine ⟨ret_bool ?_, M.below⟩; rw [hh1 _ hF, Bool.true_and]; clear S M hF hh1
      unfold fitKind
      first
        | (rw [if_pos (by assumption)]
           first
             | (rw [decide_eq_false (p := 0 ≤ m.op ∧ m.op ≤ 2 ∧ 0 ≤ m.block ∧ m.block < 32) (by omega)]; rfl)
             | (rw [decide_eq_true (p := 0 ≤ m.op ∧ m.op ≤ 2 ∧ 0 ≤ m.block ∧ m.block < 32) (by omega)]; simp [V8.zero, *]; done))
        | (rw [if_neg (by omega), if_pos (by assumption)]; done)
        | (rw [if_neg (by omega), if_neg (by omega), if_pos (by assumption)]; simp [V8.zero, *]; done)
        | (rw [if_neg (by omega), if_neg (by omega), if_neg (by omega), if_pos (by assumption)]; simp [*]; done)
        | (rw [if_neg (by omega), if_neg (by omega), if_neg (by omega), if_neg (by omega)]; done)
    clear S; intro h41 S
    refine st_run [10, 2, 1, 1, 1] S M rfl (by kernel_rfl) ?_; clear S a; intro a S
    refine st_fi (t := 46) S rfl ?_ ?_
    · clear S; intro h46 S
      refine st_go [0, 0, 0, 1, 1, 0, 0, 0, 1, 1, 0, 0, 0, 0, 0, 0, 1, 1] S rfl (by kernel_rfl) ?_; clear S a; intro a S
      replace S := S.sub [(2, _), (5, _), (35, _), (36, _), (4, _)] rfl
      refine nxC ?_
      refine wp_ret ?_
      refine block_ret ?_
      refine then_ret ?_
      refine end_one S rfl (res_tmp rfl) ?_
      refine ⟨ret_bool ?_, M.below⟩; rw [hh1 _ hF, Bool.true_and]; clear S M hF hh1
      unfold fitKind
      first
        | (rw [if_pos (by assumption)]
           first
             | (rw [decide_eq_false (p := 0 ≤ m.op ∧ m.op ≤ 2 ∧ 0 ≤ m.block ∧ m.block < 32) (by omega)]; rfl)
             | (rw [decide_eq_true (p := 0 ≤ m.op ∧ m.op ≤ 2 ∧ 0 ≤ m.block ∧ m.block < 32) (by omega)]; simp [V8.zero, *]; done))
        | (rw [if_neg (by omega), if_pos (by assumption)]; done)
        | (rw [if_neg (by omega), if_neg (by omega), if_pos (by assumption)]; simp [V8.zero, *]; done)
        | (rw [if_neg (by omega), if_neg (by omega), if_neg (by omega), if_pos (by assumption)]; simp [*]; done)
        | (rw [if_neg (by omega), if_neg (by omega), if_neg (by omega), if_neg (by omega)]; done)
    clear S; intro h46 S
    refine st_run [11, 2, 1, 1, 1] S M rfl (by kernel_rfl) ?_; clear S a; intro a S
    refine st_fi (t := 51) S rfl ?_ ?_
    · clear S; intro h51 S
      refine st_go [0, 0, 0, 1, 1, 0, 0, 0, 0, 0, 0, 1, 1] S rfl (by kernel_rfl) ?_; clear S a; intro a S
      replace S := S.sub [(2, _), (5, _), (35, _), (36, _), (4, _)] rfl
      refine nxC ?_
      refine wp_ret ?_
      refine block_ret ?_
      refine then_ret ?_
      refine end_one S rfl (res_tmp rfl) ?_
      refine ⟨ret_bool ?_, M.below⟩; rw [hh1 _ hF, Bool.true_and]; clear S M hF hh1
      unfold fitKind
      first
        | (rw [if_pos (by assumption)]
           first
             | (rw [decide_eq_false (p := 0 ≤ m.op ∧ m.op ≤ 2 ∧ 0 ≤ m.block ∧ m.block < 32) (by omega)]; rfl)
             | (rw [decide_eq_true (p := 0 ≤ m.op ∧ m.op ≤ 2 ∧ 0 ≤ m.block ∧ m.block < 32) (by omega)]; simp [V8.zero, *]; done))
        | (rw [if_neg (by omega), if_pos (by assumption)]; done)
        | (rw [if_neg (by omega), if_neg (by omega), if_pos (by assumption)]; simp [V8.zero, *]; done)
        | (rw [if_neg (by omega), if_neg (by omega), if_neg (by omega), if_pos (by assumption)]; simp [*]; done)
        | (rw [if_neg (by omega), if_neg (by omega), if_neg (by omega), if_neg (by omega)]; done)
    clear S; intro h51 S
    refine st_run [11, 2, 1, 1, 1] S M rfl (by kernel_rfl) ?_; clear S a; intro a S
    refine st_fi (t := 56) S rfl ?_ ?_
    · clear S; intro h56 S
      refine st_go [0, 0, 0, 0, 0, 0, 1, 1] S rfl (by kernel_rfl) ?_; clear S a; intro a S
      replace S := S.sub [(2, _), (5, _), (35, _), (36, _), (4, _)] rfl
      refine nxC ?_
      refine wp_ret ?_
      refine block_ret ?_
      refine then_ret ?_
      refine end_one S rfl (res_tmp rfl) ?_
      refine ⟨ret_bool ?_, M.below⟩; rw [hh1 _ hF, Bool.true_and]; clear S M hF hh1
      unfold fitKind
      first
        | (rw [if_pos (by assumption)]
           first
             | (rw [decide_eq_false (p := 0 ≤ m.op ∧ m.op ≤ 2 ∧ 0 ≤ m.block ∧ m.block < 32) (by omega)]; rfl)
             | (rw [decide_eq_true (p := 0 ≤ m.op ∧ m.op ≤ 2 ∧ 0 ≤ m.block ∧ m.block < 32) (by omega)]; simp [V8.zero, *]; done))
        | (rw [if_neg (by omega), if_pos (by assumption)]; done)
        | (rw [if_neg (by omega), if_neg (by omega), if_pos (by assumption)]; simp [V8.zero, *]; done)
        | (rw [if_neg (by omega), if_neg (by omega), if_neg (by omega), if_pos (by assumption)]; simp [*]; done)
        | (rw [if_neg (by omega), if_neg (by omega), if_neg (by omega), if_neg (by omega)]; done)
    clear S; intro h56 S
    refine st_run [10, 2, 1, 1] S M rfl (by kernel_rfl) ?_; clear S a; intro a S
    refine st_if (t := 60) S rfl ?_ ?_
    · clear S; intro h60 S
      refine st_go [0, 1, 1, 1] S rfl (by kernel_rfl) ?_; clear S a; intro a S
      replace S := S.sub [(2, _), (5, _), (35, _), (36, _), (4, _)] rfl
      refine nxC ?_
      refine wp_ret ?_
      refine block_ret ?_
      refine then_ret ?_
      refine end_one S rfl (res_tmp rfl) ?_
      refine ⟨ret_bool ?_, M.below⟩; rw [hh1 _ hF, Bool.true_and]; clear S M hF hh1
      unfold fitKind
      first
        | (rw [if_pos (by assumption)]
           first
             | (rw [decide_eq_false (p := 0 ≤ m.op ∧ m.op ≤ 2 ∧ 0 ≤ m.block ∧ m.block < 32) (by omega)]; rfl)
             | (rw [decide_eq_true (p := 0 ≤ m.op ∧ m.op ≤ 2 ∧ 0 ≤ m.block ∧ m.block < 32) (by omega)]; simp [V8.zero, *]; done))
        | (rw [if_neg (by omega), if_pos (by assumption)]; done)
        | (rw [if_neg (by omega), if_neg (by omega), if_pos (by assumption)]; simp [V8.zero, *]; done)
        | (rw [if_neg (by omega), if_neg (by omega), if_neg (by omega), if_pos (by assumption)]; simp [*]; done)
        | (rw [if_neg (by omega), if_neg (by omega), if_neg (by omega), if_neg (by omega)]; done)
    clear S; intro h60 S
    refine st_go [1, 1, 1, 1] S rfl (by kernel_rfl) ?_; clear S a; intro a S
    replace S := S.sub [(2, _), (5, _), (35, _), (36, _), (4, _)] rfl
    refine nxC ?_
    refine wp_ret ?_
    refine block_ret ?_
    refine then_ret ?_
    refine end_one S rfl (res_tmp rfl) ?_
    refine ⟨ret_bool ?_, M.below⟩; rw [hh1 _ hF, Bool.true_and]; clear S M hF hh1
    unfold fitKind
    first
      | (rw [if_pos (by assumption)]
         first
           | (rw [decide_eq_false (p := 0 ≤ m.op ∧ m.op ≤ 2 ∧ 0 ≤ m.block ∧ m.block < 32) (by omega)]; rfl)
           | (rw [decide_eq_true (p := 0 ≤ m.op ∧ m.op ≤ 2 ∧ 0 ≤ m.block ∧ m.block < 32) (by omega)]; simp [V8.zero, *]; done))
      | (rw [if_neg (by omega), if_pos (by assumption)]; done)
      | (rw [if_neg (by omega), if_neg (by omega), if_pos (by assumption)]; simp [V8.zero, *]; done)
      | (rw [if_neg (by omega), if_neg (by omega), if_neg (by omega), if_pos (by assumption)]; simp [*]; done)
      | (rw [if_neg (by omega), if_neg (by omega), if_neg (by omega), if_neg (by omega)]; done)
  clear S; intro h36 S
  refine st_condF S rfl ?_
  refine nxD ?_
  refine st_go [1, 1] S rfl (by kernel_rfl) ?_; clear S a; intro a S
  refine nxC ?_
  refine st_if (t := 64) S rfl ?_ ?_
  · clear S; intro h64 S
    refine st_condT S rfl ?_
    refine nxD ?_
    refine st_go [6] S rfl (by kernel_rfl) ?_; clear S a; intro a S
    refine st_y S rfl rfl rfl (y_loadAgg (cs := [_, _, _]) S (by kernel_rfl) rfl rfl (M.cellsAt (k := 3) 1 rfl rfl)) ?_; clear S a; intro a S
    refine st_run [24, 2, 22, 2, 23, 2] S M rfl (by kernel_rfl) ?_; clear S a; intro a S
    refine st_y S rfl rfl rfl (y_build (ps := [(0, (Operand.const (Value.int IntKind.i8 2))), (1, (Operand.tmp 67)), (3, (Operand.tmp 69)), (4, (Operand.tmp 71)), (5, (Operand.tmp 73))]) (pl := [(0, 1), (1, 3), (4, 1), (5, 1), (6, 1), (7, 1), (8, 1), (9, 2), (11, 1)]) (z := [.int .i8 0, .int .i64 0, .int .i64 0, .int .i64 0, .bool false, .slice none 0 0, .int .i64 0, .int .i64 0, .int .i64 0, .int .i64 0, .int .i64 0, .int .i64 0]) (cs := [_, _, _, _, _, _, _, _, _, _, _, _]) S (by kernel_rfl) rfl (rfl)) ?_; clear S a; intro a S
    refine st_call (xs := [(Operand.tmp 74)]) S (enters_of Try.func56 (by decide) rfl) rfl rfl rfl (may_any ⟨2, m.name, false, m.give, m.take, 0, 0, 0, 0⟩ va vn vc x _ (by simp) (M.argW hv)) ?_
    rintro _ w4 ⟨rfl, hK⟩; refine ⟨_, rfl, ?_⟩; clear S a; intro a S; replace M := M.grow hK
    refine st_go [1] S rfl (by kernel_rfl) ?_; clear S a; intro a S
    replace S := S.sub [(2, _), (5, _), (35, _), (36, _), (64, _), (4, _)] rfl
    refine nxC ?_
    refine wp_ret ?_
    refine block_ret ?_
    refine then_ret ?_
    refine end_one S rfl (res_tmp rfl) ?_
    refine ⟨ret_bool ?_, M.below⟩; rw [hh1 _ hF, Bool.true_and]; clear S M hF hh1
    unfold fitKind
    first
      | (rw [if_pos (by assumption)]
         first
           | (rw [decide_eq_false (p := 0 ≤ m.op ∧ m.op ≤ 2 ∧ 0 ≤ m.block ∧ m.block < 32) (by omega)]; rfl)
           | (rw [decide_eq_true (p := 0 ≤ m.op ∧ m.op ≤ 2 ∧ 0 ≤ m.block ∧ m.block < 32) (by omega)]; simp [V8.zero, *]; done))
      | (rw [if_neg (by omega), if_pos (by assumption)]; done)
      | (rw [if_neg (by omega), if_neg (by omega), if_pos (by assumption)]; simp [V8.zero, *]; done)
      | (rw [if_neg (by omega), if_neg (by omega), if_neg (by omega), if_pos (by assumption)]; simp [*]; done)
      | (rw [if_neg (by omega), if_neg (by omega), if_neg (by omega), if_neg (by omega)]; done)
  clear S; intro h64 S
  refine st_condF S rfl ?_
  refine nxD ?_
  refine st_go [1, 1] S rfl (by kernel_rfl) ?_; clear S a; intro a S
  refine nxC ?_
  refine st_fi (t := 76) S rfl ?_ ?_
  · clear S; intro h76 S
    refine st_condF S rfl ?_
    refine nxD ?_
    refine st_go [1, 1] S rfl (by kernel_rfl) ?_; clear S a; intro a S
    refine nxC ?_
    refine st_fi (t := 88) S rfl ?_ ?_
    · clear S; intro h88 S
      refine st_condF S rfl ?_
      refine wp_skip ?_
      refine block_normal ?_
      refine nxE ?_
      refine st_go [1] S rfl (by kernel_rfl) ?_; clear S a; intro a S
      refine nxC ?_
      refine wp_ret ?_
      refine end_one S rfl (res_tmp rfl) ?_
      refine ⟨ret_bool ?_, M.below⟩; rw [hh1 _ hF, Bool.true_and]; clear S M hF hh1
      unfold fitKind
      first
        | (rw [if_pos (by assumption)]
           first
             | (rw [decide_eq_false (p := 0 ≤ m.op ∧ m.op ≤ 2 ∧ 0 ≤ m.block ∧ m.block < 32) (by omega)]; rfl)
             | (rw [decide_eq_true (p := 0 ≤ m.op ∧ m.op ≤ 2 ∧ 0 ≤ m.block ∧ m.block < 32) (by omega)]; simp [V8.zero, *]; done))
        | (rw [if_neg (by omega), if_pos (by assumption)]; done)
        | (rw [if_neg (by omega), if_neg (by omega), if_pos (by assumption)]; simp [V8.zero, *]; done)
        | (rw [if_neg (by omega), if_neg (by omega), if_neg (by omega), if_pos (by assumption)]; simp [*]; done)
        | (rw [if_neg (by omega), if_neg (by omega), if_neg (by omega), if_neg (by omega)]; done)
    clear S; intro h88 S
    refine st_condT S rfl ?_
    refine nxD ?_
    refine st_run [20, 2, 1, 1] S M rfl (by kernel_rfl) ?_; clear S a; intro a S
    refine st_if (t := 93) S rfl ?_ ?_
    · clear S; intro h93 S
      refine st_go [0, 0, 0, 1, 1, 0, 0, 0, 1, 1] S rfl (by kernel_rfl) ?_; clear S a; intro a S
      replace S := S.sub [(2, _), (5, _), (35, _), (36, _), (64, _), (76, _), (88, _), (4, _)] rfl
      refine nxC ?_
      refine wp_ret ?_
      refine block_ret ?_
      refine then_ret ?_
      refine end_one S rfl (res_tmp rfl) ?_
      refine ⟨ret_bool ?_, M.below⟩; rw [hh1 _ hF, Bool.true_and]; clear S M hF hh1
      unfold fitKind
      first
        | (rw [if_pos (by assumption)]
           first
             | (rw [decide_eq_false (p := 0 ≤ m.op ∧ m.op ≤ 2 ∧ 0 ≤ m.block ∧ m.block < 32) (by omega)]; rfl)
             | (rw [decide_eq_true (p := 0 ≤ m.op ∧ m.op ≤ 2 ∧ 0 ≤ m.block ∧ m.block < 32) (by omega)]; simp [V8.zero, *]; done))
        | (rw [if_neg (by omega), if_pos (by assumption)]; done)
        | (rw [if_neg (by omega), if_neg (by omega), if_pos (by assumption)]; simp [V8.zero, *]; done)
        | (rw [if_neg (by omega), if_neg (by omega), if_neg (by omega), if_pos (by assumption)]; simp [*]; done)
        | (rw [if_neg (by omega), if_neg (by omega), if_neg (by omega), if_neg (by omega)]; done)
    clear S; intro h93 S
    refine st_run [20, 2, 1, 1, 1] S M rfl (by kernel_rfl) ?_; clear S a; intro a S
    refine st_if (t := 98) S rfl ?_ ?_
    · clear S; intro h98 S
      refine st_go [0, 0, 0, 1, 1] S rfl (by kernel_rfl) ?_; clear S a; intro a S
      replace S := S.sub [(2, _), (5, _), (35, _), (36, _), (64, _), (76, _), (88, _), (4, _)] rfl
      refine nxC ?_
      refine wp_ret ?_
      refine block_ret ?_
      refine then_ret ?_
      refine end_one S rfl (res_tmp rfl) ?_
      refine ⟨ret_bool ?_, M.below⟩; rw [hh1 _ hF, Bool.true_and]; clear S M hF hh1
      unfold fitKind
      first
        | (rw [if_pos (by assumption)]
           first
             | (rw [decide_eq_false (p := 0 ≤ m.op ∧ m.op ≤ 2 ∧ 0 ≤ m.block ∧ m.block < 32) (by omega)]; rfl)
             | (rw [decide_eq_true (p := 0 ≤ m.op ∧ m.op ≤ 2 ∧ 0 ≤ m.block ∧ m.block < 32) (by omega)]; simp [V8.zero, *]; done))
        | (rw [if_neg (by omega), if_pos (by assumption)]; done)
        | (rw [if_neg (by omega), if_neg (by omega), if_pos (by assumption)]; simp [V8.zero, *]; done)
        | (rw [if_neg (by omega), if_neg (by omega), if_neg (by omega), if_pos (by assumption)]; simp [*]; done)
        | (rw [if_neg (by omega), if_neg (by omega), if_neg (by omega), if_neg (by omega)]; done)
    clear S; intro h98 S
    refine st_run [20, 2, 1, 1, 1] S M rfl (by kernel_rfl) ?_; clear S a; intro a S
    replace S := S.sub [(2, _), (5, _), (35, _), (36, _), (64, _), (76, _), (88, _), (4, _)] rfl
    refine nxC ?_
    refine wp_ret ?_
    refine block_ret ?_
    refine then_ret ?_
    refine end_one S rfl (res_tmp rfl) ?_
    refine ⟨ret_bool ?_, M.below⟩; rw [hh1 _ hF, Bool.true_and]; clear S M hF hh1
    unfold fitKind
    first
      | (rw [if_pos (by assumption)]
         first
           | (rw [decide_eq_false (p := 0 ≤ m.op ∧ m.op ≤ 2 ∧ 0 ≤ m.block ∧ m.block < 32) (by omega)]; rfl)
           | (rw [decide_eq_true (p := 0 ≤ m.op ∧ m.op ≤ 2 ∧ 0 ≤ m.block ∧ m.block < 32) (by omega)]; simp [V8.zero, *]; done))
      | (rw [if_neg (by omega), if_pos (by assumption)]; done)
      | (rw [if_neg (by omega), if_neg (by omega), if_pos (by assumption)]; simp [V8.zero, *]; done)
      | (rw [if_neg (by omega), if_neg (by omega), if_neg (by omega), if_pos (by assumption)]; simp [*]; done)
      | (rw [if_neg (by omega), if_neg (by omega), if_neg (by omega), if_neg (by omega)]; done)
  clear S; intro h76 S
  refine st_condT S rfl ?_
  refine wp_seq ?_
  refine nxD ?_
  refine st_run [20, 2] S M rfl (by kernel_rfl) ?_; clear S a; intro a S
  refine nxC ?_
  refine wp_block ?_
  refine nxD ?_
  refine st_go [1, 1] S rfl (by kernel_rfl) ?_; clear S a; intro a S
  refine nxC ?_
  refine st_if (t := 80) S rfl ?_ ?_
  · clear S; intro h80 S
    refine st_condT S rfl ?_
    refine nxD ?_
    refine st_go [1] S rfl (by kernel_rfl) ?_; clear S a; intro a S
    refine nxC ?_
    refine wp_ret ?_
    refine block_ret ?_
    refine then_ret ?_
    refine block_ret ?_
    refine then_ret ?_
    refine end_one S rfl (res_tmp rfl) ?_
    refine ⟨ret_bool ?_, M.below⟩; rw [hh1 _ hF, Bool.true_and]; clear S M hF hh1
    unfold fitKind
    first
      | (rw [if_pos (by assumption)]
         first
           | (rw [decide_eq_false (p := 0 ≤ m.op ∧ m.op ≤ 2 ∧ 0 ≤ m.block ∧ m.block < 32) (by omega)]; rfl)
           | (rw [decide_eq_true (p := 0 ≤ m.op ∧ m.op ≤ 2 ∧ 0 ≤ m.block ∧ m.block < 32) (by omega)]; simp [V8.zero, *]; done))
      | (rw [if_neg (by omega), if_pos (by assumption)]; done)
      | (rw [if_neg (by omega), if_neg (by omega), if_pos (by assumption)]; simp [V8.zero, *]; done)
      | (rw [if_neg (by omega), if_neg (by omega), if_neg (by omega), if_pos (by assumption)]; simp [*]; done)
      | (rw [if_neg (by omega), if_neg (by omega), if_neg (by omega), if_neg (by omega)]; done)
  clear S; intro h80 S
  refine st_condF S rfl ?_
  refine wp_seq ?_
  refine nxD ?_
  refine st_go [1, 1] S rfl (by kernel_rfl) ?_; clear S a; intro a S
  refine nxC ?_
  refine st_if (t := 82) S rfl ?_ ?_
  · clear S; intro h82 S
    refine st_condT S rfl ?_
    refine wp_skip ?_
    refine then_normal ?_
    refine st_condT S rfl ?_
    refine nxD ?_
    refine st_go [1, 1] S rfl (by kernel_rfl) ?_; clear S a; intro a S
    refine nxC ?_
    refine wp_ret ?_
    refine block_ret ?_
    refine then_ret ?_
    refine block_ret ?_
    refine then_ret ?_
    refine end_one S rfl (res_tmp rfl) ?_
    refine ⟨ret_bool ?_, M.below⟩; rw [hh1 _ hF, Bool.true_and]; clear S M hF hh1
    unfold fitKind
    first
      | (rw [if_pos (by assumption)]
         first
           | (rw [decide_eq_false (p := 0 ≤ m.op ∧ m.op ≤ 2 ∧ 0 ≤ m.block ∧ m.block < 32) (by omega)]; rfl)
           | (rw [decide_eq_true (p := 0 ≤ m.op ∧ m.op ≤ 2 ∧ 0 ≤ m.block ∧ m.block < 32) (by omega)]; simp [V8.zero, *]; done))
      | (rw [if_neg (by omega), if_pos (by assumption)]; done)
      | (rw [if_neg (by omega), if_neg (by omega), if_pos (by assumption)]; simp [V8.zero, *]; done)
      | (rw [if_neg (by omega), if_neg (by omega), if_neg (by omega), if_pos (by assumption)]; simp [*]; done)
      | (rw [if_neg (by omega), if_neg (by omega), if_neg (by omega), if_neg (by omega)]; done)
  clear S; intro h82 S
  refine st_condF S rfl ?_
  refine nxD ?_
  refine st_go [1, 1] S rfl (by kernel_rfl) ?_; clear S a; intro a S
  refine nxC ?_
  refine st_if (t := 82) S rfl ?_ ?_
  · clear S; intro h82 S
    refine st_condT S rfl ?_
    refine wp_skip ?_
    refine then_normal ?_
    refine st_condT S rfl ?_
    refine nxD ?_
    refine st_go [1, 1] S rfl (by kernel_rfl) ?_; clear S a; intro a S
    replace S := S.sub [(2, _), (5, _), (35, _), (36, _), (64, _), (76, _), (79, _), (80, _), (82, _), (4, _)] rfl
    refine nxC ?_
    refine wp_ret ?_
    refine block_ret ?_
    refine then_ret ?_
    refine block_ret ?_
    refine then_ret ?_
    refine end_one S rfl (res_tmp rfl) ?_
    refine ⟨ret_bool ?_, M.below⟩; rw [hh1 _ hF, Bool.true_and]; clear S M hF hh1
    unfold fitKind
    first
      | (rw [if_pos (by assumption)]
         first
           | (rw [decide_eq_false (p := 0 ≤ m.op ∧ m.op ≤ 2 ∧ 0 ≤ m.block ∧ m.block < 32) (by omega)]; rfl)
           | (rw [decide_eq_true (p := 0 ≤ m.op ∧ m.op ≤ 2 ∧ 0 ≤ m.block ∧ m.block < 32) (by omega)]; simp [V8.zero, *]; done))
      | (rw [if_neg (by omega), if_pos (by assumption)]; done)
      | (rw [if_neg (by omega), if_neg (by omega), if_pos (by assumption)]; simp [V8.zero, *]; done)
      | (rw [if_neg (by omega), if_neg (by omega), if_neg (by omega), if_pos (by assumption)]; simp [*]; done)
      | (rw [if_neg (by omega), if_neg (by omega), if_neg (by omega), if_neg (by omega)]; done)
  clear S; intro h82 S
  refine st_condF S rfl ?_
  refine nxD ?_
  refine st_go [1, 1] S rfl (by kernel_rfl) ?_; clear S a; intro a S
  replace S := S.sub [(2, _), (5, _), (35, _), (36, _), (64, _), (76, _), (79, _), (80, _), (82, _)] rfl
  refine nxC ?_
  refine st_if (t := 82) S rfl ?_ ?_
  · clear S; intro h82 S
    refine st_condT S rfl ?_
    refine wp_skip ?_
    refine then_normal ?_
    refine st_condT S rfl ?_
    refine nxD ?_
    refine st_go [1, 1] S rfl (by kernel_rfl) ?_; clear S a; intro a S
    refine nxC ?_
    refine wp_ret ?_
    refine block_ret ?_
    refine then_ret ?_
    refine block_ret ?_
    refine then_ret ?_
    refine end_one S rfl (res_tmp rfl) ?_
    refine ⟨ret_bool ?_, M.below⟩; rw [hh1 _ hF, Bool.true_and]; clear S M hF hh1
    unfold fitKind
    first
      | (rw [if_pos (by assumption)]
         first
           | (rw [decide_eq_false (p := 0 ≤ m.op ∧ m.op ≤ 2 ∧ 0 ≤ m.block ∧ m.block < 32) (by omega)]; rfl)
           | (rw [decide_eq_true (p := 0 ≤ m.op ∧ m.op ≤ 2 ∧ 0 ≤ m.block ∧ m.block < 32) (by omega)]; simp [V8.zero, *]; done))
      | (rw [if_neg (by omega), if_pos (by assumption)]; done)
      | (rw [if_neg (by omega), if_neg (by omega), if_pos (by assumption)]; simp [V8.zero, *]; done)
      | (rw [if_neg (by omega), if_neg (by omega), if_neg (by omega), if_pos (by assumption)]; simp [*]; done)
      | (rw [if_neg (by omega), if_neg (by omega), if_neg (by omega), if_neg (by omega)]; done)
  clear S; intro h82 S
  refine st_condF S rfl ?_
  refine wp_region_lit ?_
  refine st_go [1, 1] S rfl (by kernel_rfl) ?_; clear S a; intro a S
  refine nxC ?_
  refine st_if (t := 82) S rfl ?_ ?_
  · clear S; intro h82 S
    refine st_condT S rfl ?_
    refine nxD ?_
    refine st_go [1, 1] S rfl (by kernel_rfl) ?_; clear S a; intro a S
    refine nxC ?_
    refine wp_ret ?_
    refine block_ret ?_
    refine then_ret ?_
    refine block_ret ?_
    refine then_ret ?_
    refine end_one S rfl (res_tmp rfl) ?_
    refine ⟨ret_bool ?_, M.below⟩; rw [hh1 _ hF, Bool.true_and]; clear S M hF hh1
    unfold fitKind
    first
      | (rw [if_pos (by assumption)]
         first
           | (rw [decide_eq_false (p := 0 ≤ m.op ∧ m.op ≤ 2 ∧ 0 ≤ m.block ∧ m.block < 32) (by omega)]; rfl)
           | (rw [decide_eq_true (p := 0 ≤ m.op ∧ m.op ≤ 2 ∧ 0 ≤ m.block ∧ m.block < 32) (by omega)]; simp [V8.zero, *]; done))
      | (rw [if_neg (by omega), if_pos (by assumption)]; done)
      | (rw [if_neg (by omega), if_neg (by omega), if_pos (by assumption)]; simp [V8.zero, *]; done)
      | (rw [if_neg (by omega), if_neg (by omega), if_neg (by omega), if_pos (by assumption)]; simp [*]; done)
      | (rw [if_neg (by omega), if_neg (by omega), if_neg (by omega), if_neg (by omega)]; done)
  clear S; intro h82 S
  refine st_condF S rfl ?_
  refine wp_skip ?_
  refine block_normal ?_
  refine nxE ?_
  refine st_go [1] S rfl (by kernel_rfl) ?_; clear S a; intro a S
  refine nxC ?_
  refine wp_ret ?_
  refine block_ret ?_
  refine then_ret ?_
  refine end_one S rfl (res_tmp rfl) ?_
  refine ⟨ret_bool ?_, M.below⟩; rw [hh1 _ hF, Bool.true_and]; clear S M hF hh1
  unfold fitKind
  first
    | (rw [if_pos (by assumption)]
       first
         | (rw [decide_eq_false (p := 0 ≤ m.op ∧ m.op ≤ 2 ∧ 0 ≤ m.block ∧ m.block < 32) (by omega)]; rfl)
         | (rw [decide_eq_true (p := 0 ≤ m.op ∧ m.op ≤ 2 ∧ 0 ≤ m.block ∧ m.block < 32) (by omega)]; simp [V8.zero, *]; done))
    | (rw [if_neg (by omega), if_pos (by assumption)]; done)
    | (rw [if_neg (by omega), if_neg (by omega), if_pos (by assumption)]; simp [V8.zero, *]; done)
    | (rw [if_neg (by omega), if_neg (by omega), if_neg (by omega), if_pos (by assumption)]; simp [*]; done)
    | (rw [if_neg (by omega), if_neg (by omega), if_neg (by omega), if_neg (by omega)]; done)
/-- may a message be? -/
def Msg.may (m : Msg) (x : List Wr) : Bool :=
  if 1 ≤ m.kind ∧ m.kind ≤ 11 ∧ betweenB m.frm m.to (kdown m.kind) = true ∧ 1 ≤ m.inc ∧ m.inc ≤ 1048576 ∧ 0 ≤ m.your ∧ m.your ≤ 1048576 then
    m.same (bareM (khas m.kind) 10 m) x (bareX (khas m.kind) x) && fitB (khas m.kind) m x else false
set_option maxHeartbeats 1000000 in
theorem mayM_any (m : Msg) (va : Option Addr) (vn vc : Nat) (x : List Wr) (w : World) (hv : Ws 0 w.heap.size w (.slice va vn vc) x) :
    Calls Try.prog 21 #[.agg (m.cells (.slice va vn vc))] w fun e w' => e = .returned (.bool (m.may x)) ∧ Below w.heap.size w w' := by
  have M := Mem.start w
  generalize hR : m.may x = R
  refine calls_enter Try.func21 rfl 48 rfl rfl ?_; intro a S
  refine nxD ?_
  refine st_box S M rfl rfl rfl #[_, _, _, _, _, _, _, _, _, _, _, _, _, _, _, _, _, _, _, _, _, _, _, _] rfl ?_; clear S M a; intro a w1 b1 S M hB
  refine st_go [1] S rfl (by kernel_rfl) ?_; clear S a; intro a S
  refine nxA ?_
  refine st_run [1, 1] S M rfl (by kernel_rfl) ?_; clear S a; intro a S
  refine st_call (xs := [(Operand.tmp 7)]) S (enters_of Try.func41 (by decide) rfl) rfl rfl rfl (kindOf_any _ _) ?_
  rintro _ w2 ⟨rfl, hK⟩; refine ⟨_, rfl, ?_⟩; clear S a; intro a S; replace M := M.grow hK
  refine st_go [1, 1, 1] S rfl (by kernel_rfl) ?_; clear S a; intro a S
  refine st_alloc S M rfl rfl #[.bool false, .bool false, .bool false, .bool false, .bool false, .bool false, .bool false, .bool false, .bool false, .bool false, .bool false] (by kernel_rfl) ?_; clear S M a; intro a w3 b2 S M hB
  refine st_store (sz := 11) (us := [_, _, _, _, _, _, _, _, _, _, _]) S M 0 rfl (by kernel_rfl) rfl rfl rfl rfl rfl rfl (by first | decide | (simp; done) | (simp; omega)) ?_; clear M; intro w4 M
  simp only [putL, List.set_cons_zero, List.set_cons_succ, Nat.reduceAdd] at M
  refine st_go [1] S rfl (by kernel_rfl) ?_; clear S a; intro a S
  refine nxC ?_
  refine wp_seq ?_
  refine nxD ?_
  refine st_go [1, 1, 1] S rfl (by kernel_rfl) ?_; clear S a; intro a S
  refine st_split (t := 13) S rfl ?_ ?_
  · clear S; intro h13 S
    refine st_go [0, 0, 0, 0, 0, 1] S rfl (by kernel_rfl) ?_; clear S a; intro a S
    replace S := S.sub [(0, _), (1, _), (2, _), (3, _), (4, _), (19, _)] rfl
    refine nxC ?_
    refine st_condT S rfl ?_
    refine wp_seq ?_
    have hno : ¬ (1 ≤ m.kind ∧ m.kind ≤ 11 ∧ betweenB m.frm m.to (kdown m.kind) = true ∧ 1 ≤ m.inc ∧ m.inc ≤ 1048576 ∧ 0 ≤ m.your ∧ m.your ≤ 1048576) := by
      rintro ⟨q1, q2, q3, -⟩
      first
        | (have : isKind m.kind = true := by unfold isKind; rw [decide_eq_true ⟨q1, q2⟩]
           rw [this] at h13; simp at h13; done)
        | (rw [q3] at h19; simp at h19; done)
    refine wp_region_lit ?_
    refine st_go [1] S rfl (by kernel_rfl) ?_; clear S a; intro a S
    refine nxC ?_
    refine wp_ret ?_
    refine then_ret ?_
    refine end_one S rfl (res_tmp rfl) ?_
    exact ⟨ret_bool (by rw [← hR]; unfold Msg.may; rw [if_neg hno]), M.below⟩
  clear S; intro h13 S
  refine st_y S rfl rfl rfl (y_loadAgg (cs := [_, _, _, _, _, _, _, _, _, _, _, _, _, _, _, _, _, _, _, _, _, _, _, _]) S (by kernel_rfl) rfl rfl (M.cellsAt (k := 24) 1 rfl rfl)) ?_; clear S a; intro a S
  refine st_run [1, 1] S M rfl (by kernel_rfl) ?_; clear S a; intro a S
  refine st_call (xs := [(Operand.tmp 14), (Operand.tmp 16)]) S (enters_of Try.func42 (by decide) rfl) rfl rfl rfl (between_any m _ _ _ _ _) ?_
  rintro _ w5 ⟨rfl, hK⟩; refine ⟨_, rfl, ?_⟩; clear S a; intro a S; replace M := M.grow hK
  refine st_go [1, 1] S rfl (by kernel_rfl) ?_; clear S a; intro a S
  replace S := S.sub [(0, _), (1, _), (2, _), (3, _), (4, _), (19, _)] rfl
  refine nxC ?_
  refine st_split (t := 19) S rfl ?_ ?_
  · clear S; intro h19 S
    refine st_condT S rfl ?_
    refine wp_seq ?_
    have hno : ¬ (1 ≤ m.kind ∧ m.kind ≤ 11 ∧ betweenB m.frm m.to (kdown m.kind) = true ∧ 1 ≤ m.inc ∧ m.inc ≤ 1048576 ∧ 0 ≤ m.your ∧ m.your ≤ 1048576) := by
      rintro ⟨q1, q2, q3, -⟩
      first
        | (have : isKind m.kind = true := by unfold isKind; rw [decide_eq_true ⟨q1, q2⟩]
           rw [this] at h13; simp at h13; done)
        | (rw [q3] at h19; simp at h19; done)
    refine wp_region_lit ?_
    refine st_go [1] S rfl (by kernel_rfl) ?_; clear S a; intro a S
    refine nxC ?_
    refine wp_ret ?_
    refine then_ret ?_
    refine end_one S rfl (res_tmp rfl) ?_
    exact ⟨ret_bool (by rw [← hR]; unfold Msg.may; rw [if_neg hno]), M.below⟩
  clear S; intro h19 S
  refine st_condF S rfl ?_
  refine wp_skip ?_
  refine then_normal ?_
  refine wp_seq ?_
  refine wp_seq ?_
  have hk : 1 ≤ m.kind ∧ m.kind ≤ 11 := by
    have : isKind m.kind = true := by simpa using h13
    unfold isKind at this; simpa using this
  have hbt : betweenB m.frm m.to (kdown m.kind) = true := by simpa using h19
  refine wp_region_lit ?_
  refine st_run [4, 2, 1, 1] S M rfl (by kernel_rfl) ?_; clear S a; intro a S
  refine st_if (t := 23) S rfl ?_ ?_
  · clear S; intro h23 S
    refine st_go [0, 0, 0, 1, 1, 0, 0, 0, 1, 1, 0, 0, 0, 1] S rfl (by kernel_rfl) ?_; clear S a; intro a S
    replace S := S.sub [(0, _), (1, _), (2, _), (3, _), (4, _), (19, _), (37, _)] rfl
    refine nxC ?_
    refine st_condT S rfl ?_
    refine nxD ?_
    refine st_go [1] S rfl (by kernel_rfl) ?_; clear S a; intro a S
    refine nxC ?_
    refine wp_ret ?_
    refine then_ret ?_
    refine end_one S rfl (res_tmp rfl) ?_
    exact ⟨ret_bool (by rw [← hR]; unfold Msg.may; rw [if_neg (by rintro ⟨-, -, -, q4, q5, q6, q7⟩; omega)]), M.below⟩
  clear S; intro h23 S
  refine st_run [4, 2, 1, 1, 1] S M rfl (by kernel_rfl) ?_; clear S a; intro a S
  refine st_if (t := 28) S rfl ?_ ?_
  · clear S; intro h28 S
    refine st_go [0, 0, 0, 1, 1, 0, 0, 0, 1] S rfl (by kernel_rfl) ?_; clear S a; intro a S
    replace S := S.sub [(0, _), (1, _), (2, _), (3, _), (4, _), (19, _), (37, _)] rfl
    refine nxC ?_
    refine st_condT S rfl ?_
    refine nxD ?_
    refine st_go [1] S rfl (by kernel_rfl) ?_; clear S a; intro a S
    refine nxC ?_
    refine wp_ret ?_
    refine then_ret ?_
    refine end_one S rfl (res_tmp rfl) ?_
    exact ⟨ret_bool (by rw [← hR]; unfold Msg.may; rw [if_neg (by rintro ⟨-, -, -, q4, q5, q6, q7⟩; omega)]), M.below⟩
  clear S; intro h28 S
  refine st_run [5, 2, 1, 1, 1] S M rfl (by kernel_rfl) ?_; clear S a; intro a S
  refine st_if (t := 33) S rfl ?_ ?_
  · clear S; intro h33 S
    refine st_go [0, 0, 0, 1] S rfl (by kernel_rfl) ?_; clear S a; intro a S
    replace S := S.sub [(0, _), (1, _), (2, _), (3, _), (4, _), (19, _), (37, _)] rfl
    refine nxC ?_
    refine st_condT S rfl ?_
    refine nxD ?_
    refine st_go [1] S rfl (by kernel_rfl) ?_; clear S a; intro a S
    refine nxC ?_
    refine wp_ret ?_
    refine then_ret ?_
    refine end_one S rfl (res_tmp rfl) ?_
    exact ⟨ret_bool (by rw [← hR]; unfold Msg.may; rw [if_neg (by rintro ⟨-, -, -, q4, q5, q6, q7⟩; omega)]), M.below⟩
  clear S; intro h33 S
  refine st_run [5, 2, 1, 1] S M rfl (by kernel_rfl) ?_; clear S a; intro a S
  replace S := S.sub [(0, _), (1, _), (2, _), (3, _), (4, _), (19, _), (37, _)] rfl
  refine nxC ?_
  refine st_if (t := 37) S rfl ?_ ?_
  · clear S; intro h37 S
    refine st_condT S rfl ?_
    refine nxD ?_
    refine st_go [1] S rfl (by kernel_rfl) ?_; clear S a; intro a S
    refine nxC ?_
    refine wp_ret ?_
    refine then_ret ?_
    refine end_one S rfl (res_tmp rfl) ?_
    exact ⟨ret_bool (by rw [← hR]; unfold Msg.may; rw [if_neg (by rintro ⟨-, -, -, q4, q5, q6, q7⟩; omega)]), M.below⟩
  clear S; intro h37 S
  refine st_condF S rfl ?_
  refine wp_skip ?_
  refine then_normal ?_
  refine wp_seq ?_
  have hyes : (1 ≤ m.kind ∧ m.kind ≤ 11 ∧ betweenB m.frm m.to (kdown m.kind) = true ∧ 1 ≤ m.inc ∧ m.inc ≤ 1048576 ∧ 0 ≤ m.your ∧ m.your ≤ 1048576) := ⟨hk.1, hk.2, hbt, by omega, by omega, by omega, by omega⟩
  refine wp_regionK [] #[false, false, false, false, false, false, false, false, false, false, false] rfl M (by kernel_rfl) ?_; clear M; intro w6 M
  refine k_read 0 S rfl (fun w hW => have M := M.grow hW; y_loadAgg (cs := [_, _, _, _, _, _, _, _, _, _, _, _, _, _, _, _, _, _, _, _, _, _, _, _]) S (by kernel_rfl) rfl rfl (M.cellsAt (k := 24) 1 rfl rfl)) ?_; clear S a; intro a S
  refine k_read 1 S rfl (fun w hW => have M := M.grow hW; y_loadAgg (cs := [_, _, _, _, _, _, _, _, _, _, _, _, _, _, _, _, _, _, _, _, _, _, _, _]) S (by kernel_rfl) rfl rfl (M.cellsAt (k := 24) 1 rfl rfl)) ?_; clear S a; intro a S
  refine k_read 2 S rfl (fun w hW => have M := M.grow hW; y_loadAgg (cs := [_, _, _, _, _, _, _, _, _, _, _]) S (by kernel_rfl) rfl rfl (M.cellsAt (k := 11) 0 rfl rfl)) ?_; clear S a; intro a S
  refine k_one 3 rfl (by kernel_rfl) ?_
  refine st_call (xs := [(Operand.tmp 39), (Operand.tmp 40)]) S (enters_of Try.func44 (by decide) rfl) rfl rfl rfl (bare_any m va vn vc x (kdown m.kind) (khas m.kind) _) ?_
  rintro _ w7 ⟨ad, l, c, rfl, hK, hV⟩; refine ⟨_, rfl, ?_⟩; clear S a; intro a S; replace M := M.grow hK
  have hW : Ws 0 w.heap.size w (.slice ad l c) (bareX (khas m.kind) x) := by
    rcases hV with ⟨rfl, rfl, rfl, e⟩ | ⟨rfl, rfl, rfl, e⟩ <;> rw [e]
    · exact Rd.nil _ _ _ _
    · exact hv
  refine wpList_nil ?_; refine then_normal ?_; refine ⟨fun _ => hK, ?_⟩
  refine k_one 4 rfl (by kernel_rfl) ?_
  refine st_call (xs := [(Operand.tmp 38), (Operand.tmp 41)]) S (enters_of Try.func43 (by decide) rfl) rfl rfl rfl (sameM_any m (bareM (khas m.kind) 10 m) _ _ x (bareX (khas m.kind) x) _ (M.argW hv) (M.argW hW)) ?_
  rintro _ w8 ⟨rfl, hK⟩; refine ⟨_, rfl, ?_⟩; clear S a; intro a S; replace M := M.grow hK
  refine wpList_nil ?_; refine then_normal ?_; refine ⟨fun _ => hK, ?_⟩
  refine k_pure 5 S rfl (fun w => y_move S rfl) ?_; clear S a; intro a S
  refine st_tils (t := 43) S rfl ?_ ?_
  · clear S; intro h43 S
    refine k_no 6 S rfl ?_; clear S a; intro a S
    refine k_no 7 S rfl ?_; clear S a; intro a S
    refine k_no 8 S rfl ?_; clear S a; intro a S
    refine k_pure 9 S rfl (fun w => y_pickF S rfl rfl) ?_; clear S a; intro a S
    refine k_pure 10 S rfl (fun w => y_assign S rfl) ?_; clear S a; intro a S
    refine k_end (by kernel_rfl) ?_
    refine then_normal ?_
    refine wp_ret ?_
    refine end_one S rfl (res_tmp rfl) ?_
    exact ⟨ret_bool (by rw [← hR]; unfold Msg.may; rw [if_pos hyes]; clear S M; simp [*]), M.below⟩
  clear S; intro h43 S
  refine k_read 6 S rfl (fun w hW => have M := M.grow hW; y_loadAgg (cs := [_, _, _, _, _, _, _, _, _, _, _, _, _, _, _, _, _, _, _, _, _, _, _, _]) S (by kernel_rfl) rfl rfl (M.cellsAt (k := 24) 1 rfl rfl)) ?_; clear S a; intro a S
  refine k_read 7 S rfl (fun w hW => have M := M.grow hW; y_loadAgg (cs := [_, _, _, _, _, _, _, _, _, _, _]) S (by kernel_rfl) rfl rfl (M.cellsAt (k := 11) 0 rfl rfl)) ?_; clear S a; intro a S
  refine k_one 8 rfl (by kernel_rfl) ?_
  refine st_call (xs := [(Operand.tmp 44), (Operand.tmp 45)]) S (enters_of Try.func45 (by decide) rfl) rfl rfl rfl (fit_any m va vn vc x (kdown m.kind) (khas m.kind) _ (M.argW hv)) ?_
  rintro _ w9 ⟨rfl, hK⟩; refine ⟨_, rfl, ?_⟩; clear S a; intro a S; replace M := M.grow hK
  refine wpList_nil ?_; refine then_normal ?_; refine ⟨fun _ => hK, ?_⟩
  refine k_pure 9 S rfl (fun w => y_pickT S rfl rfl) ?_; clear S a; intro a S
  refine k_pure 10 S rfl (fun w => y_assign S rfl) ?_; clear S a; intro a S
  refine k_end (by kernel_rfl) ?_
  refine then_normal ?_
  refine wp_ret ?_
  refine end_one S rfl (res_tmp rfl) ?_
  exact ⟨ret_bool (by rw [← hR]; unfold Msg.may; rw [if_pos hyes]; clear S M; simp [*]), M.below⟩
end Go.Proofs.Ytniijiipkfhjgaa

namespace Go.Proofs.Ytniijiipkfhjgaa
open Go.RowKit Go.Sort
theorem Ope.nAt_cellA (o : Ope) {k : Nat} (h : k ≤ 4) : o.cellsL.toArray[7 + k]? = some (.int .i64 (o.nAt k)) := by
  have : k = 0 ∨ k = 1 ∨ k = 2 ∨ k = 3 ∨ k = 4 := by omega
  rcases this with rfl | rfl | rfl | rfl | rfl <;> rfl
/-- may this exec be under way? -/
def Ope.execMay (o : Ope) (inc : Int) : Bool := o.ex.name.eqb o.nm && o.ex.frm == 0 && o.ex.inc == 0 && o.ex.your == 0 && o.ex.kind == 2 && o.ex.to == o.at_ && o.ex.n == o.nAt o.at_.toNat && ({ o.ex with inc := inc } : Msg).may []
set_option maxHeartbeats 2000000 in
theorem execMay_any (o : Ope) (inc : Int) (w : World) (hat : 1 ≤ o.at_ ∧ o.at_ ≤ 4) :
    Calls Try.prog 50 #[.agg o.cellsL.toArray, .int .i64 inc] w fun e w' => e = .returned (.bool (o.execMay inc)) ∧ Below w.heap.size w w' := by
  obtain ⟨k, hk, hk4⟩ : ∃ k : Nat, o.at_ = (k : Int) ∧ k ≤ 4 := ⟨o.at_.toNat, by omega, by omega⟩
  have M := Mem.start w
  refine calls_enter Try.func50 rfl 54 rfl rfl ?_; intro a S
  refine nxD ?_
  refine st_box S M rfl rfl rfl #[_, _, _, _, _, _, _, _, _, _, _, _, _, _, _, _, _, _, _, _, _, _, _, _, _, _, _, _, _, _, _, _, _, _, _, _, _] rfl ?_; clear S M a; intro a w1 bB S M hB
  refine st_go [1] S rfl (by kernel_rfl) ?_; clear S a; intro a S
  refine nxA ?_
  refine st_go [14] S rfl (by kernel_rfl) ?_; clear S a; intro a S
  refine st_y S rfl rfl rfl (y_loadAgg (cs := [_, _, _, _, _, _, _, _, _, _, _, _, _, _, _, _, _, _, _, _, _, _, _, _]) S (by kernel_rfl) rfl rfl (M.cellsAt (k := 24) 0 rfl rfl)) ?_; clear S a; intro a S
  refine st_alloc S M rfl rfl #[.int .i8 0, .int .i64 0, .int .i64 0, .int .i64 0, .int .i64 0, .int .i64 0, .int .i64 0, .int .i64 0, .int .i64 0, .int .i8 0, .int .i64 0, .int .u8 0, .int .u8 0, .int .u8 0, .int .u8 0, .int .u8 0, .int .u8 0, .int .u8 0, .int .u8 0, .int .i64 0, .bool false, .int .i64 0, .int .i64 0, .slice none 0 0] (by kernel_rfl) ?_; clear S M a; intro a w2 bX S M hB
  refine st_store (sz := 24) (us := [_, _, _, _, _, _, _, _, _, _, _, _, _, _, _, _, _, _, _, _, _, _, _, _]) S M 0 rfl (by kernel_rfl) rfl rfl rfl rfl rfl rfl (by first | decide | (simp; done) | (simp; omega)) ?_; clear M; intro w3 M
  simp only [putL, List.set_cons_zero, List.set_cons_succ, Nat.reduceAdd] at M
  refine nxC ?_
  refine wp_seq ?_
  refine nxD ?_
  refine st_go [6] S rfl (by kernel_rfl) ?_; clear S a; intro a S
  refine st_y S rfl rfl rfl (y_loadAgg (cs := [_, _, _]) S (by kernel_rfl) rfl rfl (M.cellsAt (k := 3) 0 rfl rfl)) ?_; clear S a; intro a S
  refine st_go [3] S rfl (by kernel_rfl) ?_; clear S a; intro a S
  refine st_y S rfl rfl rfl (y_loadAgg (cs := [_, _, _]) S (by kernel_rfl) rfl rfl (M.cellsAt (k := 3) 1 rfl rfl)) ?_; clear S a; intro a S
  refine st_y S rfl rfl rfl (y_neqG (by kernel_rfl) S rfl rfl (fun w => equalNm 9998 ⟨_, _, _⟩ ⟨_, _, _⟩ w)) ?_; clear S a; intro a S
  refine st_go [1] S rfl (by kernel_rfl) ?_; clear S a; intro a S
  refine st_if (t := 13) S rfl ?_ ?_
  · clear S; intro h13 S
    refine st_go [0, 0, 0, 1, 1, 0, 0, 0, 1, 1, 0, 0, 0, 1] S rfl (by kernel_rfl) ?_; clear S a; intro a S
    replace S := S.sub [(0, _), (1, _), (2, _), (4, _), (5, _), (27, _)] rfl
    refine nxC ?_
    refine st_condT S rfl ?_
    refine nxD ?_
    refine st_go [1] S rfl (by kernel_rfl) ?_; clear S a; intro a S
    refine nxC ?_
    refine wp_ret ?_
    refine then_ret ?_
    refine end_one S rfl (res_tmp rfl) ?_
    refine ⟨ret_bool ?_, M.below⟩; clear S M; unfold Ope.execMay; rw [show o.at_.toNat = k by omega]; clear hk hk4 hat; simp [*]
  clear S; intro h13 S
  refine st_run [2, 1, 1, 1, 1] S M rfl (by kernel_rfl) ?_; clear S a; intro a S
  refine st_if (t := 18) S rfl ?_ ?_
  · clear S; intro h18 S
    refine st_go [0, 0, 0, 1, 1, 0, 0, 0, 1] S rfl (by kernel_rfl) ?_; clear S a; intro a S
    replace S := S.sub [(0, _), (1, _), (2, _), (4, _), (5, _), (27, _)] rfl
    refine nxC ?_
    refine st_condT S rfl ?_
    refine nxD ?_
    refine st_go [1] S rfl (by kernel_rfl) ?_; clear S a; intro a S
    refine nxC ?_
    refine wp_ret ?_
    refine then_ret ?_
    refine end_one S rfl (res_tmp rfl) ?_
    refine ⟨ret_bool ?_, M.below⟩; clear S M; unfold Ope.execMay; rw [show o.at_.toNat = k by omega]; clear hk hk4 hat; simp [*]
  clear S; intro h18 S
  refine st_run [4, 1, 1, 1, 1] S M rfl (by kernel_rfl) ?_; clear S a; intro a S
  refine st_if (t := 23) S rfl ?_ ?_
  · clear S; intro h23 S
    refine st_go [0, 0, 0, 1] S rfl (by kernel_rfl) ?_; clear S a; intro a S
    replace S := S.sub [(0, _), (1, _), (2, _), (4, _), (5, _), (27, _)] rfl
    refine nxC ?_
    refine st_condT S rfl ?_
    refine nxD ?_
    refine st_go [1] S rfl (by kernel_rfl) ?_; clear S a; intro a S
    refine nxC ?_
    refine wp_ret ?_
    refine then_ret ?_
    refine end_one S rfl (res_tmp rfl) ?_
    refine ⟨ret_bool ?_, M.below⟩; clear S M; unfold Ope.execMay; rw [show o.at_.toNat = k by omega]; clear hk hk4 hat; simp [*]
  clear S; intro h23 S
  refine st_run [5, 1, 1, 1] S M rfl (by kernel_rfl) ?_; clear S a; intro a S
  replace S := S.sub [(0, _), (1, _), (2, _), (4, _), (5, _), (27, _)] rfl
  refine nxC ?_
  refine st_if (t := 27) S rfl ?_ ?_
  · clear S; intro h27 S
    refine st_condT S rfl ?_
    refine nxD ?_
    refine st_go [1] S rfl (by kernel_rfl) ?_; clear S a; intro a S
    refine nxC ?_
    refine wp_ret ?_
    refine then_ret ?_
    refine end_one S rfl (res_tmp rfl) ?_
    refine ⟨ret_bool ?_, M.below⟩; clear S M; unfold Ope.execMay; rw [show o.at_.toNat = k by omega]; clear hk hk4 hat; simp [*]
  clear S; intro h27 S
  refine st_condF S rfl ?_
  refine wp_skip ?_
  refine nxE ?_
  refine st_go [1, 4] S rfl (by kernel_rfl) ?_; clear S a; intro a S
  refine st_store (sz := 1) (us := [_]) S M 0 rfl (by kernel_rfl) rfl rfl rfl rfl rfl rfl (by first | decide | (simp; done) | (simp; omega)) ?_; clear M; intro w4 M
  simp only [putL, List.set_cons_zero, List.set_cons_succ, Nat.reduceAdd] at M
  refine nxC ?_
  refine wp_seq ?_
  refine wp_regionK [] #[false, false, false, false, false, false, false, false, false, false, false, false, false, false, false, false, false, false, false, false, false, false, false, false, false] rfl M (by kernel_rfl) ?_; clear M; intro w5 M
  refine k_pure 0 S rfl (fun w => y_fieldAddr (k := 0) S (by kernel_rfl) rfl) ?_; clear S a; intro a S
  refine k_read 1 S rfl (fun w hW => have M := M.grow hW; y_load S (by kernel_rfl) rfl (M.cell 0 rfl rfl)) ?_; clear S a; intro a S
  refine k_pure 2 S rfl (fun w => y_int S rfl rfl rfl) ?_; clear S a; intro a S
  refine k_pure 3 S rfl (fun w => y_move S rfl) ?_; clear S a; intro a S
  refine st_fi (t := 33) S rfl ?_ ?_
  · clear S; intro h33 S
    refine k_no 4 S rfl ?_; clear S a; intro a S
    refine k_no 5 S rfl ?_; clear S a; intro a S
    refine k_no 6 S rfl ?_; clear S a; intro a S
    refine k_no 7 S rfl ?_; clear S a; intro a S
    refine k_no 8 S rfl ?_; clear S a; intro a S
    refine k_pure 9 S rfl (fun w => y_pickF S rfl rfl) ?_; clear S a; intro a S
    refine k_pure 10 S rfl (fun w => y_move S rfl) ?_; clear S a; intro a S
    refine k_no 11 S rfl ?_; clear S a; intro a S
    refine k_no 12 S rfl ?_; clear S a; intro a S
    refine k_no 13 S rfl ?_; clear S a; intro a S
    refine k_no 14 S rfl ?_; clear S a; intro a S
    refine k_no 15 S rfl ?_; clear S a; intro a S
    try rw [hk] at S
    refine k_no 16 S rfl ?_; clear S a; intro a S
    refine k_no 17 S rfl ?_; clear S a; intro a S
    refine k_no 18 S rfl ?_; clear S a; intro a S
    refine k_pure 19 S rfl (fun w => y_pickF S rfl rfl) ?_; clear S a; intro a S
    refine k_pure 20 S rfl (fun w => y_move S rfl) ?_; clear S a; intro a S
    refine k_no 21 S rfl ?_; clear S a; intro a S
    refine k_no 22 S rfl ?_; clear S a; intro a S
    refine k_pure 23 S rfl (fun w => y_pickF S rfl rfl) ?_; clear S a; intro a S
    refine k_pure 24 S rfl (fun w => y_assign S rfl) ?_; clear S a; intro a S
    refine k_end (by kernel_rfl) ?_
    replace S := S.sub [(0, _), (1, _), (2, _), (5, _), (27, _), (4, _)] rfl
    refine then_normal ?_
    refine wp_ret ?_
    refine end_one S rfl (res_tmp rfl) ?_
    refine ⟨ret_bool ?_, M.below⟩; clear S M; unfold Ope.execMay; rw [show o.at_.toNat = k by omega]; clear hk hk4 hat; simp [*]
  clear S; intro h33 S
  refine k_pure 4 S rfl (fun w => y_fieldAddr (k := 2) S (by kernel_rfl) rfl) ?_; clear S a; intro a S
  refine k_read 5 S rfl (fun w hW => have M := M.grow hW; y_load S (by kernel_rfl) rfl (M.cell 0 rfl rfl)) ?_; clear S a; intro a S
  refine k_pure 6 S rfl (fun w => y_fieldAddr (k := 12) S (by kernel_rfl) rfl) ?_; clear S a; intro a S
  refine k_read 7 S rfl (fun w hW => have M := M.grow hW; y_load S (by kernel_rfl) rfl (M.cell 1 rfl rfl)) ?_; clear S a; intro a S
  refine k_pure 8 S rfl (fun w => y_int S rfl rfl rfl) ?_; clear S a; intro a S
  refine k_pure 9 S rfl (fun w => y_pickT S rfl rfl) ?_; clear S a; intro a S
  refine k_pure 10 S rfl (fun w => y_move S rfl) ?_; clear S a; intro a S
  refine st_fi (t := 40) S rfl ?_ ?_
  · clear S; intro h40 S
    refine k_no 11 S rfl ?_; clear S a; intro a S
    refine k_no 12 S rfl ?_; clear S a; intro a S
    refine k_no 13 S rfl ?_; clear S a; intro a S
    refine k_no 14 S rfl ?_; clear S a; intro a S
    refine k_no 15 S rfl ?_; clear S a; intro a S
    try rw [hk] at S
    refine k_no 16 S rfl ?_; clear S a; intro a S
    refine k_no 17 S rfl ?_; clear S a; intro a S
    refine k_no 18 S rfl ?_; clear S a; intro a S
    refine k_pure 19 S rfl (fun w => y_pickF S rfl rfl) ?_; clear S a; intro a S
    refine k_pure 20 S rfl (fun w => y_move S rfl) ?_; clear S a; intro a S
    refine k_no 21 S rfl ?_; clear S a; intro a S
    refine k_no 22 S rfl ?_; clear S a; intro a S
    refine k_pure 23 S rfl (fun w => y_pickF S rfl rfl) ?_; clear S a; intro a S
    refine k_pure 24 S rfl (fun w => y_assign S rfl) ?_; clear S a; intro a S
    refine k_end (by kernel_rfl) ?_
    replace S := S.sub [(0, _), (1, _), (2, _), (5, _), (27, _), (4, _)] rfl
    refine then_normal ?_
    refine wp_ret ?_
    refine end_one S rfl (res_tmp rfl) ?_
    refine ⟨ret_bool ?_, M.below⟩; clear S M; unfold Ope.execMay; rw [show o.at_.toNat = k by omega]; clear hk hk4 hat; simp [*]
  clear S; intro h40 S
  refine k_pure 11 S rfl (fun w => y_fieldAddr (k := 8) S (by kernel_rfl) rfl) ?_; clear S a; intro a S
  refine k_read 12 S rfl (fun w hW => have M := M.grow hW; y_load S (by kernel_rfl) rfl (M.cell 0 rfl rfl)) ?_; clear S a; intro a S
  refine k_pure 13 S rfl (fun w => y_fieldAddr (k := 12) S (by kernel_rfl) rfl) ?_; clear S a; intro a S
  refine k_read 14 S rfl (fun w hW => have M := M.grow hW; y_load S (by kernel_rfl) rfl (M.cell 1 rfl rfl)) ?_; clear S a; intro a S
  refine k_pure 15 S rfl (fun w => y_fieldAddr (k := 7) S (by kernel_rfl) rfl) ?_; clear S a; intro a S
  try rw [hk] at S
  refine k_pure 16 S rfl (fun w => y_indexA (m := 5) (sz := 1) S (by kernel_rfl) rfl rfl (by first | omega | (simp; done) | (simp; omega))) ?_; clear S a; intro a S
  try simp only [Int.toNat_natCast, Nat.mul_one, Nat.zero_add] at S
  refine k_read 17 S rfl (fun w hW => have M := M.grow hW; y_load S (by kernel_rfl) rfl (M.cell 1 rfl (o.nAt_cellA hk4))) ?_; clear S a; intro a S
  refine k_pure 18 S rfl (fun w => y_int S rfl rfl rfl) ?_; clear S a; intro a S
  refine k_pure 19 S rfl (fun w => y_pickT S rfl rfl) ?_; clear S a; intro a S
  refine k_pure 20 S rfl (fun w => y_move S rfl) ?_; clear S a; intro a S
  refine st_fi (t := 50) S rfl ?_ ?_
  · clear S; intro h50 S
    refine k_no 21 S rfl ?_; clear S a; intro a S
    refine k_no 22 S rfl ?_; clear S a; intro a S
    refine k_pure 23 S rfl (fun w => y_pickF S rfl rfl) ?_; clear S a; intro a S
    refine k_pure 24 S rfl (fun w => y_assign S rfl) ?_; clear S a; intro a S
    refine k_end (by kernel_rfl) ?_
    replace S := S.sub [(0, _), (1, _), (2, _), (5, _), (27, _), (4, _)] rfl
    refine then_normal ?_
    refine wp_ret ?_
    refine end_one S rfl (res_tmp rfl) ?_
    refine ⟨ret_bool ?_, M.below⟩; clear S M; unfold Ope.execMay; rw [show o.at_.toNat = k by omega]; clear hk hk4 hat; simp [*]
  clear S; intro h50 S
  refine k_read 21 S rfl (fun w hW => have M := M.grow hW; y_loadAgg (cs := [_, _, _, _, _, _, _, _, _, _, _, _, _, _, _, _, _, _, _, _, _, _, _, _]) S (by kernel_rfl) rfl rfl (M.cellsAt (k := 24) 0 rfl rfl)) ?_; clear S a; intro a S
  refine k_one 22 rfl (by kernel_rfl) ?_
  refine st_call (xs := [(Operand.tmp 51)]) S (enters_of Try.func21 (by decide) rfl) rfl rfl rfl (mayM_any { o.ex with inc := inc } none 0 0 [] _ (Rd.nil _ _ _ _)) ?_
  rintro _ w6 ⟨rfl, hK⟩; refine ⟨_, rfl, ?_⟩; clear S a; intro a S; replace M := M.grow hK
  refine wpList_nil ?_; refine then_normal ?_; refine ⟨fun _ => hK, ?_⟩
  refine k_pure 23 S rfl (fun w => y_pickT S rfl rfl) ?_; clear S a; intro a S
  refine k_pure 24 S rfl (fun w => y_assign S rfl) ?_; clear S a; intro a S
  refine k_end (by kernel_rfl) ?_
  replace S := S.sub [(0, _), (1, _), (2, _), (5, _), (27, _), (4, _)] rfl
  refine then_normal ?_
  refine wp_ret ?_
  refine end_one S rfl (res_tmp rfl) ?_
  refine ⟨ret_bool ?_, M.below⟩; clear S M; unfold Ope.execMay; rw [show o.at_.toNat = k by omega]; clear hk hk4 hat; simp [*]
/-- may these shards be touched, with these numbers of execs? -/
def nOk (sh : Int) (k : Nat) (n : Int) : Bool := if hasBit sh k = true then decide (1 ≤ n ∧ n ≤ 1048576) else decide (n = 0)
def notV (x y : Int) : Int := IntKind.i64.wrap (BitVec.ofInt IntKind.i64.bits x &&& ~~~BitVec.ofInt IntKind.i64.bits y).toNat
def Ope.touchedMay (o : Ope) : Bool := notV o.sh 30 == 0 && (nOk o.sh 0 o.n0 && nOk o.sh 1 o.n1 && nOk o.sh 2 o.n2 && nOk o.sh 3 o.n3 && nOk o.sh 4 o.n4)
theorem Ope.nAt_lst (o : Ope) {k : Nat} (h : k < 5) : [Value.int .i64 o.n0, .int .i64 o.n1, .int .i64 o.n2, .int .i64 o.n3, .int .i64 o.n4][k]? = some (.int .i64 (o.nAt k)) := by
  have : k = 0 ∨ k = 1 ∨ k = 2 ∨ k = 3 ∨ k = 4 := by omega
  rcases this with rfl | rfl | rfl | rfl | rfl <;> rfl
theorem touched_no {o : Ope} {k : Nat} (hk : k < 5) (h : nOk o.sh k (o.nAt k) = false) : o.touchedMay = false := by
  have : k = 0 ∨ k = 1 ∨ k = 2 ∨ k = 3 ∨ k = 4 := by omega
  unfold Ope.touchedMay
  rcases this with rfl | rfl | rfl | rfl | rfl <;> (simp only [Ope.nAt] at h; rw [h]; simp)
theorem touched_yes {o : Ope} (h0 : (notV o.sh 30 == 0) = true) (h : ∀ i, i < 5 → nOk o.sh i (o.nAt i) = true) : o.touchedMay = true := by
  have a0 := h 0 (by omega)
  have a1 := h 1 (by omega)
  have a2 := h 2 (by omega)
  have a3 := h 3 (by omega)
  have a4 := h 4 (by omega)
  simp only [Ope.nAt] at a0 a1 a2 a3 a4
  unfold Ope.touchedMay
  rw [h0, a0, a1, a2, a3, a4]; rfl
theorem touchedMay_any (o : Ope) (w : World) :
    Calls Try.prog 49 #[.agg o.cellsL.toArray] w fun e w' => e = .returned (.bool o.touchedMay) ∧ Below w.heap.size w w' := by
  have M := Mem.start w
  refine calls_enter Try.func49 rfl 30 rfl rfl ?_; intro a S
  refine nxD ?_
  refine st_box S M rfl rfl rfl #[_, _, _, _, _, _, _, _, _, _, _, _, _, _, _, _, _, _, _, _, _, _, _, _, _, _, _, _, _, _, _, _, _, _, _, _, _] rfl ?_; clear S M a; intro a w1 bB S M hB
  refine st_go [1] S rfl (by kernel_rfl) ?_; clear S a; intro a S
  refine nxC ?_
  refine wp_seq ?_
  refine nxD ?_
  refine st_run [7, 1] S M rfl (by kernel_rfl) ?_; clear S a; intro a S
  refine st_y S rfl rfl rfl (y_andNot S rfl rfl) ?_; clear S a; intro a S
  refine st_go [1] S rfl (by kernel_rfl) ?_; clear S a; intro a S
  refine nxC ?_
  refine st_split (t := 8) S rfl ?_ ?_
  · clear S; intro h8 S
    refine st_condT S rfl ?_
    refine nxD ?_
    refine st_go [1] S rfl (by kernel_rfl) ?_; clear S a; intro a S
    refine nxC ?_
    refine wp_ret ?_
    refine then_ret ?_
    refine end_one S rfl (res_tmp rfl) ?_
    refine ⟨ret_bool ?_, M.below⟩
    have h9 : (notV o.sh 30 == 0) = false := by unfold notV; simpa using h8
    unfold Ope.touchedMay; rw [h9]; rfl
  clear S; intro h8 S
  refine st_condF S rfl ?_
  refine wp_skip ?_
  refine then_normal ?_
  refine wp_seq ?_
  refine nxD ?_
  refine st_go [8] S rfl (by kernel_rfl) ?_; clear S a; intro a S
  refine st_y S rfl rfl rfl (y_loadAgg (cs := [_, _, _, _, _]) S (by kernel_rfl) rfl rfl (M.cellsAt (k := 5) 0 rfl rfl)) ?_; clear S a; intro a S
  refine st_go [1] S rfl (by kernel_rfl) ?_; clear S a; intro a S
  refine nxC ?_
  refine wp_block ?_
  refine wp_loop_g (fun m a w' => ∃ k : Nat, k ≤ 5 ∧ m = 5 - k ∧ (notV o.sh 30 == 0) = true ∧ (∀ i, i < k → nOk o.sh i (o.nAt i) = true) ∧ Sees 30 a [(1, .pointer (some ⟨bB, 0, none⟩)), (10, .agg #[.int .i64 o.n0, .int .i64 o.n1, .int .i64 o.n2, .int .i64 o.n3, .int .i64 o.n4]), (11, .int .i64 (k : Int))] ∧ Mem w w' [.blk bB o.cellsL.toArray 65]) (5) ?_ ?_
  · skip
    exact ⟨0, by omega, rfl, by unfold notV; simpa using h8, fun i h => absurd h (by omega), S.sub _ rfl, M⟩
  clear S M a; intro m a wl
  rintro ⟨k, hk, rfl, hnot, hpre, S, M⟩
  refine nxD ?_
  refine st_go [1] S rfl (by kernel_rfl) ?_; clear S a; intro a S
  refine nxC ?_
  refine wp_seq ?_
  refine st_fi (t := 12) S rfl ?_ ?_
  · clear S; intro h12 S
    refine st_condF S rfl ?_
    refine wp_exit ?_
    refine then_exit ?_
    refine then_exit ?_
    refine block_hit ?_
    refine nxE ?_
    refine st_go [1] S rfl (by kernel_rfl) ?_; clear S a; intro a S
    refine nxC ?_
    refine wp_ret ?_
    refine end_one S rfl (res_tmp rfl) ?_
    exact ⟨ret_bool (touched_yes hnot fun i hi => hpre i (by omega)).symm, M.below⟩
  clear S; intro h12 S
  refine st_condT S rfl ?_
  refine wp_skip ?_
  refine then_normal ?_
  refine wp_seq ?_
  refine wp_block ?_
  refine nxD ?_
  refine st_go [1] S rfl (by kernel_rfl) ?_; clear S a; intro a S
  refine st_y S rfl rfl rfl (y_indexP (m := 5) (sz := 1) S (by kernel_rfl) (fun e he => by cases he.symm.trans (show _ = some (.array 5 3) by kernel_rfl); kernel_rfl) rfl rfl (by first | omega | (simp; done) | (simp; omega)) (show _ = some (Value.int .i64 (o.nAt k)) from (by rw [Int.toNat_natCast, Nat.mul_one]; exact o.nAt_lst (by omega)))) ?_; clear S a; intro a S
  refine st_go [1, 1] S rfl (by kernel_rfl) ?_; clear S a; intro a S
  refine nxC ?_
  refine wp_seq ?_
  refine wp_quiet M (by kernel_rfl) (by kernel_rfl) ?_
  refine qt_y S rfl rfl rfl (fun w M => y_fieldAddr (k := 6) S (by kernel_rfl) rfl) ?_; clear S a; intro a S
  refine qt_y S rfl rfl rfl (fun w M => y_load S (by kernel_rfl) rfl (M.cell 0 rfl rfl)) ?_; clear S a; intro a S
  refine qt_y S rfl rfl rfl (fun w M => y_move S rfl) ?_; clear S a; intro a S
  (first | refine qt_y S rfl rfl rfl (fun w M => y_shlN S rfl rfl (by omega) (by first | exact shl_bd (by omega) | (rw [Int.toNat_natCast]; exact shl_bd (by omega)))) ?_ | refine qt_y S rfl rfl rfl (fun w M => y_shl S rfl rfl (by omega)) ?_); clear S a; intro a S
  refine qt_y S rfl rfl rfl (fun w M => y_int S rfl rfl rfl) ?_; clear S a; intro a S
  refine qt_y S rfl rfl rfl (fun w M => y_int S rfl rfl rfl) ?_; clear S a; intro a S
  refine wpQuiet_nil ?_; clear M; intro w2 M
  refine then_normal ?_
  refine st_fi (t := 20) S rfl ?_ ?_
  · clear S; intro h20 S
    refine st_condF S rfl ?_
    refine nxD ?_
    refine st_go [1, 1] S rfl (by kernel_rfl) ?_; clear S a; intro a S
    refine nxC ?_
    refine st_if (t := 28) S rfl ?_ ?_
    · clear S; intro h28 S
      refine st_condT S rfl ?_
      refine nxD ?_
      refine st_go [1] S rfl (by kernel_rfl) ?_; clear S a; intro a S
      refine nxC ?_
      refine wp_ret ?_
      refine block_ret ?_
      refine then_ret ?_
      refine then_ret ?_
      refine block_ret ?_
      refine then_ret ?_
      refine end_one S rfl (res_tmp rfl) ?_
      refine ⟨ret_bool (touched_no (k := k) (by omega) ?_).symm, M.below⟩
      have hb : ¬ hasBit o.sh k = true := by unfold hasBit andV; simpa [Int.toNat_natCast] using h20
      unfold nOk; rw [if_neg hb]; simp; omega
    clear S; intro h28 S
    refine st_condF S rfl ?_
    refine wp_skip ?_
    refine block_normal ?_
    refine nxF ?_
    (first | refine st_y S rfl rfl rfl (y_addN S rfl rfl (by omega)) ?_ | refine st_y S rfl rfl rfl (y_int S rfl rfl rfl) ?_); clear S a; intro a S
    refine st_go [1] S rfl (by kernel_rfl) ?_; clear S a; intro a S
    refine nxC ?_
    refine ⟨5 - (k + 1), by omega, k + 1, by omega, rfl, hnot, fun i hi => ?_, S.sub _ rfl, M⟩
    rcases Nat.lt_or_ge i k with h | h
    · exact hpre i h
    · obtain rfl : i = k := by omega
      unfold nOk
      first
        | (have hb : hasBit o.sh i = true := by unfold hasBit andV; simpa [Int.toNat_natCast] using h20
           rw [if_pos hb]; simp; omega)
        | (have hb : ¬ hasBit o.sh i = true := by unfold hasBit andV; simpa [Int.toNat_natCast] using h20
           rw [if_neg hb]; simp; omega)
  clear S; intro h20 S
  refine st_condT S rfl ?_
  refine nxD ?_
  refine st_go [1, 1, 1] S rfl (by kernel_rfl) ?_; clear S a; intro a S
  refine st_if (t := 23) S rfl ?_ ?_
  · clear S; intro h23 S
    refine st_go [0, 0, 1] S rfl (by kernel_rfl) ?_; clear S a; intro a S
    refine nxC ?_
    refine st_condT S rfl ?_
    refine nxD ?_
    refine st_go [1] S rfl (by kernel_rfl) ?_; clear S a; intro a S
    refine nxC ?_
    refine wp_ret ?_
    refine block_ret ?_
    refine then_ret ?_
    refine then_ret ?_
    refine block_ret ?_
    refine then_ret ?_
    refine end_one S rfl (res_tmp rfl) ?_
    refine ⟨ret_bool (touched_no (k := k) (by omega) ?_).symm, M.below⟩
    have hb : hasBit o.sh k = true := by unfold hasBit andV; simpa [Int.toNat_natCast] using h20
    unfold nOk; rw [if_pos hb]; simp; omega
  clear S; intro h23 S
  refine st_go [1, 1, 1] S rfl (by kernel_rfl) ?_; clear S a; intro a S
  refine nxC ?_
  refine st_if (t := 26) S rfl ?_ ?_
  · clear S; intro h26 S
    refine st_condT S rfl ?_
    refine nxD ?_
    refine st_go [1] S rfl (by kernel_rfl) ?_; clear S a; intro a S
    refine nxC ?_
    refine wp_ret ?_
    refine block_ret ?_
    refine then_ret ?_
    refine then_ret ?_
    refine block_ret ?_
    refine then_ret ?_
    refine end_one S rfl (res_tmp rfl) ?_
    refine ⟨ret_bool (touched_no (k := k) (by omega) ?_).symm, M.below⟩
    have hb : hasBit o.sh k = true := by unfold hasBit andV; simpa [Int.toNat_natCast] using h20
    unfold nOk; rw [if_pos hb]; simp; omega
  clear S; intro h26 S
  refine st_condF S rfl ?_
  refine wp_skip ?_
  refine block_normal ?_
  refine nxF ?_
  (first | refine st_y S rfl rfl rfl (y_addN S rfl rfl (by omega)) ?_ | refine st_y S rfl rfl rfl (y_int S rfl rfl rfl) ?_); clear S a; intro a S
  refine st_go [1] S rfl (by kernel_rfl) ?_; clear S a; intro a S
  replace S := S.sub [(1, _), (10, _), (12, _), (3, _), (4, _), (20, _), (26, _), (11, _)] rfl
  refine nxC ?_
  refine ⟨5 - (k + 1), by omega, k + 1, by omega, rfl, hnot, fun i hi => ?_, S.sub _ rfl, M⟩
  rcases Nat.lt_or_ge i k with h | h
  · exact hpre i h
  · obtain rfl : i = k := by omega
    unfold nOk
    first
      | (have hb : hasBit o.sh i = true := by unfold hasBit andV; simpa [Int.toNat_natCast] using h20
         rw [if_pos hb]; simp; omega)
      | (have hb : ¬ hasBit o.sh i = true := by unfold hasBit andV; simpa [Int.toNat_natCast] using h20
         rw [if_neg hb]; simp; omega)
end Go.Proofs.Ytniijiipkfhjgaa

