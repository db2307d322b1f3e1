/-
  Package wire: kinds of messages; Same.
-/
import Derived.Test.YtidpeojkkfmgeaaRb
namespace Go.Proofs.Ytidpeojkkfmgeaa
open Go.RowKit Go.Sort

theorem Mem.eqH {w0 w : World} {H H' : List Ent} (M : Mem w0 w H) (h : H = H') : Mem w0 w H' := h ▸ M
/-- a kind's cells: is it the coordinator's, which fields has it -/
abbrev kdL (d : Bool) (h : Nat → Bool) : List Value := [.bool d, .bool (h 0), .bool (h 1), .bool (h 2), .bool (h 3), .bool (h 4), .bool (h 5), .bool (h 6), .bool (h 7), .bool (h 8), .bool (h 9)]
theorem ten {x : Nat} (hx : x < 10) : x = 0 ∨ x = 1 ∨ x = 2 ∨ x = 3 ∨ x = 4 ∨ x = 5 ∨ x = 6 ∨ x = 7 ∨ x = 8 ∨ x = 9 := by omega
theorem kd_put {d : Bool} {h h' : Nat → Bool} {x : Nat} (hx : x < 10) (h1 : ∀ i, h' i = (h i || i == x)) : putL (kdL d h) (1 + x) [.bool true] = kdL d h' := by
  rcases ten hx with rfl | rfl | rfl | rfl | rfl | rfl | rfl | rfl | rfl | rfl <;> simp [putL, h1]
theorem kd_get {d : Bool} {h : Nat → Bool} {x : Nat} (hx : x < 10) : (kdL d h).toArray[0 + 1 + x]? = some (.bool (h x)) := by
  rcases ten hx with rfl | rfl | rfl | rfl | rfl | rfl | rfl | rfl | rfl | rfl <;> rfl
def ncells (fs : List Nat) : List Value := fs.map fun (x : Nat) => .int .i64 (x : Int)
theorem Rd.ncell {lo hi i : Nat} {w : World} {v : Value} {fs : List Nat} {z : Nat} (h : Rd lo hi w 1 v fs.length (ncells fs)) (hz : fs[i]? = some z) : w.cell? ⟨(adr v).block, (adr v).off + i, none⟩ = some (.int .i64 (z : Int)) := by
  have hlt := (List.getElem?_eq_some_iff.1 hz).1
  rw [h.at_ i (by simpa [ncells] using hlt)]; simp [ncells, hz]

theorem with_any (d : Bool) (v : Value) (fs : List Nat) (w : World) (hv : Rd 0 w.heap.size w 1 v fs.length (ncells fs)) (h10 : ∀ x ∈ fs, x < 10) :
    Calls Try.prog 67 #[.bool d, v] w fun e w' => e = .returned (.agg (kdL d (fun i => fs.contains i)).toArray) ∧ Below w.heap.size w w' := by
  have M := Mem.start w
  have hl := hv.2.1
  unfold maxLen at hl
  refine calls_enter Try.func67 rfl 21 rfl rfl ?_; intro a S
  refine nxD ?_
  refine st_alloc S M rfl rfl #[.bool false, .bool false, .bool false, .bool false, .bool false, .bool false, .bool false, .bool false, .bool false, .bool false, .bool false] (by kernel_rfl) ?_; clear S M a; intro a w1 bO S M hB
  refine nxA ?_
  refine st_go [1] S rfl (by kernel_rfl) ?_; clear S a; intro a S
  refine st_y S rfl rfl rfl (y_build (ps := [(0, (Operand.tmp 8))]) (pl := [(0, 1), (1, 10)]) (z := [.bool false, .bool false, .bool false, .bool false, .bool false, .bool false, .bool false, .bool false, .bool false, .bool false, .bool false]) (cs := [_, _, _, _, _, _, _, _, _, _, _]) S (by kernel_rfl) rfl (rfl)) ?_; clear S a; intro a S
  refine st_alloc S M rfl rfl #[.bool false, .bool false, .bool false, .bool false, .bool false, .bool false, .bool false, .bool false, .bool false, .bool false, .bool false] (by kernel_rfl) ?_; clear S M a; intro a w2 bK S M hB
  refine st_store (sz := 11) (us := [_, _, _, _, _, _, _, _, _, _, _]) S M 0 rfl (by kernel_rfl) rfl rfl rfl rfl rfl rfl (by first | decide | (simp; done) | (simp; omega)) ?_; clear M; intro w3 M
  simp only [putL, List.set_cons_zero, List.set_cons_succ, Nat.reduceAdd] at M
  refine nxC ?_
  refine wp_seq ?_
  refine nxD ?_
  refine st_go [1] S rfl (by kernel_rfl) ?_; clear S a; intro a S
  refine st_y S rfl rfl rfl (y_lenR (E := 3) S rfl (M.arg hv) (by kernel_rfl)) ?_; clear S a; intro a S
  refine st_go [1] S rfl (by kernel_rfl) ?_; clear S a; intro a S
  refine nxC ?_
  refine wp_block ?_
  refine wp_loop_g (fun m a w' => ∃ (k : Nat), k ≤ fs.length ∧ m = fs.length - k ∧ Sees 21 a [(4, .pointer (some ⟨bO, 0, none⟩)), (5, .pointer (some ⟨bK, 0, none⟩)), (10, v), (11, .int .i64 (fs.length : Int)), (12, .int .i64 (k : Int))] ∧ Mem w w' [.blk bK (kdL d (fun i => (fs.take k).contains i)).toArray 102, .blk bO (kdL false (fun _ => false)).toArray 102]) (fs.length) ?_ ?_
  · skip
    exact ⟨0, Nat.zero_le _, rfl, S.sub _ rfl, M⟩
  clear S M a; intro m a wl
  rintro ⟨k, hk, rfl, S, M⟩
  refine nxD ?_
  refine st_go [1] S rfl (by kernel_rfl) ?_; clear S a; intro a S
  refine nxC ?_
  refine wp_seq ?_
  refine st_fi (t := 13) S rfl ?_ ?_
  · clear S; intro h13 S
    refine st_condF S rfl ?_
    refine wp_exit ?_
    refine then_exit ?_
    refine then_exit ?_
    refine block_hit ?_
    refine nxE ?_
    refine st_y S rfl rfl rfl (y_loadAgg (cs := [_, _, _, _, _, _, _, _, _, _, _]) S (by kernel_rfl) rfl rfl (M.cellsAt (k := 11) 0 rfl rfl)) ?_; clear S a; intro a S
    refine st_store (sz := 11) (us := [_, _, _, _, _, _, _, _, _, _, _]) S M 1 rfl (by kernel_rfl) rfl rfl rfl rfl rfl rfl (by first | decide | (simp; done) | (simp; omega)) ?_; clear M; intro w5 M
    simp only [putL, List.set_cons_zero, List.set_cons_succ, Nat.reduceAdd] at M
    refine nxC ?_
    refine wp_ret ?_
    refine end_one S rfl (res_agg (cs := [_, _, _, _, _, _, _, _, _, _, _]) (by kernel_rfl) rfl rfl (M.cellsAt (k := 11) 1 rfl rfl)) ?_
    obtain rfl : k = fs.length := by omega
    rw [List.take_length]; exact ⟨rfl, M.below⟩
  clear S; intro h13 S
  refine st_condT S rfl ?_
  refine wp_skip ?_
  refine then_normal ?_
  refine wp_seq ?_
  refine wp_block ?_
  refine nxD ?_
  obtain ⟨x, hx⟩ : ∃ x, fs[k]? = some x := ⟨_, List.getElem?_eq_getElem (by omega)⟩
  have hx10 := h10 x (List.mem_of_getElem? hx)
  refine st_y S rfl rfl rfl (y_indexR (e := 3) (sz := 1) S (by kernel_rfl) rfl ((M.arg hv)) rfl (by first | omega | (simp; done) | (simp; omega))) ?_; clear S a; intro a S
  try simp only [Int.toNat_natCast, Nat.mul_one, Nat.zero_add] at S
  refine st_y S rfl rfl rfl (y_load S (by kernel_rfl) rfl ((M.arg hv).ncell hx)) ?_; clear S a; intro a S
  refine st_go [1] S rfl (by kernel_rfl) ?_; clear S a; intro a S
  refine nxB ?_
  refine st_go [1, 2] S rfl (by kernel_rfl) ?_; clear S a; intro a S
  refine st_y S rfl rfl rfl (y_indexA (m := 10) (sz := 1) S (by kernel_rfl) rfl rfl (by first | omega | (simp; done) | (simp; omega))) ?_; clear S a; intro a S
  try simp only [Int.toNat_natCast, Nat.mul_one, Nat.zero_add] at S
  refine st_store (sz := 1) (us := [_]) S M 0 rfl (by kernel_rfl) rfl rfl rfl rfl rfl rfl (by simp; omega) ?_; clear M; intro w4 M
  simp only [List.set_cons_zero, List.set_cons_succ] at M
  refine wpList_nil ?_
  refine block_normal ?_
  refine nxF ?_
  (first | refine st_y S rfl rfl rfl (y_addN S rfl rfl (by omega)) ?_ | refine st_y S rfl rfl rfl (y_int S rfl rfl rfl) ?_); clear S a; intro a S
  refine st_go [1] S rfl (by kernel_rfl) ?_; clear S a; intro a S
  refine nxC ?_
  refine ⟨fs.length - (k + 1), by omega, k + 1, by omega, rfl, S.sub _ rfl, ?_⟩
  obtain ⟨hlt, he⟩ := List.getElem?_eq_some_iff.1 hx
  have e := kd_put (d := d) (h := fun i => (fs.take k).contains i) (h' := fun i => (fs.take (k + 1)).contains i) hx10 (fun i => by
    rw [List.take_succ_eq_append_getElem hlt, he, List.contains_eq_any_beq, List.contains_eq_any_beq, List.any_append]; simp [List.any_cons])
  rw [← e]; exact M

def kdown (k : Int) : Bool := k == 1 || k == 2 || k == 4 || k == 6 || k == 9
/-- which fields a kind's messages have -/
def kfields (k : Int) : List Nat :=
  if k = 2 then [0, 1, 2, 3, 4] else if k = 3 then [0, 1, 4, 5] else if k = 4 then [0, 7, 8, 9] else if k = 5 then [0, 6] else if k = 6 then [0, 6] else if k = 7 then [0] else if k = 8 then [0] else if k = 9 then [0] else if k = 10 then [0, 5] else []
def khas (k : Int) (i : Nat) : Bool := (kfields k).contains i
def isKind (k : Int) : Bool := decide (1 ≤ k ∧ k ≤ 11)
theorem kindOf_any (k : Int) (w : World) : Calls Try.prog 51 #[.int .i8 k] w fun e w' => e = .returned (.tuple #[.agg (kdL (kdown k) (khas k)).toArray, .bool (isKind k)]) ∧ Below w.heap.size w w' := by
  have M := Mem.start w
  refine calls_enter Try.func51 rfl 45 rfl rfl ?_; intro a S
  refine nxD ?_
  refine st_alloc S M rfl rfl #[.bool false, .bool false, .bool false, .bool false, .bool false, .bool false, .bool false, .bool false, .bool false, .bool false, .bool false] (by kernel_rfl) ?_; clear S M a; intro a w1 bO S M hB
  refine st_go [1] S rfl (by kernel_rfl) ?_; clear S a; intro a S
  refine nxC ?_
  refine wp_seq ?_
  refine nxD ?_
  refine st_go [1] S rfl (by kernel_rfl) ?_; clear S a; intro a S
  refine nxC ?_
  refine wp_block ?_
  refine nxD ?_
  refine st_go [1, 1] S rfl (by kernel_rfl) ?_; clear S a; intro a S
  refine nxC ?_
  refine st_if (t := 5) S rfl ?_ ?_
  · clear S; intro h5 S
    refine st_condT S rfl ?_
    refine nxD ?_
    refine st_call (xs := [(Operand.const (Value.bool true)), (Operand.const (Value.slice none 0 0))]) S (enters_of Try.func67 (by decide) rfl) rfl rfl rfl (with_any true _ [] _ (Rd.nil _ _ _ _) (by simp)) ?_
    rintro _ w2 ⟨rfl, hK⟩; refine ⟨_, rfl, ?_⟩; clear S a; intro a S; replace M := M.grow hK
    refine st_store (sz := 11) (us := [_, _, _, _, _, _, _, _, _, _, _]) S M 0 rfl (by kernel_rfl) rfl rfl rfl rfl rfl rfl (by first | decide | (simp; done) | (simp; omega)) ?_; clear M; intro w3 M
    simp only [putL, List.set_cons_zero, List.set_cons_succ, Nat.reduceAdd] at M
    refine st_go [1] S rfl (by kernel_rfl) ?_; clear S a; intro a S
    refine nxC ?_
    refine wp_ret ?_
    refine block_ret ?_
    refine then_ret ?_
    refine end_two S rfl (res_agg (cs := [_, _, _, _, _, _, _, _, _, _, _]) (by kernel_rfl) rfl rfl (M.cellsAt (k := 11) 0 rfl rfl)) (res_tmp rfl) ?_
    have hB' := M.below
    clear S M
    first
      | (suffices hk : k = 1 by (subst hk; exact ⟨rfl, hB'⟩)
         assumption)
      | (suffices hk : k = 11 by (subst hk; exact ⟨rfl, hB'⟩)
         assumption)
      | (suffices hk : k = 2 by (subst hk; exact ⟨rfl, hB'⟩)
         assumption)
      | (suffices hk : k = 3 by (subst hk; exact ⟨rfl, hB'⟩)
         assumption)
      | (suffices hk : k = 4 by (subst hk; exact ⟨rfl, hB'⟩)
         assumption)
      | (suffices hk : k = 5 by (subst hk; exact ⟨rfl, hB'⟩)
         assumption)
      | (suffices hk : k = 6 by (subst hk; exact ⟨rfl, hB'⟩)
         assumption)
      | (suffices hk : k = 7 by (subst hk; exact ⟨rfl, hB'⟩)
         assumption)
      | (suffices hk : k = 8 by (subst hk; exact ⟨rfl, hB'⟩)
         assumption)
      | (suffices hk : k = 9 by (subst hk; exact ⟨rfl, hB'⟩)
         assumption)
      | (suffices hk : k = 10 by (subst hk; exact ⟨rfl, hB'⟩)
         assumption)
      | (have e1 : isKind k = false := by unfold isKind; rw [decide_eq_false (by omega)]
         have e2 : kdown k = false := by unfold kdown; simp; omega
         have e3 : kfields k = [] := by unfold kfields; (repeat rw [if_neg (by omega)])
         unfold khas; rw [e1, e2, e3]; exact ⟨rfl, hB'⟩)
  clear S; intro h5 S
  refine st_condF S rfl ?_
  refine nxD ?_
  refine st_go [1, 1] S rfl (by kernel_rfl) ?_; clear S a; intro a S
  refine nxC ?_
  refine st_if (t := 8) S rfl ?_ ?_
  · clear S; intro h8 S
    refine st_condT S rfl ?_
    refine nxD ?_
    refine st_call (xs := [(Operand.const (Value.bool false)), (Operand.const (Value.slice none 0 0))]) S (enters_of Try.func67 (by decide) rfl) rfl rfl rfl (with_any false _ [] _ (Rd.nil _ _ _ _) (by simp)) ?_
    rintro _ w4 ⟨rfl, hK⟩; refine ⟨_, rfl, ?_⟩; clear S a; intro a S; replace M := M.grow hK
    refine st_store (sz := 11) (us := [_, _, _, _, _, _, _, _, _, _, _]) S M 0 rfl (by kernel_rfl) rfl rfl rfl rfl rfl rfl (by first | decide | (simp; done) | (simp; omega)) ?_; clear M; intro w5 M
    simp only [putL, List.set_cons_zero, List.set_cons_succ, Nat.reduceAdd] at M
    refine st_go [1] S rfl (by kernel_rfl) ?_; clear S a; intro a S
    refine nxC ?_
    refine wp_ret ?_
    refine block_ret ?_
    refine then_ret ?_
    refine end_two S rfl (res_agg (cs := [_, _, _, _, _, _, _, _, _, _, _]) (by kernel_rfl) rfl rfl (M.cellsAt (k := 11) 0 rfl rfl)) (res_tmp rfl) ?_
    have hB' := M.below
    clear S M
    first
      | (suffices hk : k = 1 by (subst hk; exact ⟨rfl, hB'⟩)
         assumption)
      | (suffices hk : k = 11 by (subst hk; exact ⟨rfl, hB'⟩)
         assumption)
      | (suffices hk : k = 2 by (subst hk; exact ⟨rfl, hB'⟩)
         assumption)
      | (suffices hk : k = 3 by (subst hk; exact ⟨rfl, hB'⟩)
         assumption)
      | (suffices hk : k = 4 by (subst hk; exact ⟨rfl, hB'⟩)
         assumption)
      | (suffices hk : k = 5 by (subst hk; exact ⟨rfl, hB'⟩)
         assumption)
      | (suffices hk : k = 6 by (subst hk; exact ⟨rfl, hB'⟩)
         assumption)
      | (suffices hk : k = 7 by (subst hk; exact ⟨rfl, hB'⟩)
         assumption)
      | (suffices hk : k = 8 by (subst hk; exact ⟨rfl, hB'⟩)
         assumption)
      | (suffices hk : k = 9 by (subst hk; exact ⟨rfl, hB'⟩)
         assumption)
      | (suffices hk : k = 10 by (subst hk; exact ⟨rfl, hB'⟩)
         assumption)
      | (have e1 : isKind k = false := by unfold isKind; rw [decide_eq_false (by omega)]
         have e2 : kdown k = false := by unfold kdown; simp; omega
         have e3 : kfields k = [] := by unfold kfields; (repeat rw [if_neg (by omega)])
         unfold khas; rw [e1, e2, e3]; exact ⟨rfl, hB'⟩)
  clear S; intro h8 S
  refine st_condF S rfl ?_
  refine nxD ?_
  refine st_go [1, 1] S rfl (by kernel_rfl) ?_; clear S a; intro a S
  refine nxC ?_
  refine st_if (t := 11) S rfl ?_ ?_
  · clear S; intro h11 S
    refine st_condT S rfl ?_
    refine nxD ?_
    refine st_lit (ps := [(0, (Operand.const (Value.int IntKind.i64 0))), (1, (Operand.const (Value.int IntKind.i64 1))), (2, (Operand.const (Value.int IntKind.i64 2))), (3, (Operand.const (Value.int IntKind.i64 3))), (4, (Operand.const (Value.int IntKind.i64 4)))]) (e := 3) (sz := 1) (zl := [.int .i64 0, .int .i64 0, .int .i64 0, .int .i64 0, .int .i64 0]) (cs := [_, _, _, _, _]) S M rfl rfl (by kernel_rfl) rfl (rfl) ?_; clear S M a; intro a w6 bZ S M hB
    refine st_call (xs := [(Operand.const (Value.bool true)), (Operand.tmp 13)]) S (enters_of Try.func67 (by decide) rfl) rfl rfl rfl (with_any true _ [0, 1, 2, 3, 4] _ (M.sliceAt 0 rfl (M.cellsAt (k := 5) 0 rfl rfl) rfl (Nat.le_refl _) (by unfold maxLen; omega)) (by decide)) ?_
    rintro _ w7 ⟨rfl, hK⟩; refine ⟨_, rfl, ?_⟩; clear S a; intro a S; replace M := M.grow hK
    refine st_store (sz := 11) (us := [_, _, _, _, _, _, _, _, _, _, _]) S M 1 rfl (by kernel_rfl) rfl rfl rfl rfl rfl rfl (by first | decide | (simp; done) | (simp; omega)) ?_; clear M; intro w8 M
    simp only [putL, List.set_cons_zero, List.set_cons_succ, Nat.reduceAdd] at M
    refine st_go [1] S rfl (by kernel_rfl) ?_; clear S a; intro a S
    refine nxC ?_
    refine wp_ret ?_
    refine block_ret ?_
    refine then_ret ?_
    refine end_two S rfl (res_agg (cs := [_, _, _, _, _, _, _, _, _, _, _]) (by kernel_rfl) rfl rfl (M.cellsAt (k := 11) 1 rfl rfl)) (res_tmp rfl) ?_
    have hB' := M.below
    clear S M
    first
      | (suffices hk : k = 1 by (subst hk; exact ⟨rfl, hB'⟩)
         assumption)
      | (suffices hk : k = 11 by (subst hk; exact ⟨rfl, hB'⟩)
         assumption)
      | (suffices hk : k = 2 by (subst hk; exact ⟨rfl, hB'⟩)
         assumption)
      | (suffices hk : k = 3 by (subst hk; exact ⟨rfl, hB'⟩)
         assumption)
      | (suffices hk : k = 4 by (subst hk; exact ⟨rfl, hB'⟩)
         assumption)
      | (suffices hk : k = 5 by (subst hk; exact ⟨rfl, hB'⟩)
         assumption)
      | (suffices hk : k = 6 by (subst hk; exact ⟨rfl, hB'⟩)
         assumption)
      | (suffices hk : k = 7 by (subst hk; exact ⟨rfl, hB'⟩)
         assumption)
      | (suffices hk : k = 8 by (subst hk; exact ⟨rfl, hB'⟩)
         assumption)
      | (suffices hk : k = 9 by (subst hk; exact ⟨rfl, hB'⟩)
         assumption)
      | (suffices hk : k = 10 by (subst hk; exact ⟨rfl, hB'⟩)
         assumption)
      | (have e1 : isKind k = false := by unfold isKind; rw [decide_eq_false (by omega)]
         have e2 : kdown k = false := by unfold kdown; simp; omega
         have e3 : kfields k = [] := by unfold kfields; (repeat rw [if_neg (by omega)])
         unfold khas; rw [e1, e2, e3]; exact ⟨rfl, hB'⟩)
  clear S; intro h11 S
  refine st_condF S rfl ?_
  refine nxD ?_
  refine st_go [1, 1] S rfl (by kernel_rfl) ?_; clear S a; intro a S
  refine nxC ?_
  refine st_if (t := 15) S rfl ?_ ?_
  · clear S; intro h15 S
    refine st_condT S rfl ?_
    refine nxD ?_
    refine st_lit (ps := [(0, (Operand.const (Value.int IntKind.i64 0))), (1, (Operand.const (Value.int IntKind.i64 1))), (2, (Operand.const (Value.int IntKind.i64 4))), (3, (Operand.const (Value.int IntKind.i64 5)))]) (e := 3) (sz := 1) (zl := [.int .i64 0, .int .i64 0, .int .i64 0, .int .i64 0]) (cs := [_, _, _, _]) S M rfl rfl (by kernel_rfl) rfl (rfl) ?_; clear S M a; intro a w9 bZ S M hB
    refine st_call (xs := [(Operand.const (Value.bool false)), (Operand.tmp 17)]) S (enters_of Try.func67 (by decide) rfl) rfl rfl rfl (with_any false _ [0, 1, 4, 5] _ (M.sliceAt 0 rfl (M.cellsAt (k := 4) 0 rfl rfl) rfl (Nat.le_refl _) (by unfold maxLen; omega)) (by decide)) ?_
    rintro _ w10 ⟨rfl, hK⟩; refine ⟨_, rfl, ?_⟩; clear S a; intro a S; replace M := M.grow hK
    refine st_store (sz := 11) (us := [_, _, _, _, _, _, _, _, _, _, _]) S M 1 rfl (by kernel_rfl) rfl rfl rfl rfl rfl rfl (by first | decide | (simp; done) | (simp; omega)) ?_; clear M; intro w11 M
    simp only [putL, List.set_cons_zero, List.set_cons_succ, Nat.reduceAdd] at M
    refine st_go [1] S rfl (by kernel_rfl) ?_; clear S a; intro a S
    refine nxC ?_
    refine wp_ret ?_
    refine block_ret ?_
    refine then_ret ?_
    refine end_two S rfl (res_agg (cs := [_, _, _, _, _, _, _, _, _, _, _]) (by kernel_rfl) rfl rfl (M.cellsAt (k := 11) 1 rfl rfl)) (res_tmp rfl) ?_
    have hB' := M.below
    clear S M
    first
      | (suffices hk : k = 1 by (subst hk; exact ⟨rfl, hB'⟩)
         assumption)
      | (suffices hk : k = 11 by (subst hk; exact ⟨rfl, hB'⟩)
         assumption)
      | (suffices hk : k = 2 by (subst hk; exact ⟨rfl, hB'⟩)
         assumption)
      | (suffices hk : k = 3 by (subst hk; exact ⟨rfl, hB'⟩)
         assumption)
      | (suffices hk : k = 4 by (subst hk; exact ⟨rfl, hB'⟩)
         assumption)
      | (suffices hk : k = 5 by (subst hk; exact ⟨rfl, hB'⟩)
         assumption)
      | (suffices hk : k = 6 by (subst hk; exact ⟨rfl, hB'⟩)
         assumption)
      | (suffices hk : k = 7 by (subst hk; exact ⟨rfl, hB'⟩)
         assumption)
      | (suffices hk : k = 8 by (subst hk; exact ⟨rfl, hB'⟩)
         assumption)
      | (suffices hk : k = 9 by (subst hk; exact ⟨rfl, hB'⟩)
         assumption)
      | (suffices hk : k = 10 by (subst hk; exact ⟨rfl, hB'⟩)
         assumption)
      | (have e1 : isKind k = false := by unfold isKind; rw [decide_eq_false (by omega)]
         have e2 : kdown k = false := by unfold kdown; simp; omega
         have e3 : kfields k = [] := by unfold kfields; (repeat rw [if_neg (by omega)])
         unfold khas; rw [e1, e2, e3]; exact ⟨rfl, hB'⟩)
  clear S; intro h15 S
  refine st_condF S rfl ?_
  refine nxD ?_
  refine st_go [1, 1] S rfl (by kernel_rfl) ?_; clear S a; intro a S
  refine nxC ?_
  refine st_if (t := 19) S rfl ?_ ?_
  · clear S; intro h19 S
    refine st_condT S rfl ?_
    refine nxD ?_
    refine st_lit (ps := [(0, (Operand.const (Value.int IntKind.i64 0))), (1, (Operand.const (Value.int IntKind.i64 7))), (2, (Operand.const (Value.int IntKind.i64 8))), (3, (Operand.const (Value.int IntKind.i64 9)))]) (e := 3) (sz := 1) (zl := [.int .i64 0, .int .i64 0, .int .i64 0, .int .i64 0]) (cs := [_, _, _, _]) S M rfl rfl (by kernel_rfl) rfl (rfl) ?_; clear S M a; intro a w12 bZ S M hB
    refine st_call (xs := [(Operand.const (Value.bool true)), (Operand.tmp 21)]) S (enters_of Try.func67 (by decide) rfl) rfl rfl rfl (with_any true _ [0, 7, 8, 9] _ (M.sliceAt 0 rfl (M.cellsAt (k := 4) 0 rfl rfl) rfl (Nat.le_refl _) (by unfold maxLen; omega)) (by decide)) ?_
    rintro _ w13 ⟨rfl, hK⟩; refine ⟨_, rfl, ?_⟩; clear S a; intro a S; replace M := M.grow hK
    refine st_store (sz := 11) (us := [_, _, _, _, _, _, _, _, _, _, _]) S M 1 rfl (by kernel_rfl) rfl rfl rfl rfl rfl rfl (by first | decide | (simp; done) | (simp; omega)) ?_; clear M; intro w14 M
    simp only [putL, List.set_cons_zero, List.set_cons_succ, Nat.reduceAdd] at M
    refine st_go [1] S rfl (by kernel_rfl) ?_; clear S a; intro a S
    refine nxC ?_
    refine wp_ret ?_
    refine block_ret ?_
    refine then_ret ?_
    refine end_two S rfl (res_agg (cs := [_, _, _, _, _, _, _, _, _, _, _]) (by kernel_rfl) rfl rfl (M.cellsAt (k := 11) 1 rfl rfl)) (res_tmp rfl) ?_
    have hB' := M.below
    clear S M
    first
      | (suffices hk : k = 1 by (subst hk; exact ⟨rfl, hB'⟩)
         assumption)
      | (suffices hk : k = 11 by (subst hk; exact ⟨rfl, hB'⟩)
         assumption)
      | (suffices hk : k = 2 by (subst hk; exact ⟨rfl, hB'⟩)
         assumption)
      | (suffices hk : k = 3 by (subst hk; exact ⟨rfl, hB'⟩)
         assumption)
      | (suffices hk : k = 4 by (subst hk; exact ⟨rfl, hB'⟩)
         assumption)
      | (suffices hk : k = 5 by (subst hk; exact ⟨rfl, hB'⟩)
         assumption)
      | (suffices hk : k = 6 by (subst hk; exact ⟨rfl, hB'⟩)
         assumption)
      | (suffices hk : k = 7 by (subst hk; exact ⟨rfl, hB'⟩)
         assumption)
      | (suffices hk : k = 8 by (subst hk; exact ⟨rfl, hB'⟩)
         assumption)
      | (suffices hk : k = 9 by (subst hk; exact ⟨rfl, hB'⟩)
         assumption)
      | (suffices hk : k = 10 by (subst hk; exact ⟨rfl, hB'⟩)
         assumption)
      | (have e1 : isKind k = false := by unfold isKind; rw [decide_eq_false (by omega)]
         have e2 : kdown k = false := by unfold kdown; simp; omega
         have e3 : kfields k = [] := by unfold kfields; (repeat rw [if_neg (by omega)])
         unfold khas; rw [e1, e2, e3]; exact ⟨rfl, hB'⟩)
  clear S; intro h19 S
  refine st_condF S rfl ?_
  refine nxD ?_
  refine st_go [1, 1] S rfl (by kernel_rfl) ?_; clear S a; intro a S
  refine nxC ?_
  refine st_if (t := 23) S rfl ?_ ?_
  · clear S; intro h23 S
    refine st_condT S rfl ?_
    refine nxD ?_
    refine st_lit (ps := [(0, (Operand.const (Value.int IntKind.i64 0))), (1, (Operand.const (Value.int IntKind.i64 6)))]) (e := 3) (sz := 1) (zl := [.int .i64 0, .int .i64 0]) (cs := [_, _]) S M rfl rfl (by kernel_rfl) rfl (rfl) ?_; clear S M a; intro a w15 bZ S M hB
    refine st_call (xs := [(Operand.const (Value.bool false)), (Operand.tmp 25)]) S (enters_of Try.func67 (by decide) rfl) rfl rfl rfl (with_any false _ [0, 6] _ (M.sliceAt 0 rfl (M.cellsAt (k := 2) 0 rfl rfl) rfl (Nat.le_refl _) (by unfold maxLen; omega)) (by decide)) ?_
    rintro _ w16 ⟨rfl, hK⟩; refine ⟨_, rfl, ?_⟩; clear S a; intro a S; replace M := M.grow hK
    refine st_store (sz := 11) (us := [_, _, _, _, _, _, _, _, _, _, _]) S M 1 rfl (by kernel_rfl) rfl rfl rfl rfl rfl rfl (by first | decide | (simp; done) | (simp; omega)) ?_; clear M; intro w17 M
    simp only [putL, List.set_cons_zero, List.set_cons_succ, Nat.reduceAdd] at M
    refine st_go [1] S rfl (by kernel_rfl) ?_; clear S a; intro a S
    refine nxC ?_
    refine wp_ret ?_
    refine block_ret ?_
    refine then_ret ?_
    refine end_two S rfl (res_agg (cs := [_, _, _, _, _, _, _, _, _, _, _]) (by kernel_rfl) rfl rfl (M.cellsAt (k := 11) 1 rfl rfl)) (res_tmp rfl) ?_
    have hB' := M.below
    clear S M
    first
      | (suffices hk : k = 1 by (subst hk; exact ⟨rfl, hB'⟩)
         assumption)
      | (suffices hk : k = 11 by (subst hk; exact ⟨rfl, hB'⟩)
         assumption)
      | (suffices hk : k = 2 by (subst hk; exact ⟨rfl, hB'⟩)
         assumption)
      | (suffices hk : k = 3 by (subst hk; exact ⟨rfl, hB'⟩)
         assumption)
      | (suffices hk : k = 4 by (subst hk; exact ⟨rfl, hB'⟩)
         assumption)
      | (suffices hk : k = 5 by (subst hk; exact ⟨rfl, hB'⟩)
         assumption)
      | (suffices hk : k = 6 by (subst hk; exact ⟨rfl, hB'⟩)
         assumption)
      | (suffices hk : k = 7 by (subst hk; exact ⟨rfl, hB'⟩)
         assumption)
      | (suffices hk : k = 8 by (subst hk; exact ⟨rfl, hB'⟩)
         assumption)
      | (suffices hk : k = 9 by (subst hk; exact ⟨rfl, hB'⟩)
         assumption)
      | (suffices hk : k = 10 by (subst hk; exact ⟨rfl, hB'⟩)
         assumption)
      | (have e1 : isKind k = false := by unfold isKind; rw [decide_eq_false (by omega)]
         have e2 : kdown k = false := by unfold kdown; simp; omega
         have e3 : kfields k = [] := by unfold kfields; (repeat rw [if_neg (by omega)])
         unfold khas; rw [e1, e2, e3]; exact ⟨rfl, hB'⟩)
  clear S; intro h23 S
  refine st_condF S rfl ?_
  refine nxD ?_
  refine st_go [1, 1] S rfl (by kernel_rfl) ?_; clear S a; intro a S
  refine nxC ?_
  refine st_if (t := 27) S rfl ?_ ?_
  · clear S; intro h27 S
    refine st_condT S rfl ?_
    refine nxD ?_
    refine st_lit (ps := [(0, (Operand.const (Value.int IntKind.i64 0))), (1, (Operand.const (Value.int IntKind.i64 6)))]) (e := 3) (sz := 1) (zl := [.int .i64 0, .int .i64 0]) (cs := [_, _]) S M rfl rfl (by kernel_rfl) rfl (rfl) ?_; clear S M a; intro a w18 bZ S M hB
    refine st_call (xs := [(Operand.const (Value.bool true)), (Operand.tmp 29)]) S (enters_of Try.func67 (by decide) rfl) rfl rfl rfl (with_any true _ [0, 6] _ (M.sliceAt 0 rfl (M.cellsAt (k := 2) 0 rfl rfl) rfl (Nat.le_refl _) (by unfold maxLen; omega)) (by decide)) ?_
    rintro _ w19 ⟨rfl, hK⟩; refine ⟨_, rfl, ?_⟩; clear S a; intro a S; replace M := M.grow hK
    refine st_store (sz := 11) (us := [_, _, _, _, _, _, _, _, _, _, _]) S M 1 rfl (by kernel_rfl) rfl rfl rfl rfl rfl rfl (by first | decide | (simp; done) | (simp; omega)) ?_; clear M; intro w20 M
    simp only [putL, List.set_cons_zero, List.set_cons_succ, Nat.reduceAdd] at M
    refine st_go [1] S rfl (by kernel_rfl) ?_; clear S a; intro a S
    refine nxC ?_
    refine wp_ret ?_
    refine block_ret ?_
    refine then_ret ?_
    refine end_two S rfl (res_agg (cs := [_, _, _, _, _, _, _, _, _, _, _]) (by kernel_rfl) rfl rfl (M.cellsAt (k := 11) 1 rfl rfl)) (res_tmp rfl) ?_
    have hB' := M.below
    clear S M
    first
      | (suffices hk : k = 1 by (subst hk; exact ⟨rfl, hB'⟩)
         assumption)
      | (suffices hk : k = 11 by (subst hk; exact ⟨rfl, hB'⟩)
         assumption)
      | (suffices hk : k = 2 by (subst hk; exact ⟨rfl, hB'⟩)
         assumption)
      | (suffices hk : k = 3 by (subst hk; exact ⟨rfl, hB'⟩)
         assumption)
      | (suffices hk : k = 4 by (subst hk; exact ⟨rfl, hB'⟩)
         assumption)
      | (suffices hk : k = 5 by (subst hk; exact ⟨rfl, hB'⟩)
         assumption)
      | (suffices hk : k = 6 by (subst hk; exact ⟨rfl, hB'⟩)
         assumption)
      | (suffices hk : k = 7 by (subst hk; exact ⟨rfl, hB'⟩)
         assumption)
      | (suffices hk : k = 8 by (subst hk; exact ⟨rfl, hB'⟩)
         assumption)
      | (suffices hk : k = 9 by (subst hk; exact ⟨rfl, hB'⟩)
         assumption)
      | (suffices hk : k = 10 by (subst hk; exact ⟨rfl, hB'⟩)
         assumption)
      | (have e1 : isKind k = false := by unfold isKind; rw [decide_eq_false (by omega)]
         have e2 : kdown k = false := by unfold kdown; simp; omega
         have e3 : kfields k = [] := by unfold kfields; (repeat rw [if_neg (by omega)])
         unfold khas; rw [e1, e2, e3]; exact ⟨rfl, hB'⟩)
  clear S; intro h27 S
  refine st_condF S rfl ?_
  refine wp_seq ?_
  refine nxD ?_
  refine st_go [1, 1] S rfl (by kernel_rfl) ?_; clear S a; intro a S
  refine nxC ?_
  refine st_if (t := 31) S rfl ?_ ?_
  · clear S; intro h31 S
    refine st_condT S rfl ?_
    refine wp_skip ?_
    refine then_normal ?_
    refine st_condT S rfl ?_
    refine nxD ?_
    refine st_lit (ps := [(0, (Operand.const (Value.int IntKind.i64 0)))]) (e := 3) (sz := 1) (zl := [.int .i64 0]) (cs := [_]) S M rfl rfl (by kernel_rfl) rfl (rfl) ?_; clear S M a; intro a w21 bZ S M hB
    refine st_call (xs := [(Operand.const (Value.bool false)), (Operand.tmp 34)]) S (enters_of Try.func67 (by decide) rfl) rfl rfl rfl (with_any false _ [0] _ (M.sliceAt 0 rfl (M.cellsAt (k := 1) 0 rfl rfl) rfl (Nat.le_refl _) (by unfold maxLen; omega)) (by decide)) ?_
    rintro _ w22 ⟨rfl, hK⟩; refine ⟨_, rfl, ?_⟩; clear S a; intro a S; replace M := M.grow hK
    refine st_store (sz := 11) (us := [_, _, _, _, _, _, _, _, _, _, _]) S M 1 rfl (by kernel_rfl) rfl rfl rfl rfl rfl rfl (by first | decide | (simp; done) | (simp; omega)) ?_; clear M; intro w23 M
    simp only [putL, List.set_cons_zero, List.set_cons_succ, Nat.reduceAdd] at M
    refine st_go [1] S rfl (by kernel_rfl) ?_; clear S a; intro a S
    refine nxC ?_
    refine wp_ret ?_
    refine block_ret ?_
    refine then_ret ?_
    refine end_two S rfl (res_agg (cs := [_, _, _, _, _, _, _, _, _, _, _]) (by kernel_rfl) rfl rfl (M.cellsAt (k := 11) 1 rfl rfl)) (res_tmp rfl) ?_
    have hB' := M.below
    clear S M
    first
      | (suffices hk : k = 1 by (subst hk; exact ⟨rfl, hB'⟩)
         assumption)
      | (suffices hk : k = 11 by (subst hk; exact ⟨rfl, hB'⟩)
         assumption)
      | (suffices hk : k = 2 by (subst hk; exact ⟨rfl, hB'⟩)
         assumption)
      | (suffices hk : k = 3 by (subst hk; exact ⟨rfl, hB'⟩)
         assumption)
      | (suffices hk : k = 4 by (subst hk; exact ⟨rfl, hB'⟩)
         assumption)
      | (suffices hk : k = 5 by (subst hk; exact ⟨rfl, hB'⟩)
         assumption)
      | (suffices hk : k = 6 by (subst hk; exact ⟨rfl, hB'⟩)
         assumption)
      | (suffices hk : k = 7 by (subst hk; exact ⟨rfl, hB'⟩)
         assumption)
      | (suffices hk : k = 8 by (subst hk; exact ⟨rfl, hB'⟩)
         assumption)
      | (suffices hk : k = 9 by (subst hk; exact ⟨rfl, hB'⟩)
         assumption)
      | (suffices hk : k = 10 by (subst hk; exact ⟨rfl, hB'⟩)
         assumption)
      | (have e1 : isKind k = false := by unfold isKind; rw [decide_eq_false (by omega)]
         have e2 : kdown k = false := by unfold kdown; simp; omega
         have e3 : kfields k = [] := by unfold kfields; (repeat rw [if_neg (by omega)])
         unfold khas; rw [e1, e2, e3]; exact ⟨rfl, hB'⟩)
  clear S; intro h31 S
  refine st_condF S rfl ?_
  refine wp_region_lit ?_
  refine st_go [1, 1] S rfl (by kernel_rfl) ?_; clear S a; intro a S
  refine nxC ?_
  refine st_if (t := 31) S rfl ?_ ?_
  · clear S; intro h31 S
    refine st_condT S rfl ?_
    refine nxD ?_
    refine st_lit (ps := [(0, (Operand.const (Value.int IntKind.i64 0)))]) (e := 3) (sz := 1) (zl := [.int .i64 0]) (cs := [_]) S M rfl rfl (by kernel_rfl) rfl (rfl) ?_; clear S M a; intro a w24 bZ S M hB
    refine st_call (xs := [(Operand.const (Value.bool false)), (Operand.tmp 34)]) S (enters_of Try.func67 (by decide) rfl) rfl rfl rfl (with_any false _ [0] _ (M.sliceAt 0 rfl (M.cellsAt (k := 1) 0 rfl rfl) rfl (Nat.le_refl _) (by unfold maxLen; omega)) (by decide)) ?_
    rintro _ w25 ⟨rfl, hK⟩; refine ⟨_, rfl, ?_⟩; clear S a; intro a S; replace M := M.grow hK
    refine st_store (sz := 11) (us := [_, _, _, _, _, _, _, _, _, _, _]) S M 1 rfl (by kernel_rfl) rfl rfl rfl rfl rfl rfl (by first | decide | (simp; done) | (simp; omega)) ?_; clear M; intro w26 M
    simp only [putL, List.set_cons_zero, List.set_cons_succ, Nat.reduceAdd] at M
    refine st_go [1] S rfl (by kernel_rfl) ?_; clear S a; intro a S
    refine nxC ?_
    refine wp_ret ?_
    refine block_ret ?_
    refine then_ret ?_
    refine end_two S rfl (res_agg (cs := [_, _, _, _, _, _, _, _, _, _, _]) (by kernel_rfl) rfl rfl (M.cellsAt (k := 11) 1 rfl rfl)) (res_tmp rfl) ?_
    have hB' := M.below
    clear S M
    first
      | (suffices hk : k = 1 by (subst hk; exact ⟨rfl, hB'⟩)
         assumption)
      | (suffices hk : k = 11 by (subst hk; exact ⟨rfl, hB'⟩)
         assumption)
      | (suffices hk : k = 2 by (subst hk; exact ⟨rfl, hB'⟩)
         assumption)
      | (suffices hk : k = 3 by (subst hk; exact ⟨rfl, hB'⟩)
         assumption)
      | (suffices hk : k = 4 by (subst hk; exact ⟨rfl, hB'⟩)
         assumption)
      | (suffices hk : k = 5 by (subst hk; exact ⟨rfl, hB'⟩)
         assumption)
      | (suffices hk : k = 6 by (subst hk; exact ⟨rfl, hB'⟩)
         assumption)
      | (suffices hk : k = 7 by (subst hk; exact ⟨rfl, hB'⟩)
         assumption)
      | (suffices hk : k = 8 by (subst hk; exact ⟨rfl, hB'⟩)
         assumption)
      | (suffices hk : k = 9 by (subst hk; exact ⟨rfl, hB'⟩)
         assumption)
      | (suffices hk : k = 10 by (subst hk; exact ⟨rfl, hB'⟩)
         assumption)
      | (have e1 : isKind k = false := by unfold isKind; rw [decide_eq_false (by omega)]
         have e2 : kdown k = false := by unfold kdown; simp; omega
         have e3 : kfields k = [] := by unfold kfields; (repeat rw [if_neg (by omega)])
         unfold khas; rw [e1, e2, e3]; exact ⟨rfl, hB'⟩)
  clear S; intro h31 S
  refine st_condF S rfl ?_
  refine nxD ?_
  refine st_go [1, 1] S rfl (by kernel_rfl) ?_; clear S a; intro a S
  refine nxC ?_
  refine st_if (t := 36) S rfl ?_ ?_
  · clear S; intro h36 S
    refine st_condT S rfl ?_
    refine nxD ?_
    refine st_lit (ps := [(0, (Operand.const (Value.int IntKind.i64 0)))]) (e := 3) (sz := 1) (zl := [.int .i64 0]) (cs := [_]) S M rfl rfl (by kernel_rfl) rfl (rfl) ?_; clear S M a; intro a w27 bZ S M hB
    refine st_call (xs := [(Operand.const (Value.bool true)), (Operand.tmp 38)]) S (enters_of Try.func67 (by decide) rfl) rfl rfl rfl (with_any true _ [0] _ (M.sliceAt 0 rfl (M.cellsAt (k := 1) 0 rfl rfl) rfl (Nat.le_refl _) (by unfold maxLen; omega)) (by decide)) ?_
    rintro _ w28 ⟨rfl, hK⟩; refine ⟨_, rfl, ?_⟩; clear S a; intro a S; replace M := M.grow hK
    refine st_store (sz := 11) (us := [_, _, _, _, _, _, _, _, _, _, _]) S M 1 rfl (by kernel_rfl) rfl rfl rfl rfl rfl rfl (by first | decide | (simp; done) | (simp; omega)) ?_; clear M; intro w29 M
    simp only [putL, List.set_cons_zero, List.set_cons_succ, Nat.reduceAdd] at M
    refine st_go [1] S rfl (by kernel_rfl) ?_; clear S a; intro a S
    replace S := S.sub [(0, _), (2, _), (4, _), (5, _), (8, _), (11, _), (15, _), (19, _), (23, _), (27, _), (31, _), (36, _), (3, _)] rfl
    refine nxC ?_
    refine wp_ret ?_
    refine block_ret ?_
    refine then_ret ?_
    refine end_two S rfl (res_agg (cs := [_, _, _, _, _, _, _, _, _, _, _]) (by kernel_rfl) rfl rfl (M.cellsAt (k := 11) 1 rfl rfl)) (res_tmp rfl) ?_
    have hB' := M.below
    clear S M
    first
      | (suffices hk : k = 1 by (subst hk; exact ⟨rfl, hB'⟩)
         assumption)
      | (suffices hk : k = 11 by (subst hk; exact ⟨rfl, hB'⟩)
         assumption)
      | (suffices hk : k = 2 by (subst hk; exact ⟨rfl, hB'⟩)
         assumption)
      | (suffices hk : k = 3 by (subst hk; exact ⟨rfl, hB'⟩)
         assumption)
      | (suffices hk : k = 4 by (subst hk; exact ⟨rfl, hB'⟩)
         assumption)
      | (suffices hk : k = 5 by (subst hk; exact ⟨rfl, hB'⟩)
         assumption)
      | (suffices hk : k = 6 by (subst hk; exact ⟨rfl, hB'⟩)
         assumption)
      | (suffices hk : k = 7 by (subst hk; exact ⟨rfl, hB'⟩)
         assumption)
      | (suffices hk : k = 8 by (subst hk; exact ⟨rfl, hB'⟩)
         assumption)
      | (suffices hk : k = 9 by (subst hk; exact ⟨rfl, hB'⟩)
         assumption)
      | (suffices hk : k = 10 by (subst hk; exact ⟨rfl, hB'⟩)
         assumption)
      | (have e1 : isKind k = false := by unfold isKind; rw [decide_eq_false (by omega)]
         have e2 : kdown k = false := by unfold kdown; simp; omega
         have e3 : kfields k = [] := by unfold kfields; (repeat rw [if_neg (by omega)])
         unfold khas; rw [e1, e2, e3]; exact ⟨rfl, hB'⟩)
  clear S; intro h36 S
  refine st_condF S rfl ?_
  refine nxD ?_
  refine st_go [1, 1] S rfl (by kernel_rfl) ?_; clear S a; intro a S
  refine nxC ?_
  refine st_fi (t := 40) S rfl ?_ ?_
  · clear S; intro h40 S
    refine st_condF S rfl ?_
    refine wp_skip ?_
    refine block_normal ?_
    refine nxE ?_
    refine st_y S rfl rfl rfl (y_build (ps := []) (pl := [(0, 1), (1, 10)]) (z := [.bool false, .bool false, .bool false, .bool false, .bool false, .bool false, .bool false, .bool false, .bool false, .bool false, .bool false]) (cs := [_, _, _, _, _, _, _, _, _, _, _]) S (by kernel_rfl) rfl (rfl)) ?_; clear S a; intro a S
    refine st_store (sz := 11) (us := [_, _, _, _, _, _, _, _, _, _, _]) S M 0 rfl (by kernel_rfl) rfl rfl rfl rfl rfl rfl (by first | decide | (simp; done) | (simp; omega)) ?_; clear M; intro w33 M
    simp only [putL, List.set_cons_zero, List.set_cons_succ, Nat.reduceAdd] at M
    refine st_go [1] S rfl (by kernel_rfl) ?_; clear S a; intro a S
    replace S := S.sub [(0, _), (2, _), (4, _), (5, _), (8, _), (11, _), (15, _), (19, _), (23, _), (27, _), (31, _), (36, _), (40, _), (3, _)] rfl
    refine nxC ?_
    refine wp_ret ?_
    refine end_two S rfl (res_agg (cs := [_, _, _, _, _, _, _, _, _, _, _]) (by kernel_rfl) rfl rfl (M.cellsAt (k := 11) 0 rfl rfl)) (res_tmp rfl) ?_
    have hB' := M.below
    clear S M
    first
      | (suffices hk : k = 1 by (subst hk; exact ⟨rfl, hB'⟩)
         assumption)
      | (suffices hk : k = 11 by (subst hk; exact ⟨rfl, hB'⟩)
         assumption)
      | (suffices hk : k = 2 by (subst hk; exact ⟨rfl, hB'⟩)
         assumption)
      | (suffices hk : k = 3 by (subst hk; exact ⟨rfl, hB'⟩)
         assumption)
      | (suffices hk : k = 4 by (subst hk; exact ⟨rfl, hB'⟩)
         assumption)
      | (suffices hk : k = 5 by (subst hk; exact ⟨rfl, hB'⟩)
         assumption)
      | (suffices hk : k = 6 by (subst hk; exact ⟨rfl, hB'⟩)
         assumption)
      | (suffices hk : k = 7 by (subst hk; exact ⟨rfl, hB'⟩)
         assumption)
      | (suffices hk : k = 8 by (subst hk; exact ⟨rfl, hB'⟩)
         assumption)
      | (suffices hk : k = 9 by (subst hk; exact ⟨rfl, hB'⟩)
         assumption)
      | (suffices hk : k = 10 by (subst hk; exact ⟨rfl, hB'⟩)
         assumption)
      | (have e1 : isKind k = false := by unfold isKind; rw [decide_eq_false (by omega)]
         have e2 : kdown k = false := by unfold kdown; simp; omega
         have e3 : kfields k = [] := by unfold kfields; (repeat rw [if_neg (by omega)])
         unfold khas; rw [e1, e2, e3]; exact ⟨rfl, hB'⟩)
  clear S; intro h40 S
  refine st_condT S rfl ?_
  refine nxD ?_
  refine st_lit (ps := [(0, (Operand.const (Value.int IntKind.i64 0))), (1, (Operand.const (Value.int IntKind.i64 5)))]) (e := 3) (sz := 1) (zl := [.int .i64 0, .int .i64 0]) (cs := [_, _]) S M rfl rfl (by kernel_rfl) rfl (rfl) ?_; clear S M a; intro a w30 bZ S M hB
  refine st_call (xs := [(Operand.const (Value.bool false)), (Operand.tmp 42)]) S (enters_of Try.func67 (by decide) rfl) rfl rfl rfl (with_any false _ [0, 5] _ (M.sliceAt 0 rfl (M.cellsAt (k := 2) 0 rfl rfl) rfl (Nat.le_refl _) (by unfold maxLen; omega)) (by decide)) ?_
  rintro _ w31 ⟨rfl, hK⟩; refine ⟨_, rfl, ?_⟩; clear S a; intro a S; replace M := M.grow hK
  refine st_store (sz := 11) (us := [_, _, _, _, _, _, _, _, _, _, _]) S M 1 rfl (by kernel_rfl) rfl rfl rfl rfl rfl rfl (by first | decide | (simp; done) | (simp; omega)) ?_; clear M; intro w32 M
  simp only [putL, List.set_cons_zero, List.set_cons_succ, Nat.reduceAdd] at M
  refine st_go [1] S rfl (by kernel_rfl) ?_; clear S a; intro a S
  replace S := S.sub [(0, _), (2, _), (4, _), (5, _), (8, _), (11, _), (15, _), (19, _), (23, _), (27, _), (31, _), (36, _), (40, _), (3, _)] rfl
  refine nxC ?_
  refine wp_ret ?_
  refine block_ret ?_
  refine then_ret ?_
  refine end_two S rfl (res_agg (cs := [_, _, _, _, _, _, _, _, _, _, _]) (by kernel_rfl) rfl rfl (M.cellsAt (k := 11) 1 rfl rfl)) (res_tmp rfl) ?_
  have hB' := M.below
  clear S M
  first
    | (suffices hk : k = 1 by (subst hk; exact ⟨rfl, hB'⟩)
       assumption)
    | (suffices hk : k = 11 by (subst hk; exact ⟨rfl, hB'⟩)
       assumption)
    | (suffices hk : k = 2 by (subst hk; exact ⟨rfl, hB'⟩)
       assumption)
    | (suffices hk : k = 3 by (subst hk; exact ⟨rfl, hB'⟩)
       assumption)
    | (suffices hk : k = 4 by (subst hk; exact ⟨rfl, hB'⟩)
       assumption)
    | (suffices hk : k = 5 by (subst hk; exact ⟨rfl, hB'⟩)
       assumption)
    | (suffices hk : k = 6 by (subst hk; exact ⟨rfl, hB'⟩)
       assumption)
    | (suffices hk : k = 7 by (subst hk; exact ⟨rfl, hB'⟩)
       assumption)
    | (suffices hk : k = 8 by (subst hk; exact ⟨rfl, hB'⟩)
       assumption)
    | (suffices hk : k = 9 by (subst hk; exact ⟨rfl, hB'⟩)
       assumption)
    | (suffices hk : k = 10 by (subst hk; exact ⟨rfl, hB'⟩)
       assumption)
    | (have e1 : isKind k = false := by unfold isKind; rw [decide_eq_false (by omega)]
       have e2 : kdown k = false := by unfold kdown; simp; omega
       have e3 : kfields k = [] := by unfold kfields; (repeat rw [if_neg (by omega)])
       unfold khas; rw [e1, e2, e3]; exact ⟨rfl, hB'⟩)

def betweenB (f t : Int) (d : Bool) : Bool := if d then decide (f = 0 ∧ t ≠ 0 ∧ 0 ≤ t ∧ t ≤ 4) else decide (t = 0 ∧ f ≠ 0 ∧ 0 ≤ f ∧ f ≤ 4)
theorem between_any (m : Msg) (va : Option Addr) (vn vc : Nat) (d : Bool) (w : World) : Calls Try.prog 52 #[.agg (m.cells (.slice va vn vc)), .bool d] w fun e w' => e = .returned (.bool (betweenB m.frm m.to d)) ∧ Below w.heap.size w w' := by
  have M := Mem.start w
  have key : ∀ (b : Bool) (P : Prop) [Decidable P], (b = true ↔ P) → b = decide P := fun b P _ h => by rw [Bool.eq_iff_iff, h]; simp
  refine calls_enter Try.func52 rfl 31 rfl rfl ?_; intro a S
  refine nxD ?_
  refine st_box S M rfl rfl rfl #[_, _, _, _, _, _, _, _, _, _, _, _, _, _, _, _, _, _, _, _, _, _, _, _] rfl ?_; clear S M a; intro a w1 b1 S M hB
  refine st_go [1] S rfl (by kernel_rfl) ?_; clear S a; intro a S
  refine nxC ?_
  refine wp_seq ?_
  refine wp_quiet M (by kernel_rfl) (by kernel_rfl) ?_
  refine qt_y S rfl rfl rfl (fun w M => y_fieldAddr (k := 1) S (by kernel_rfl) rfl) ?_; clear S a; intro a S
  refine qt_y S rfl rfl rfl (fun w M => y_load S (by kernel_rfl) rfl (M.cell 0 rfl rfl)) ?_; clear S a; intro a S
  refine qt_y S rfl rfl rfl (fun w M => y_fieldAddr (k := 2) S (by kernel_rfl) rfl) ?_; clear S a; intro a S
  refine qt_y S rfl rfl rfl (fun w M => y_load S (by kernel_rfl) rfl (M.cell 0 rfl rfl)) ?_; clear S a; intro a S
  refine qt_y S rfl rfl rfl (fun w M => y_assign S rfl) ?_; clear S a; intro a S
  refine qt_y S rfl rfl rfl (fun w M => y_assign S rfl) ?_; clear S a; intro a S
  refine wpQuiet_nil ?_; clear M; intro w2 M
  refine then_normal ?_
  refine wp_seq ?_
  refine nxD ?_
  refine st_go [1, 1] S rfl (by kernel_rfl) ?_; clear S a; intro a S
  refine nxC ?_
  refine st_tils (t := 12) S rfl ?_ ?_
  · clear S; intro h12 S
    refine st_condF S rfl ?_
    refine wp_skip ?_
    refine nxE ?_
    refine st_go [1, 1, 1] S rfl (by kernel_rfl) ?_; clear S a; intro a S
    refine st_fi (t := 19) S rfl ?_ ?_
    · clear S; intro h19 S
      refine st_go [0, 0, 1, 1, 0, 0, 1, 1, 0, 0, 1, 1] S rfl (by kernel_rfl) ?_; clear S a; intro a S
      replace S := S.sub [(0, _), (1, _), (2, _), (5, _), (6, _), (12, _), (4, _)] rfl
      refine nxC ?_
      refine wp_ret ?_
      refine end_one S rfl (res_tmp rfl) ?_
      refine ⟨ret_bool ?_, M.below⟩; clear S M; unfold betweenB
      first
        | (rw [show d = false by simpa using h12]; refine key _ _ ?_; (first | (simp; done) | (simp; omega)))
        | (rw [show d = true by simpa using h12]; refine key _ _ ?_; (first | (simp; done) | (simp; omega)))
    clear S; intro h19 S
    refine st_go [1, 1, 1, 1] S rfl (by kernel_rfl) ?_; clear S a; intro a S
    refine st_fi (t := 23) S rfl ?_ ?_
    · clear S; intro h23 S
      refine st_go [0, 0, 1, 1, 0, 0, 1, 1] S rfl (by kernel_rfl) ?_; clear S a; intro a S
      replace S := S.sub [(0, _), (1, _), (2, _), (5, _), (6, _), (12, _), (4, _)] rfl
      refine nxC ?_
      refine wp_ret ?_
      refine end_one S rfl (res_tmp rfl) ?_
      refine ⟨ret_bool ?_, M.below⟩; clear S M; unfold betweenB
      first
        | (rw [show d = false by simpa using h12]; refine key _ _ ?_; (first | (simp; done) | (simp; omega)))
        | (rw [show d = true by simpa using h12]; refine key _ _ ?_; (first | (simp; done) | (simp; omega)))
    clear S; intro h23 S
    refine st_go [1, 1, 1, 1] S rfl (by kernel_rfl) ?_; clear S a; intro a S
    refine st_if (t := 27) S rfl ?_ ?_
    · clear S; intro h27 S
      refine st_go [1, 1, 1, 1] S rfl (by kernel_rfl) ?_; clear S a; intro a S
      replace S := S.sub [(0, _), (1, _), (2, _), (5, _), (6, _), (12, _), (4, _)] rfl
      refine nxC ?_
      refine wp_ret ?_
      refine end_one S rfl (res_tmp rfl) ?_
      refine ⟨ret_bool ?_, M.below⟩; clear S M; unfold betweenB
      first
        | (rw [show d = false by simpa using h12]; refine key _ _ ?_; (first | (simp; done) | (simp; omega)))
        | (rw [show d = true by simpa using h12]; refine key _ _ ?_; (first | (simp; done) | (simp; omega)))
    clear S; intro h27 S
    refine st_go [0, 0, 1, 1] S rfl (by kernel_rfl) ?_; clear S a; intro a S
    replace S := S.sub [(0, _), (1, _), (2, _), (5, _), (6, _), (12, _), (4, _)] rfl
    refine nxC ?_
    refine wp_ret ?_
    refine end_one S rfl (res_tmp rfl) ?_
    refine ⟨ret_bool ?_, M.below⟩; clear S M; unfold betweenB
    first
      | (rw [show d = false by simpa using h12]; refine key _ _ ?_; (first | (simp; done) | (simp; omega)))
      | (rw [show d = true by simpa using h12]; refine key _ _ ?_; (first | (simp; done) | (simp; omega)))
  clear S; intro h12 S
  refine st_condT S rfl ?_
  refine wp_quiet M (by kernel_rfl) (by kernel_rfl) ?_
  refine qt_y S rfl rfl rfl (fun w M => y_fieldAddr (k := 2) S (by kernel_rfl) rfl) ?_; clear S a; intro a S
  refine qt_y S rfl rfl rfl (fun w M => y_load S (by kernel_rfl) rfl (M.cell 0 rfl rfl)) ?_; clear S a; intro a S
  refine qt_y S rfl rfl rfl (fun w M => y_fieldAddr (k := 1) S (by kernel_rfl) rfl) ?_; clear S a; intro a S
  refine qt_y S rfl rfl rfl (fun w M => y_load S (by kernel_rfl) rfl (M.cell 0 rfl rfl)) ?_; clear S a; intro a S
  refine qt_y S rfl rfl rfl (fun w M => y_assign S rfl) ?_; clear S a; intro a S
  refine qt_y S rfl rfl rfl (fun w M => y_assign S rfl) ?_; clear S a; intro a S
  refine wpQuiet_nil ?_; clear M; intro w3 M
  refine nxE ?_
  refine st_go [1, 1, 1] S rfl (by kernel_rfl) ?_; clear S a; intro a S
  refine st_fi (t := 19) S rfl ?_ ?_
  · clear S; intro h19 S
    refine st_go [0, 0, 1, 1, 0, 0, 1, 1, 0, 0, 1, 1] S rfl (by kernel_rfl) ?_; clear S a; intro a S
    replace S := S.sub [(0, _), (1, _), (2, _), (12, _), (5, _), (6, _), (4, _)] rfl
    refine nxC ?_
    refine wp_ret ?_
    refine end_one S rfl (res_tmp rfl) ?_
    refine ⟨ret_bool ?_, M.below⟩; clear S M; unfold betweenB
    first
      | (rw [show d = false by simpa using h12]; refine key _ _ ?_; (first | (simp; done) | (simp; omega)))
      | (rw [show d = true by simpa using h12]; refine key _ _ ?_; (first | (simp; done) | (simp; omega)))
  clear S; intro h19 S
  refine st_go [1, 1, 1, 1] S rfl (by kernel_rfl) ?_; clear S a; intro a S
  refine st_fi (t := 23) S rfl ?_ ?_
  · clear S; intro h23 S
    refine st_go [0, 0, 1, 1, 0, 0, 1, 1] S rfl (by kernel_rfl) ?_; clear S a; intro a S
    replace S := S.sub [(0, _), (1, _), (2, _), (12, _), (5, _), (6, _), (4, _)] rfl
    refine nxC ?_
    refine wp_ret ?_
    refine end_one S rfl (res_tmp rfl) ?_
    refine ⟨ret_bool ?_, M.below⟩; clear S M; unfold betweenB
    first
      | (rw [show d = false by simpa using h12]; refine key _ _ ?_; (first | (simp; done) | (simp; omega)))
      | (rw [show d = true by simpa using h12]; refine key _ _ ?_; (first | (simp; done) | (simp; omega)))
  clear S; intro h23 S
  refine st_go [1, 1, 1, 1] S rfl (by kernel_rfl) ?_; clear S a; intro a S
  refine st_if (t := 27) S rfl ?_ ?_
  · clear S; intro h27 S
    refine st_go [1, 1, 1, 1] S rfl (by kernel_rfl) ?_; clear S a; intro a S
    replace S := S.sub [(0, _), (1, _), (2, _), (12, _), (5, _), (6, _), (4, _)] rfl
    refine nxC ?_
    refine wp_ret ?_
    refine end_one S rfl (res_tmp rfl) ?_
    refine ⟨ret_bool ?_, M.below⟩; clear S M; unfold betweenB
    first
      | (rw [show d = false by simpa using h12]; refine key _ _ ?_; (first | (simp; done) | (simp; omega)))
      | (rw [show d = true by simpa using h12]; refine key _ _ ?_; (first | (simp; done) | (simp; omega)))
  clear S; intro h27 S
  refine st_go [0, 0, 1, 1] S rfl (by kernel_rfl) ?_; clear S a; intro a S
  replace S := S.sub [(0, _), (1, _), (2, _), (12, _), (5, _), (6, _), (4, _)] rfl
  refine nxC ?_
  refine wp_ret ?_
  refine end_one S rfl (res_tmp rfl) ?_
  refine ⟨ret_bool ?_, M.below⟩; clear S M; unfold betweenB
  first
    | (rw [show d = false by simpa using h12]; refine key _ _ ?_; (first | (simp; done) | (simp; omega)))
    | (rw [show d = true by simpa using h12]; refine key _ _ ?_; (first | (simp; done) | (simp; omega)))
def Msg.same (a b : Msg) (x y : List Wr) : Bool :=
  a.kind == b.kind && a.frm == b.frm && a.to == b.to && a.inc == b.inc && a.your == b.your && a.name.eqb b.name && a.n == b.n && a.op == b.op && a.block == b.block && a.val.eqb b.val && a.e == b.e && a.yes == b.yes && a.give == b.give && a.take == b.take && eqWs x y
theorem Msg.same_iff {a b : Msg} {x y : List Wr} : a.same b x y = true ↔ a = b ∧ x = y := by
  cases a; cases b
  simp [Msg.same, Nm.eqb_iff, V8.eqb_iff, eqWs_iff, and_assoc]
theorem sameM_any (p q : Msg) (va vb : Value) (x y : List Wr) (w : World) (hx : Ws 0 w.heap.size w va x) (hy : Ws 0 w.heap.size w vb y) :
    Calls Try.prog 53 #[.agg (p.cells va), .agg (q.cells vb)] w fun e w' => e = .returned (.bool (p.same q x y)) ∧ Below w.heap.size w w' := by
  obtain ⟨aa, ca, rfl, -, -⟩ := hx.form
  obtain ⟨ab, cb, rfl, -, -⟩ := hy.form
  have M := Mem.start w
  generalize hr : p.same q x y = R
  refine calls_enter Try.func53 rfl 108 rfl rfl ?_; intro a S
  refine nxD ?_
  refine st_box S M rfl rfl rfl #[_, _, _, _, _, _, _, _, _, _, _, _, _, _, _, _, _, _, _, _, _, _, _, _] rfl ?_; clear S M a; intro a w1 b1 S M hB
  refine st_box S M rfl rfl rfl #[_, _, _, _, _, _, _, _, _, _, _, _, _, _, _, _, _, _, _, _, _, _, _, _] rfl ?_; clear S M a; intro a w2 b2 S M hB
  refine st_go [1] S rfl (by kernel_rfl) ?_; clear S a; intro a S
  refine nxA ?_
  refine st_run [1, 2, 1, 1, 1, 1] S M rfl (by kernel_rfl) ?_; clear S a; intro a S
  refine st_tils (t := 10) S rfl ?_ ?_
  · clear S; intro h10 S
    refine st_go [0, 0, 0, 0, 0, 1, 1, 0, 0, 0, 0, 0, 1, 1, 0, 0, 0, 0, 0, 1, 1, 0, 0, 0, 0, 0, 1, 1, 0, 0, 0, 0, 0, 1, 1, 0, 0, 0, 0, 0, 1, 1, 0, 0, 0, 0, 0, 1, 1, 0, 0, 0, 0, 0, 1, 1, 0, 0, 0, 0, 0, 1, 1, 0, 0, 0, 0, 0, 1, 1, 0, 0, 0, 0, 0, 1, 1, 0, 0, 0, 0, 0, 1, 1, 0, 0, 0, 0, 0, 1, 1, 0, 0, 0, 0, 0, 1, 1] S rfl (by kernel_rfl) ?_; clear S a; intro a S
    replace S := S.sub [(0, _), (1, _), (2, _), (3, _), (4, _)] rfl
    refine nxC ?_
    refine wp_ret ?_
    refine end_one S rfl (res_tmp rfl) ?_
    refine ⟨ret_bool ?_, M.below⟩; rw [← hr]; clear S M; simp [Msg.same, *]
  clear S; intro h10 S
  refine st_run [2, 2, 2, 1, 1, 1, 1] S M rfl (by kernel_rfl) ?_; clear S a; intro a S
  refine st_tils (t := 17) S rfl ?_ ?_
  · clear S; intro h17 S
    refine st_go [0, 0, 0, 0, 0, 1, 1, 0, 0, 0, 0, 0, 1, 1, 0, 0, 0, 0, 0, 1, 1, 0, 0, 0, 0, 0, 1, 1, 0, 0, 0, 0, 0, 1, 1, 0, 0, 0, 0, 0, 1, 1, 0, 0, 0, 0, 0, 1, 1, 0, 0, 0, 0, 0, 1, 1, 0, 0, 0, 0, 0, 1, 1, 0, 0, 0, 0, 0, 1, 1, 0, 0, 0, 0, 0, 1, 1, 0, 0, 0, 0, 0, 1, 1, 0, 0, 0, 0, 0, 1, 1] S rfl (by kernel_rfl) ?_; clear S a; intro a S
    replace S := S.sub [(0, _), (1, _), (2, _), (3, _), (4, _)] rfl
    refine nxC ?_
    refine wp_ret ?_
    refine end_one S rfl (res_tmp rfl) ?_
    refine ⟨ret_bool ?_, M.below⟩; rw [← hr]; clear S M; simp [Msg.same, *]
  clear S; intro h17 S
  refine st_run [3, 2, 3, 1, 1, 1, 1] S M rfl (by kernel_rfl) ?_; clear S a; intro a S
  refine st_tils (t := 24) S rfl ?_ ?_
  · clear S; intro h24 S
    refine st_go [0, 0, 0, 0, 0, 1, 1, 0, 0, 0, 0, 0, 1, 1, 0, 0, 0, 0, 0, 1, 1, 0, 0, 0, 0, 0, 1, 1, 0, 0, 0, 0, 0, 1, 1, 0, 0, 0, 0, 0, 1, 1, 0, 0, 0, 0, 0, 1, 1, 0, 0, 0, 0, 0, 1, 1, 0, 0, 0, 0, 0, 1, 1, 0, 0, 0, 0, 0, 1, 1, 0, 0, 0, 0, 0, 1, 1, 0, 0, 0, 0, 0, 1, 1] S rfl (by kernel_rfl) ?_; clear S a; intro a S
    replace S := S.sub [(0, _), (1, _), (2, _), (3, _), (4, _)] rfl
    refine nxC ?_
    refine wp_ret ?_
    refine end_one S rfl (res_tmp rfl) ?_
    refine ⟨ret_bool ?_, M.below⟩; rw [← hr]; clear S M; simp [Msg.same, *]
  clear S; intro h24 S
  refine st_run [4, 2, 4, 1, 1, 1, 1] S M rfl (by kernel_rfl) ?_; clear S a; intro a S
  refine st_tils (t := 31) S rfl ?_ ?_
  · clear S; intro h31 S
    refine st_go [0, 0, 0, 0, 0, 1, 1, 0, 0, 0, 0, 0, 1, 1, 0, 0, 0, 0, 0, 1, 1, 0, 0, 0, 0, 0, 1, 1, 0, 0, 0, 0, 0, 1, 1, 0, 0, 0, 0, 0, 1, 1, 0, 0, 0, 0, 0, 1, 1, 0, 0, 0, 0, 0, 1, 1, 0, 0, 0, 0, 0, 1, 1, 0, 0, 0, 0, 0, 1, 1, 0, 0, 0, 0, 0, 1, 1] S rfl (by kernel_rfl) ?_; clear S a; intro a S
    replace S := S.sub [(0, _), (1, _), (2, _), (3, _), (4, _)] rfl
    refine nxC ?_
    refine wp_ret ?_
    refine end_one S rfl (res_tmp rfl) ?_
    refine ⟨ret_bool ?_, M.below⟩; rw [← hr]; clear S M; simp [Msg.same, *]
  clear S; intro h31 S
  refine st_run [5, 2, 5, 1, 1, 1, 1] S M rfl (by kernel_rfl) ?_; clear S a; intro a S
  refine st_tils (t := 38) S rfl ?_ ?_
  · clear S; intro h38 S
    refine st_go [0, 0, 0, 0, 0, 1, 1, 0, 0, 0, 0, 0, 1, 1, 0, 0, 0, 0, 0, 1, 1, 0, 0, 0, 0, 0, 1, 1, 0, 0, 0, 0, 0, 1, 1, 0, 0, 0, 0, 0, 1, 1, 0, 0, 0, 0, 0, 1, 1, 0, 0, 0, 0, 0, 1, 1, 0, 0, 0, 0, 0, 1, 1, 0, 0, 0, 0, 0, 1, 1] S rfl (by kernel_rfl) ?_; clear S a; intro a S
    replace S := S.sub [(0, _), (1, _), (2, _), (3, _), (4, _)] rfl
    refine nxC ?_
    refine wp_ret ?_
    refine end_one S rfl (res_tmp rfl) ?_
    refine ⟨ret_bool ?_, M.below⟩; rw [← hr]; clear S M; simp [Msg.same, *]
  clear S; intro h38 S
  refine st_go [6] S rfl (by kernel_rfl) ?_; clear S a; intro a S
  refine st_y S rfl rfl rfl (y_loadAgg (cs := [_, _, _]) S (by kernel_rfl) rfl rfl (M.cellsAt (k := 3) 1 rfl rfl)) ?_; clear S a; intro a S
  refine st_go [6] S rfl (by kernel_rfl) ?_; clear S a; intro a S
  refine st_y S rfl rfl rfl (y_loadAgg (cs := [_, _, _]) S (by kernel_rfl) rfl rfl (M.cellsAt (k := 3) 0 rfl rfl)) ?_; clear S a; intro a S
  refine st_y S rfl rfl rfl (y_eqlG (by kernel_rfl) S rfl rfl (fun w => equalNm 9998 ⟨_, _, _⟩ ⟨_, _, _⟩ w)) ?_; clear S a; intro a S
  refine st_go [1, 1] S rfl (by kernel_rfl) ?_; clear S a; intro a S
  refine st_tils (t := 45) S rfl ?_ ?_
  · clear S; intro h45 S
    refine st_go [0, 0, 0, 0, 0, 1, 1, 0, 0, 0, 0, 0, 1, 1, 0, 0, 0, 0, 0, 1, 1, 0, 0, 0, 0, 0, 1, 1, 0, 0, 0, 0, 0, 1, 1, 0, 0, 0, 0, 0, 1, 1, 0, 0, 0, 0, 0, 1, 1, 0, 0, 0, 0, 0, 1, 1, 0, 0, 0, 0, 0, 1, 1] S rfl (by kernel_rfl) ?_; clear S a; intro a S
    replace S := S.sub [(0, _), (1, _), (2, _), (3, _), (4, _)] rfl
    refine nxC ?_
    refine wp_ret ?_
    refine end_one S rfl (res_tmp rfl) ?_
    refine ⟨ret_bool ?_, M.below⟩; rw [← hr]; clear S M; simp [Msg.same, *]
  clear S; intro h45 S
  refine st_run [9, 2, 9, 1, 1, 1, 1] S M rfl (by kernel_rfl) ?_; clear S a; intro a S
  refine st_tils (t := 52) S rfl ?_ ?_
  · clear S; intro h52 S
    refine st_go [0, 0, 0, 0, 0, 1, 1, 0, 0, 0, 0, 0, 1, 1, 0, 0, 0, 0, 0, 1, 1, 0, 0, 0, 0, 0, 1, 1, 0, 0, 0, 0, 0, 1, 1, 0, 0, 0, 0, 0, 1, 1, 0, 0, 0, 0, 0, 1, 1, 0, 0, 0, 0, 0, 1, 1] S rfl (by kernel_rfl) ?_; clear S a; intro a S
    replace S := S.sub [(0, _), (1, _), (2, _), (3, _), (4, _)] rfl
    refine nxC ?_
    refine wp_ret ?_
    refine end_one S rfl (res_tmp rfl) ?_
    refine ⟨ret_bool ?_, M.below⟩; rw [← hr]; clear S M; simp [Msg.same, *]
  clear S; intro h52 S
  refine st_run [10, 2, 10, 1, 1, 1, 1] S M rfl (by kernel_rfl) ?_; clear S a; intro a S
  refine st_tils (t := 59) S rfl ?_ ?_
  · clear S; intro h59 S
    refine st_go [0, 0, 0, 0, 0, 1, 1, 0, 0, 0, 0, 0, 1, 1, 0, 0, 0, 0, 0, 1, 1, 0, 0, 0, 0, 0, 1, 1, 0, 0, 0, 0, 0, 1, 1, 0, 0, 0, 0, 0, 1, 1, 0, 0, 0, 0, 0, 1, 1] S rfl (by kernel_rfl) ?_; clear S a; intro a S
    replace S := S.sub [(0, _), (1, _), (2, _), (3, _), (4, _)] rfl
    refine nxC ?_
    refine wp_ret ?_
    refine end_one S rfl (res_tmp rfl) ?_
    refine ⟨ret_bool ?_, M.below⟩; rw [← hr]; clear S M; simp [Msg.same, *]
  clear S; intro h59 S
  refine st_run [11, 2, 11, 1, 1, 1, 1] S M rfl (by kernel_rfl) ?_; clear S a; intro a S
  refine st_tils (t := 66) S rfl ?_ ?_
  · clear S; intro h66 S
    refine st_go [0, 0, 0, 0, 0, 1, 1, 0, 0, 0, 0, 0, 1, 1, 0, 0, 0, 0, 0, 1, 1, 0, 0, 0, 0, 0, 1, 1, 0, 0, 0, 0, 0, 1, 1, 0, 0, 0, 0, 0, 1, 1] S rfl (by kernel_rfl) ?_; clear S a; intro a S
    replace S := S.sub [(0, _), (1, _), (2, _), (3, _), (4, _)] rfl
    refine nxC ?_
    refine wp_ret ?_
    refine end_one S rfl (res_tmp rfl) ?_
    refine ⟨ret_bool ?_, M.below⟩; rw [← hr]; clear S M; simp [Msg.same, *]
  clear S; intro h66 S
  refine st_go [12] S rfl (by kernel_rfl) ?_; clear S a; intro a S
  refine st_y S rfl rfl rfl (y_loadAgg (cs := [_, _, _, _, _, _, _, _]) S (by kernel_rfl) rfl rfl (M.cellsAt (k := 8) 1 rfl rfl)) ?_; clear S a; intro a S
  refine st_go [12] S rfl (by kernel_rfl) ?_; clear S a; intro a S
  refine st_y S rfl rfl rfl (y_loadAgg (cs := [_, _, _, _, _, _, _, _]) S (by kernel_rfl) rfl rfl (M.cellsAt (k := 8) 0 rfl rfl)) ?_; clear S a; intro a S
  refine st_y S rfl rfl rfl (y_eqlG (by kernel_rfl) S rfl rfl (fun w => equalV8 9998 ⟨_, _, _, _, _, _, _, _⟩ ⟨_, _, _, _, _, _, _, _⟩ w)) ?_; clear S a; intro a S
  refine st_go [1, 1] S rfl (by kernel_rfl) ?_; clear S a; intro a S
  refine st_tils (t := 73) S rfl ?_ ?_
  · clear S; intro h73 S
    refine st_go [0, 0, 0, 0, 0, 1, 1, 0, 0, 0, 0, 0, 1, 1, 0, 0, 0, 0, 0, 1, 1, 0, 0, 0, 0, 0, 1, 1, 0, 0, 0, 0, 0, 1, 1] S rfl (by kernel_rfl) ?_; clear S a; intro a S
    replace S := S.sub [(0, _), (1, _), (2, _), (3, _), (4, _)] rfl
    refine nxC ?_
    refine wp_ret ?_
    refine end_one S rfl (res_tmp rfl) ?_
    refine ⟨ret_bool ?_, M.below⟩; rw [← hr]; clear S M; simp [Msg.same, *]
  clear S; intro h73 S
  refine st_run [20, 2, 20, 1, 1, 1, 1] S M rfl (by kernel_rfl) ?_; clear S a; intro a S
  refine st_tils (t := 80) S rfl ?_ ?_
  · clear S; intro h80 S
    refine st_go [0, 0, 0, 0, 0, 1, 1, 0, 0, 0, 0, 0, 1, 1, 0, 0, 0, 0, 0, 1, 1, 0, 0, 0, 0, 0, 1, 1] S rfl (by kernel_rfl) ?_; clear S a; intro a S
    replace S := S.sub [(0, _), (1, _), (2, _), (3, _), (4, _)] rfl
    refine nxC ?_
    refine wp_ret ?_
    refine end_one S rfl (res_tmp rfl) ?_
    refine ⟨ret_bool ?_, M.below⟩; rw [← hr]; clear S M; simp [Msg.same, *]
  clear S; intro h80 S
  refine st_run [21, 2, 21, 1] S M rfl (by kernel_rfl) ?_; clear S a; intro a S
  refine st_y S rfl rfl rfl (y_eqlBool (by kernel_rfl) S rfl rfl) ?_; clear S a; intro a S
  refine st_go [1, 1] S rfl (by kernel_rfl) ?_; clear S a; intro a S
  refine st_tils (t := 87) S rfl ?_ ?_
  · clear S; intro h87 S
    refine st_go [0, 0, 0, 0, 0, 1, 1, 0, 0, 0, 0, 0, 1, 1, 0, 0, 0, 0, 0, 1, 1] S rfl (by kernel_rfl) ?_; clear S a; intro a S
    replace S := S.sub [(0, _), (1, _), (2, _), (3, _), (4, _)] rfl
    refine nxC ?_
    refine wp_ret ?_
    refine end_one S rfl (res_tmp rfl) ?_
    refine ⟨ret_bool ?_, M.below⟩; rw [← hr]; clear S M; simp [Msg.same, *]
  clear S; intro h87 S
  refine st_run [22, 2, 22, 1, 1, 1, 1] S M rfl (by kernel_rfl) ?_; clear S a; intro a S
  refine st_tils (t := 94) S rfl ?_ ?_
  · clear S; intro h94 S
    refine st_go [0, 0, 0, 0, 0, 1, 1, 0, 0, 0, 0, 0, 1, 1] S rfl (by kernel_rfl) ?_; clear S a; intro a S
    replace S := S.sub [(0, _), (1, _), (2, _), (3, _), (4, _)] rfl
    refine nxC ?_
    refine wp_ret ?_
    refine end_one S rfl (res_tmp rfl) ?_
    refine ⟨ret_bool ?_, M.below⟩; rw [← hr]; clear S M; simp [Msg.same, *]
  clear S; intro h94 S
  refine st_run [23, 2, 23, 1, 1, 1, 1] S M rfl (by kernel_rfl) ?_; clear S a; intro a S
  refine st_tils (t := 101) S rfl ?_ ?_
  · clear S; intro h101 S
    refine st_go [0, 0, 0, 0, 0, 1, 1] S rfl (by kernel_rfl) ?_; clear S a; intro a S
    replace S := S.sub [(0, _), (1, _), (2, _), (3, _), (4, _)] rfl
    refine nxC ?_
    refine wp_ret ?_
    refine end_one S rfl (res_tmp rfl) ?_
    refine ⟨ret_bool ?_, M.below⟩; rw [← hr]; clear S M; simp [Msg.same, *]
  clear S; intro h101 S
  refine st_run [24, 2, 24, 1] S M rfl (by kernel_rfl) ?_; clear S a; intro a S
  refine st_call (xs := [(Operand.tmp 103), (Operand.tmp 105)]) S (enters_of Try.func35 (by decide) rfl) rfl rfl rfl (equalW_any _ _ x y _ (M.argW hx) (M.argW hy)) ?_
  rintro _ w3 ⟨rfl, hK⟩; refine ⟨_, rfl, ?_⟩; clear S a; intro a S; replace M := M.grow hK
  refine st_go [1, 1] S rfl (by kernel_rfl) ?_; clear S a; intro a S
  replace S := S.sub [(0, _), (1, _), (2, _), (3, _), (4, _)] rfl
  refine nxC ?_
  refine wp_ret ?_
  refine end_one S rfl (res_tmp rfl) ?_
  refine ⟨ret_bool ?_, M.below⟩; rw [← hr]; clear S M; simp [Msg.same, *]

end Go.Proofs.Ytidpeojkkfmgeaa
