/-
  Package lock: locks; at, mode, known, may, conflict, Holds.
-/
import Derived.Test.YtcbofgcmfkcglaaData
import Derived.Test.YtcbofgcmfkcglaaEql
import Derived.Test.YtcbofgcmfkcglaaVN
import Derived.Test.YtcbofgcmfkcglaaEqg
namespace Go.Proofs.Ytcbofgcmfkcglaa
open Go.RowKit Go.Sort

instance : DecidableEq Nm := fun a b => decidable_of_iff (a.eqb b = true) Nm.eqb_iff
structure Lk where
  name : Nm
  block : Int
  excl : Bool
deriving DecidableEq
abbrev Lk.cellsL (x : Lk) : List Value := [.int .i64 x.name.stamp, .int .i64 x.name.inc, .int .i64 x.name.try_, .int .i64 x.block, .bool x.excl]
def lcells (l : List Lk) : List Value := l.flatMap Lk.cellsL
theorem lcells_length : ∀ l, (lcells l).length = l.length * 5
  | [] => rfl
  | x :: l => by
    show (x.cellsL ++ lcells l).length = _
    rw [List.length_append, lcells_length l]; simp; omega
theorem allOne_lcells : ∀ l, allOne (lcells l) = true
  | [] => rfl
  | x :: l => by
    show allOne (x.cellsL ++ lcells l) = true
    rw [allOne_append, allOne_lcells l]; rfl
theorem lcells_split {l : List Lk} {i : Nat} {x : Lk} (hx : l[i]? = some x) : lcells l = lcells (l.take i) ++ (x.cellsL ++ lcells (l.drop (i + 1))) := by
  obtain ⟨hlt, he⟩ := List.getElem?_eq_some_iff.1 hx
  conv => lhs; rw [← List.take_append_drop i l, List.drop_eq_getElem_cons hlt, he]
  simp [lcells]
theorem lcells_get {l : List Lk} {i : Nat} {x : Lk} (hx : l[i]? = some x) : ((lcells l).drop (i * 5)).take 5 = x.cellsL := by
  have hlt := (List.getElem?_eq_some_iff.1 hx).1
  rw [lcells_split hx, show i * 5 = (lcells (l.take i)).length by rw [lcells_length, List.length_take]; omega, List.drop_left]
  rfl
theorem lcells_append (a b : List Lk) : lcells (a ++ b) = lcells a ++ lcells b := by simp [lcells]
abbrev Ls (lo hi : Nat) (w : World) (v : Value) (l : List Lk) : Prop := Rd lo hi w 5 v l.length (lcells l)

/-- a block of a name -/
abbrev Pl := Nm × Int
abbrev Pl.cellsL (p : Pl) : List Value := [.int .i64 p.1.stamp, .int .i64 p.1.inc, .int .i64 p.1.try_, .int .i64 p.2]
def Lk.pl (x : Lk) : Pl := (x.name, x.block)
def withinB (n m : Int) : Bool := decide (1 ≤ n ∧ n ≤ m)
def Nm.named (n : Nm) : Bool := withinB n.stamp 1048576 && withinB n.inc 1048576 && withinB n.try_ 1048576
theorem named_iff {n : Nm} : n.named = true ↔ (1 ≤ n.stamp ∧ n.stamp ≤ 1048576) ∧ (1 ≤ n.inc ∧ n.inc ≤ 1048576) ∧ 1 ≤ n.try_ ∧ n.try_ ≤ 1048576 := by
  simp [Nm.named, withinB, and_assoc]
def knownB (k : Int) : Bool := decide (0 ≤ k ∧ k < 32)
def Lk.may (x : Lk) : Bool := x.name.named && knownB x.block
def Lk.mode (x : Lk) : Int := if x.excl = true then 2 else 1
/-- do two locks conflict? -/
def conf (a b : Lk) : Bool := a.block == b.block && !a.name.eqb b.name && (a.excl || b.excl)

theorem within_any (n m : Int) (w : World) : Calls Try.prog 44 #[.int .i64 n, .int .i64 m] w fun e w' => e = .returned (.bool (withinB n m)) ∧ Below w.heap.size w w' := by
  have M := Mem.start w
  refine calls_enter Try.func44 rfl 12 rfl rfl ?_; intro a S
  refine nxD ?_
  refine st_go [1] S rfl (by kernel_rfl) ?_; clear S a; intro a S
  refine nxA ?_
  refine st_go [1, 1, 1] S rfl (by kernel_rfl) ?_; clear S a; intro a S
  refine st_if (t := 7) S rfl ?_ ?_
  · clear S; intro h7 S
    refine st_go [1, 1, 1, 1, 1] S rfl (by kernel_rfl) ?_; clear S a; intro a S
    refine nxC ?_
    refine wp_ret ?_
    refine end_one S rfl (res_tmp rfl) ?_
    refine ⟨ret_bool ?_, M.below⟩; unfold withinB; rw [Bool.eq_iff_iff]; (first | (simp; done) | (simp; omega))
  clear S; intro h7 S
  refine st_go [0, 0, 0, 1, 1] S rfl (by kernel_rfl) ?_; clear S a; intro a S
  refine nxC ?_
  refine wp_ret ?_
  refine end_one S rfl (res_tmp rfl) ?_
  refine ⟨ret_bool ?_, M.below⟩; unfold withinB; rw [Bool.eq_iff_iff]; (first | (simp; done) | (simp; omega))
theorem named_any (n : Nm) (w : World) : Calls Try.prog 34 #[.agg n.cells] w fun e w' => e = .returned (.bool n.named) ∧ Below w.heap.size w w' := by
  have M := Mem.start w
  refine calls_enter Try.func34 rfl 16 rfl rfl ?_; intro a S
  refine nxD ?_
  refine st_box S M rfl rfl rfl #[_, _, _] rfl ?_; clear S M a; intro a w1 b1 S M hB
  refine st_go [1] S rfl (by kernel_rfl) ?_; clear S a; intro a S
  refine nxA ?_
  refine st_run [1, 1] S M rfl (by kernel_rfl) ?_; clear S a; intro a S
  refine st_call (xs := [(Operand.tmp 4), (Operand.const (Value.int IntKind.i64 1048576))]) S (enters_of Try.func44 (by decide) rfl) rfl rfl rfl (within_any _ _ _) ?_
  rintro _ w2 ⟨rfl, hK⟩; refine ⟨_, rfl, ?_⟩; clear S a; intro a S; replace M := M.grow hK
  refine st_go [1] S rfl (by kernel_rfl) ?_; clear S a; intro a S
  refine st_tils (t := 6) S rfl ?_ ?_
  · clear S; intro h6 S
    refine st_go [0, 0, 0, 1, 1, 0, 0, 0, 1, 1] S rfl (by kernel_rfl) ?_; clear S a; intro a S
    replace S := S.sub [(0, _), (1, _), (2, _)] rfl
    refine nxC ?_
    refine wp_ret ?_
    refine end_one S rfl (res_tmp rfl) ?_
    exact ⟨ret_bool (by simp [Nm.named, *]), M.below⟩
  clear S; intro h6 S
  refine st_run [2, 1] S M rfl (by kernel_rfl) ?_; clear S a; intro a S
  refine st_call (xs := [(Operand.tmp 8), (Operand.const (Value.int IntKind.i64 1048576))]) S (enters_of Try.func44 (by decide) rfl) rfl rfl rfl (within_any _ _ _) ?_
  rintro _ w3 ⟨rfl, hK⟩; refine ⟨_, rfl, ?_⟩; clear S a; intro a S; replace M := M.grow hK
  refine st_go [1, 1] S rfl (by kernel_rfl) ?_; clear S a; intro a S
  refine st_tils (t := 11) S rfl ?_ ?_
  · clear S; intro h11 S
    refine st_go [0, 0, 0, 1, 1] S rfl (by kernel_rfl) ?_; clear S a; intro a S
    replace S := S.sub [(0, _), (1, _), (2, _)] rfl
    refine nxC ?_
    refine wp_ret ?_
    refine end_one S rfl (res_tmp rfl) ?_
    exact ⟨ret_bool (by simp [Nm.named, *]), M.below⟩
  clear S; intro h11 S
  refine st_run [3, 1] S M rfl (by kernel_rfl) ?_; clear S a; intro a S
  refine st_call (xs := [(Operand.tmp 13), (Operand.const (Value.int IntKind.i64 1048576))]) S (enters_of Try.func44 (by decide) rfl) rfl rfl rfl (within_any _ _ _) ?_
  rintro _ w4 ⟨rfl, hK⟩; refine ⟨_, rfl, ?_⟩; clear S a; intro a S; replace M := M.grow hK
  refine st_go [1, 1] S rfl (by kernel_rfl) ?_; clear S a; intro a S
  replace S := S.sub [(0, _), (1, _), (2, _)] rfl
  refine nxC ?_
  refine wp_ret ?_
  refine end_one S rfl (res_tmp rfl) ?_
  exact ⟨ret_bool (by simp [Nm.named, *]), M.below⟩
theorem rNamed_any (n : Nm) (w : World) : Calls Try.prog 5 #[.agg n.cells] w fun e w' => e = .returned (.bool n.named) ∧ Below w.heap.size w w' := by
  have M := Mem.start w
  refine calls_enter Try.func5 rfl 31 rfl rfl ?_; intro a S
  refine nxD ?_
  refine st_box S M rfl rfl rfl #[_, _, _] rfl ?_; clear S M a; intro a w1 b1 S M hB
  refine st_go [1] S rfl (by kernel_rfl) ?_; clear S a; intro a S
  refine nxA ?_
  refine st_run [1, 1, 1, 1] S M rfl (by kernel_rfl) ?_; clear S a; intro a S
  refine st_fi (t := 6) S rfl ?_ ?_
  · clear S; intro h6 S
    refine st_go [0, 0, 0, 1, 1, 0, 0, 0, 1, 1, 0, 0, 0, 1, 1, 0, 0, 0, 1, 1, 0, 0, 0, 1, 1] S rfl (by kernel_rfl) ?_; clear S a; intro a S
    replace S := S.sub [(0, _), (1, _), (2, _)] rfl
    refine nxC ?_
    refine wp_ret ?_
    refine end_one S rfl (res_tmp rfl) ?_
    refine ⟨ret_bool ?_, M.below⟩; clear S M; rw [Bool.eq_iff_iff, named_iff]; (first | (simp; done) | (simp; omega) | omega)
  clear S; intro h6 S
  refine st_run [1, 1, 1, 1, 1] S M rfl (by kernel_rfl) ?_; clear S a; intro a S
  refine st_fi (t := 11) S rfl ?_ ?_
  · clear S; intro h11 S
    refine st_go [0, 0, 0, 1, 1, 0, 0, 0, 1, 1, 0, 0, 0, 1, 1, 0, 0, 0, 1, 1] S rfl (by kernel_rfl) ?_; clear S a; intro a S
    replace S := S.sub [(0, _), (1, _), (2, _)] rfl
    refine nxC ?_
    refine wp_ret ?_
    refine end_one S rfl (res_tmp rfl) ?_
    refine ⟨ret_bool ?_, M.below⟩; clear S M; rw [Bool.eq_iff_iff, named_iff]; (first | (simp; done) | (simp; omega) | omega)
  clear S; intro h11 S
  refine st_run [2, 1, 1, 1, 1] S M rfl (by kernel_rfl) ?_; clear S a; intro a S
  refine st_fi (t := 16) S rfl ?_ ?_
  · clear S; intro h16 S
    refine st_go [0, 0, 0, 1, 1, 0, 0, 0, 1, 1, 0, 0, 0, 1, 1] S rfl (by kernel_rfl) ?_; clear S a; intro a S
    replace S := S.sub [(0, _), (1, _), (2, _)] rfl
    refine nxC ?_
    refine wp_ret ?_
    refine end_one S rfl (res_tmp rfl) ?_
    refine ⟨ret_bool ?_, M.below⟩; clear S M; rw [Bool.eq_iff_iff, named_iff]; (first | (simp; done) | (simp; omega) | omega)
  clear S; intro h16 S
  refine st_run [2, 1, 1, 1, 1] S M rfl (by kernel_rfl) ?_; clear S a; intro a S
  refine st_fi (t := 21) S rfl ?_ ?_
  · clear S; intro h21 S
    refine st_go [0, 0, 0, 1, 1, 0, 0, 0, 1, 1] S rfl (by kernel_rfl) ?_; clear S a; intro a S
    replace S := S.sub [(0, _), (1, _), (2, _)] rfl
    refine nxC ?_
    refine wp_ret ?_
    refine end_one S rfl (res_tmp rfl) ?_
    refine ⟨ret_bool ?_, M.below⟩; clear S M; rw [Bool.eq_iff_iff, named_iff]; (first | (simp; done) | (simp; omega) | omega)
  clear S; intro h21 S
  refine st_run [3, 1, 1, 1, 1] S M rfl (by kernel_rfl) ?_; clear S a; intro a S
  refine st_fi (t := 26) S rfl ?_ ?_
  · clear S; intro h26 S
    refine st_go [0, 0, 0, 1, 1] S rfl (by kernel_rfl) ?_; clear S a; intro a S
    replace S := S.sub [(0, _), (1, _), (2, _)] rfl
    refine nxC ?_
    refine wp_ret ?_
    refine end_one S rfl (res_tmp rfl) ?_
    refine ⟨ret_bool ?_, M.below⟩; clear S M; rw [Bool.eq_iff_iff, named_iff]; (first | (simp; done) | (simp; omega) | omega)
  clear S; intro h26 S
  refine st_run [3, 1, 1, 1, 1] S M rfl (by kernel_rfl) ?_; clear S a; intro a S
  replace S := S.sub [(0, _), (1, _), (2, _)] rfl
  refine nxC ?_
  refine wp_ret ?_
  refine end_one S rfl (res_tmp rfl) ?_
  refine ⟨ret_bool ?_, M.below⟩; clear S M; rw [Bool.eq_iff_iff, named_iff]; (first | (simp; done) | (simp; omega) | omega)
theorem known_any (k : Int) (w : World) : Calls Try.prog 35 #[.int .i64 k] w fun e w' => e = .returned (.bool (knownB k)) ∧ Below w.heap.size w w' := by
  have M := Mem.start w
  refine calls_enter Try.func35 rfl 9 rfl rfl ?_; intro a S
  refine nxD ?_
  refine st_go [1] S rfl (by kernel_rfl) ?_; clear S a; intro a S
  refine nxA ?_
  refine st_go [1, 1, 1] S rfl (by kernel_rfl) ?_; clear S a; intro a S
  refine st_if (t := 5) S rfl ?_ ?_
  · clear S; intro h5 S
    refine st_go [1, 1, 1, 1] S rfl (by kernel_rfl) ?_; clear S a; intro a S
    refine nxC ?_
    refine wp_ret ?_
    refine end_one S rfl (res_tmp rfl) ?_
    refine ⟨ret_bool ?_, M.below⟩; unfold knownB; clear S M; rw [Bool.eq_iff_iff]; simp only [decide_eq_true_eq]; first | omega | (simp; omega)
  clear S; intro h5 S
  refine st_go [0, 0, 1, 1] S rfl (by kernel_rfl) ?_; clear S a; intro a S
  refine nxC ?_
  refine wp_ret ?_
  refine end_one S rfl (res_tmp rfl) ?_
  refine ⟨ret_bool ?_, M.below⟩; unfold knownB; clear S M; rw [Bool.eq_iff_iff]; simp only [decide_eq_true_eq]; first | omega | (simp; omega)
theorem at_any (x : Lk) (w : World) : Calls Try.prog 19 #[.agg x.cellsL.toArray] w fun e w' => e = .returned (.agg (Pl.cellsL x.pl).toArray) ∧ Below w.heap.size w w' := by
  have M := Mem.start w
  refine calls_enter Try.func19 rfl 8 rfl rfl ?_; intro a S
  refine nxD ?_
  refine st_box S M rfl rfl rfl #[_, _, _, _, _] rfl ?_; clear S M a; intro a w1 bX S M hB
  refine st_alloc S M rfl rfl #[.int .i64 0, .int .i64 0, .int .i64 0, .int .i64 0] (by kernel_rfl) ?_; clear S M a; intro a w2 b1 S M hB
  refine nxA ?_
  refine st_go [1] S rfl (by kernel_rfl) ?_; clear S a; intro a S
  refine st_y S rfl rfl rfl (y_loadAgg (cs := [_, _, _]) S (by kernel_rfl) rfl rfl (M.cellsAt (k := 3) 1 rfl rfl)) ?_; clear S a; intro a S
  refine st_run [4, 2] S M rfl (by kernel_rfl) ?_; clear S a; intro a S
  refine st_y S rfl rfl rfl (y_build (ps := [(0, (Operand.tmp 4)), (1, (Operand.tmp 6))]) (pl := [(0, 3), (3, 1)]) (z := [.int .i64 0, .int .i64 0, .int .i64 0, .int .i64 0]) (cs := [_, _, _, _]) S (by kernel_rfl) rfl (rfl)) ?_; clear S a; intro a S
  refine st_store (sz := 4) (us := [_, _, _, _]) S M 0 rfl (by kernel_rfl) rfl rfl rfl rfl rfl rfl (by first | decide | (simp; done) | (simp; omega)) ?_; clear M; intro w3 M
  simp only [putL, List.set_cons_zero, List.set_cons_succ, Nat.reduceAdd] at M
  refine nxC ?_
  refine wp_ret ?_
  refine end_one S rfl (res_agg (cs := [_, _, _, _]) (by kernel_rfl) rfl rfl (M.cellsAt (k := 4) 0 rfl rfl)) ?_
  exact ⟨rfl, M.below⟩
theorem mode_any (x : Lk) (w : World) : Calls Try.prog 26 #[.agg x.cellsL.toArray] w fun e w' => e = .returned (.int .i8 x.mode) ∧ Below w.heap.size w w' := by
  have M := Mem.start w
  refine calls_enter Try.func26 rfl 5 rfl rfl ?_; intro a S
  refine nxD ?_
  refine st_box S M rfl rfl rfl #[_, _, _, _, _] rfl ?_; clear S M a; intro a w1 bX S M hB
  refine st_go [1] S rfl (by kernel_rfl) ?_; clear S a; intro a S
  refine nxC ?_
  refine wp_seq ?_
  refine nxD ?_
  refine st_run [5, 1] S M rfl (by kernel_rfl) ?_; clear S a; intro a S
  refine nxC ?_
  refine st_if (t := 4) S rfl ?_ ?_
  · clear S; intro h4 S
    refine st_condT S rfl ?_
    refine nxD ?_
    refine st_go [1] S rfl (by kernel_rfl) ?_; clear S a; intro a S
    refine nxC ?_
    refine wp_ret ?_
    refine then_ret ?_
    refine end_one S rfl (res_tmp rfl) ?_
    refine ⟨?_, M.below⟩; clear S M; unfold Lk.mode; simp [h4]
  clear S; intro h4 S
  refine st_condF S rfl ?_
  refine wp_skip ?_
  refine nxE ?_
  refine st_go [1] S rfl (by kernel_rfl) ?_; clear S a; intro a S
  refine nxC ?_
  refine wp_ret ?_
  refine end_one S rfl (res_tmp rfl) ?_
  refine ⟨?_, M.below⟩; clear S M; unfold Lk.mode; simp [h4]
theorem may_any (x : Lk) (w : World) : Calls Try.prog 15 #[.agg x.cellsL.toArray] w fun e w' => e = .returned (.bool x.may) ∧ Below w.heap.size w w' := by
  have M := Mem.start w
  refine calls_enter Try.func15 rfl 11 rfl rfl ?_; intro a S
  refine nxD ?_
  refine st_box S M rfl rfl rfl #[_, _, _, _, _] rfl ?_; clear S M a; intro a w1 bX S M hB
  refine st_go [1] S rfl (by kernel_rfl) ?_; clear S a; intro a S
  refine nxA ?_
  refine st_go [1] S rfl (by kernel_rfl) ?_; clear S a; intro a S
  refine st_y S rfl rfl rfl (y_loadAgg (cs := [_, _, _]) S (by kernel_rfl) rfl rfl (M.cellsAt (k := 3) 0 rfl rfl)) ?_; clear S a; intro a S
  refine st_call (xs := [(Operand.tmp 4)]) S (enters_of Try.func34 (by decide) rfl) rfl rfl rfl (named_any x.name _) ?_
  rintro _ w2 ⟨rfl, hK⟩; refine ⟨_, rfl, ?_⟩; clear S a; intro a S; replace M := M.grow hK
  refine st_go [1] S rfl (by kernel_rfl) ?_; clear S a; intro a S
  refine st_tils (t := 6) S rfl ?_ ?_
  · clear S; intro h6 S
    refine st_go [0, 0, 0, 1, 1] S rfl (by kernel_rfl) ?_; clear S a; intro a S
    refine nxC ?_
    refine wp_ret ?_
    refine end_one S rfl (res_tmp rfl) ?_
    refine ⟨ret_bool ?_, M.below⟩; clear S M; unfold Lk.may; simp [*]
  clear S; intro h6 S
  refine st_run [4, 1] S M rfl (by kernel_rfl) ?_; clear S a; intro a S
  refine st_call (xs := [(Operand.tmp 8)]) S (enters_of Try.func35 (by decide) rfl) rfl rfl rfl (known_any x.block _) ?_
  rintro _ w3 ⟨rfl, hK⟩; refine ⟨_, rfl, ?_⟩; clear S a; intro a S; replace M := M.grow hK
  refine st_go [1, 1] S rfl (by kernel_rfl) ?_; clear S a; intro a S
  refine nxC ?_
  refine wp_ret ?_
  refine end_one S rfl (res_tmp rfl) ?_
  refine ⟨ret_bool ?_, M.below⟩; clear S M; unfold Lk.may; simp [*]
theorem conf_any (x y : Lk) (w : World) : Calls Try.prog 41 #[.agg x.cellsL.toArray, .agg y.cellsL.toArray] w fun e w' => e = .returned (.bool (conf x y)) ∧ Below w.heap.size w w' := by
  have M := Mem.start w
  refine calls_enter Try.func41 rfl 25 rfl rfl ?_; intro a S
  refine nxD ?_
  refine st_box S M rfl rfl rfl #[_, _, _, _, _] rfl ?_; clear S M a; intro a w1 bX S M hB
  refine st_box S M rfl rfl rfl #[_, _, _, _, _] rfl ?_; clear S M a; intro a w2 bY S M hB
  refine st_go [1] S rfl (by kernel_rfl) ?_; clear S a; intro a S
  refine nxA ?_
  refine st_run [4, 2, 4, 1, 1, 1] S M rfl (by kernel_rfl) ?_; clear S a; intro a S
  refine st_tils (t := 10) S rfl ?_ ?_
  · clear S; intro h10 S
    refine st_go [0, 0, 0, 0, 0, 1, 1, 0, 0, 0, 0, 0, 0, 1, 1] S rfl (by kernel_rfl) ?_; clear S a; intro a S
    replace S := S.sub [(0, _), (1, _), (2, _), (3, _), (4, _)] rfl
    refine nxC ?_
    refine wp_ret ?_
    refine end_one S rfl (res_tmp rfl) ?_
    refine ⟨ret_bool ?_, M.below⟩; clear S M; unfold conf; simp_all
  clear S; intro h10 S
  refine st_go [1] S rfl (by kernel_rfl) ?_; clear S a; intro a S
  refine st_y S rfl rfl rfl (y_loadAgg (cs := [_, _, _]) S (by kernel_rfl) rfl rfl (M.cellsAt (k := 3) 1 rfl rfl)) ?_; clear S a; intro a S
  refine st_go [1] S rfl (by kernel_rfl) ?_; clear S a; intro a S
  refine st_y S rfl rfl rfl (y_loadAgg (cs := [_, _, _]) S (by kernel_rfl) rfl rfl (M.cellsAt (k := 3) 0 rfl rfl)) ?_; clear S a; intro a S
  refine st_y S rfl rfl rfl (y_neqG (by kernel_rfl) S rfl rfl (fun w => equalNm 9998 x.name y.name w)) ?_; clear S a; intro a S
  refine st_go [1, 1] S rfl (by kernel_rfl) ?_; clear S a; intro a S
  refine st_tils (t := 17) S rfl ?_ ?_
  · clear S; intro h17 S
    refine st_go [0, 0, 0, 0, 0, 0, 1, 1] S rfl (by kernel_rfl) ?_; clear S a; intro a S
    replace S := S.sub [(0, _), (1, _), (2, _), (3, _), (4, _)] rfl
    refine nxC ?_
    refine wp_ret ?_
    refine end_one S rfl (res_tmp rfl) ?_
    refine ⟨ret_bool ?_, M.below⟩; clear S M; unfold conf; simp_all
  clear S; intro h17 S
  refine st_run [5, 2, 1] S M rfl (by kernel_rfl) ?_; clear S a; intro a S
  refine st_split (t := 20) S rfl ?_ ?_
  · clear S; intro h20 S
    refine st_go [0, 0, 1, 1, 1] S rfl (by kernel_rfl) ?_; clear S a; intro a S
    replace S := S.sub [(0, _), (1, _), (2, _), (3, _), (4, _)] rfl
    refine nxC ?_
    refine wp_ret ?_
    refine end_one S rfl (res_tmp rfl) ?_
    refine ⟨ret_bool ?_, M.below⟩; clear S M; unfold conf; simp_all
  clear S; intro h20 S
  refine st_run [5, 1, 1, 1, 1] S M rfl (by kernel_rfl) ?_; clear S a; intro a S
  replace S := S.sub [(0, _), (1, _), (2, _), (3, _), (4, _)] rfl
  refine nxC ?_
  refine wp_ret ?_
  refine end_one S rfl (res_tmp rfl) ?_
  refine ⟨ret_bool ?_, M.below⟩; clear S M; unfold conf; simp_all
/-- how a name holds a block -/
def holdsV (l : List Lk) (p : Pl) : Int := l.foldl (fun a x => if x.pl = p then max a x.mode else a) 0

end Go.Proofs.Ytcbofgcmfkcglaa
