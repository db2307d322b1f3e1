/-
  What SessionOnce rests on, part 2.
-/
import Derived.Test.YtniijiipkfhjgaaP1
namespace Go.Proofs.Ytniijiipkfhjgaa
open Go.RowKit Go.Sort
theorem Try.cellsByte : Try.prog.cellsOf 5 = 1 := by kernel_rfl
theorem Try.hasInfoByte : (Try.prog.info? 5).isSome = true := by kernel_rfl
abbrev V8.cells (a : V8) : Array Value := #[.int .u8 (a.v0.toNat : Int), .int .u8 (a.v1.toNat : Int), .int .u8 (a.v2.toNat : Int), .int .u8 (a.v3.toNat : Int), .int .u8 (a.v4.toNat : Int), .int .u8 (a.v5.toNat : Int), .int .u8 (a.v6.toNat : Int), .int .u8 (a.v7.toNat : Int)]
abbrev Wr.cells (a : Wr) : Array Value := #[.int .i64 a.block, .int .u8 (a.val.v0.toNat : Int), .int .u8 (a.val.v1.toNat : Int), .int .u8 (a.val.v2.toNat : Int), .int .u8 (a.val.v3.toNat : Int), .int .u8 (a.val.v4.toNat : Int), .int .u8 (a.val.v5.toNat : Int), .int .u8 (a.val.v6.toNat : Int), .int .u8 (a.val.v7.toNat : Int)]
theorem equalV8 (d : Nat) (a b : V8) (w : World) : (Op.equalIn (d + 2) 42 (.agg a.cells) (.agg b.cells)).run Try.prog w = .ok (a.eqb b) w := by
  obtain ⟨i, hi⟩ := Option.isSome_iff_exists.1 Try.hasInfoByte
  rw [run_equalIn_array w (d + 1) _ _ Try.underlying42 hi, Try.cellsByte]
  simp only [List.range, List.range.loop, Op.eqItems, part, isAgg, Sem.run_bind, run_underlying Try.underlying5, Result.andThen_ok]
  simp [run_equalIn_int w d 5 .u8 .u8 _ _ Try.underlying5, V8.eqb]
  (repeat' split) <;> simp_all
theorem equalNm (d : Nat) (a b : Nm) (w : World) : (Op.equalIn (d + 2) 40 (.agg a.cells) (.agg b.cells)).run Try.prog w = .ok (a.eqb b) w := by
  simp [go_sem, Nm.eqb]
  (repeat' split) <;> simp_all
theorem equalWr (d : Nat) (a b : Wr) (w : World) : (Op.equalIn (d + 3) 122 (.agg a.cells) (.agg b.cells)).run Try.prog w = .ok (a.eqb b) w := by
  have h := equalV8 d a.val b.val w
  simp only [V8.cells] at h
  simp [go_sem, h, Wr.eqb]
  (repeat' split) <;> simp_all
end Go.Proofs.Ytniijiipkfhjgaa

namespace Go.Proofs.Ytniijiipkfhjgaa
open Go.RowKit Go.Sort
variable {ds : List Deferred}
variable {P : Program} {n : Nat} {a : Act} {L : List (Nat × Value)} {w : World}
theorem y_eqlG {x y : Operand} {A B : Array Value} {r : Bool} {xt : TypeId} (hG : P.eqGuardType P.depth xt = false) (S : SeesD ds n a L) (hx : val L x = some (.agg A)) (hy : val L y = some (.agg B)) (hE : ∀ w, (Op.equalIn 10000 xt (.agg A) (.agg B)).run P w = .ok r w) {d : Option Tmp} {yt t : TypeId} {p : String} {e : Array Edge} {g : Option (Nat × Bool)} :
    Yields P a ⟨d, .binOp .eql xt x y yt, t, p, e, g⟩ w (.bool r) := by
  unfold Yields execOp; simp only [S.eval hx, S.eval hy, eqGuard, Sem.run_bind]
  simp [hG, hE w, go_sem]
theorem y_neqG {x y : Operand} {A B : Array Value} {r : Bool} {xt : TypeId} (hG : P.eqGuardType P.depth xt = false) (S : SeesD ds n a L) (hx : val L x = some (.agg A)) (hy : val L y = some (.agg B)) (hE : ∀ w, (Op.equalIn 10000 xt (.agg A) (.agg B)).run P w = .ok r w) {d : Option Tmp} {yt t : TypeId} {p : String} {e : Array Edge} {g : Option (Nat × Bool)} :
    Yields P a ⟨d, .binOp .neq xt x y yt, t, p, e, g⟩ w (.bool (!r)) := by
  unfold Yields execOp; simp only [S.eval hx, S.eval hy, eqGuard, Sem.run_bind]
  simp [hG, hE w, go_sem]
end Go.Proofs.Ytniijiipkfhjgaa

namespace Go.Proofs.Ytniijiipkfhjgaa
open Go.RowKit Go.Sort
theorem nameq_any (o : Ope) (b : Nat) (n : Nm) (w : World) (hb : Blk w b (nmL n).toArray 40) : Calls Try.prog 52 #[.agg o.cellsL.toArray, .pointer (some ⟨b, 0, none⟩)] w fun e w' => e = .returned (.bool (o.nm.stamp == n.stamp)) ∧ Below w.heap.size w w' := by
  have M := Mem.start w
  refine calls_enter Try.func52 rfl 10 rfl rfl ?_; intro a S
  refine nxD ?_
  refine st_box S M rfl rfl rfl #[_, _, _, _, _, _, _, _, _, _, _, _, _, _, _, _, _, _, _, _, _, _, _, _, _, _, _, _, _, _, _, _, _, _, _, _, _] rfl ?_; clear S M a; intro a w1 b1 S M hB
  refine st_go [1] S rfl (by kernel_rfl) ?_; clear S a; intro a S
  refine nxA ?_
  refine st_run [3, 1, 1, 1] S M rfl (by kernel_rfl) ?_; clear S a; intro a S
  refine st_y S rfl rfl rfl (y_load S (by kernel_rfl) rfl ((hb.ext M.below).cells 0)) ?_; clear S a; intro a S
  refine st_go [1, 1] S rfl (by kernel_rfl) ?_; clear S a; intro a S
  refine nxC ?_
  refine wp_ret ?_
  refine end_one S rfl (res_tmp rfl) ?_
  refine ⟨ret_bool ?_, M.below⟩; clear S M; first | rfl | (rw [Bool.eq_iff_iff]; simp)
theorem placeq_any (o : Ope) (b : Nat) (n : Nm) (w : World) (hb : Blk w b (nmL n).toArray 40) : Calls Try.prog 46 #[.agg o.cellsL.toArray, .pointer (some ⟨b, 0, none⟩)] w fun e w' => e = .returned (.bool (o.nm.eqb n)) ∧ Below w.heap.size w w' := by
  have M := Mem.start w
  refine calls_enter Try.func46 rfl 8 rfl rfl ?_; intro a S
  refine nxD ?_
  refine st_box S M rfl rfl rfl #[_, _, _, _, _, _, _, _, _, _, _, _, _, _, _, _, _, _, _, _, _, _, _, _, _, _, _, _, _, _, _, _, _, _, _, _, _] rfl ?_; clear S M a; intro a w1 b1 S M hB
  refine st_go [1] S rfl (by kernel_rfl) ?_; clear S a; intro a S
  refine nxA ?_
  refine st_go [3] S rfl (by kernel_rfl) ?_; clear S a; intro a S
  refine st_y S rfl rfl rfl (y_loadAgg (cs := [_, _, _]) S (by kernel_rfl) rfl rfl (M.cellsAt (k := 3) 0 rfl rfl)) ?_; clear S a; intro a S
  refine st_y S rfl rfl rfl (y_loadAgg S (by kernel_rfl) rfl rfl (Blk.cellsAt (hb.ext M.below) cutL_all)) ?_; clear S a; intro a S
  refine st_y S rfl rfl rfl (y_eqlG (by kernel_rfl) S rfl rfl (fun w => equalNm 9998 ⟨_, _, _⟩ ⟨_, _, _⟩ w)) ?_; clear S a; intro a S
  refine st_go [1] S rfl (by kernel_rfl) ?_; clear S a; intro a S
  refine nxC ?_
  refine wp_ret ?_
  refine end_one S rfl (res_tmp rfl) ?_
  exact ⟨rfl, M.below⟩
theorem place_any (va : Option Addr) (vc : Nat) (l : List Ope) (last inc : Int) (ov : Value) (n : Nm) (w : World) (hv : Rd 0 w.heap.size w 37 (.slice va l.length vc) l.length (fm Ope.cellsL l)) :
    Calls Try.prog 22 #[.agg #[.slice va l.length vc, .int .i64 last, .int .i64 inc, ov], .agg (nmL n).toArray] w (fun e w' => ∃ j, e = .returned (.int .i64 j) ∧ Below w.heap.size w w' ∧ FirstP l (fun o => o.nm.eqb n) j) := by
  have M := Mem.start w
  refine calls_enter Try.func22 rfl 9 rfl rfl ?_; intro a S
  refine nxD ?_
  refine st_box S M rfl rfl rfl #[_, _, _, _] rfl ?_; clear S M a; intro a w1 b1 S M hB
  refine st_box S M rfl rfl rfl #[_, _, _] rfl ?_; clear S M a; intro a w2 bN S M hB
  refine st_go [1] S rfl (by kernel_rfl) ?_; clear S a; intro a S
  refine nxA ?_
  refine st_run [1, 2] S M rfl (by kernel_rfl) ?_; clear S a; intro a S
  refine st_y S rfl rfl rfl (y_makeFunc (fs := []) (cs := [(Operand.tmp 3)]) S rfl rfl) ?_; clear S a; intro a S
  refine st_call (xs := [(Operand.tmp 6), (Operand.tmp 7)]) S (enters_of Try.func37 (by decide) rfl) rfl rfl rfl (findO_any (fi := []) (ca := [.pointer (some ⟨bN, 0, none⟩)]) (enters_of Try.func46 (by decide) rfl) va vc l (fun o => o.nm.eqb n) _ (M.argW hv) (fun x w' hw => placeq_any x bN n w' ((M.blk 0 rfl).ext hw))) ?_
  rintro _ w3 ⟨j, rfl, hK, hF⟩; refine ⟨_, rfl, ?_⟩; clear S a; intro a S; replace M := M.grow hK
  refine st_go [1] S rfl (by kernel_rfl) ?_; clear S a; intro a S
  refine nxC ?_
  refine wp_ret ?_
  refine end_one S rfl (res_tmp rfl) ?_
  exact ⟨j, rfl, M.below, hF⟩
theorem has_any (va : Option Addr) (vc : Nat) (l : List Ope) (last inc : Int) (ov : Value) (n : Nm) (w : World) (hv : Rd 0 w.heap.size w 37 (.slice va l.length vc) l.length (fm Ope.cellsL l)) (ho : ∃ a m c, ov = .slice a m c) :
    Calls Try.prog 15 #[.agg #[.slice va l.length vc, .int .i64 last, .int .i64 inc, ov], .agg (nmL n).toArray] w (fun e w' => e = .returned (.bool (l.any fun o => o.nm.eqb n)) ∧ Below w.heap.size w w') := by
  have M := Mem.start w
  obtain ⟨oa, om, oc, rfl⟩ := ho
  refine calls_enter Try.func15 rfl 9 rfl rfl ?_; intro a S
  refine nxD ?_
  refine st_box S M rfl rfl rfl #[_, _, _, _] rfl ?_; clear S M a; intro a w1 b1 S M hB
  refine st_box S M rfl rfl rfl #[_, _, _] rfl ?_; clear S M a; intro a w2 b2 S M hB
  refine st_go [1] S rfl (by kernel_rfl) ?_; clear S a; intro a S
  refine nxA ?_
  refine st_y S rfl rfl rfl (y_loadAgg (cs := [_, _, _, _]) S (by kernel_rfl) rfl rfl (M.cellsAt (k := 4) 1 rfl rfl)) ?_; clear S a; intro a S
  refine st_y S rfl rfl rfl (y_loadAgg (cs := [_, _, _]) S (by kernel_rfl) rfl rfl (M.cellsAt (k := 3) 0 rfl rfl)) ?_; clear S a; intro a S
  refine st_call (xs := [(Operand.tmp 5), (Operand.tmp 6)]) S (enters_of Try.func22 (by decide) rfl) rfl rfl rfl (place_any va vc l last inc (.slice oa om oc) n _ (M.argW hv)) ?_
  rintro _ w3 ⟨j, rfl, hK, hF⟩; refine ⟨_, rfl, ?_⟩; clear S a; intro a S; replace M := M.grow hK
  refine st_go [1, 1] S rfl (by kernel_rfl) ?_; clear S a; intro a S
  refine nxC ?_
  refine wp_ret ?_
  refine end_one S rfl (res_tmp rfl) ?_
  refine ⟨ret_bool ?_, M.below⟩; clear S M
  rcases hF with ⟨k, q, rfl, hq, hp, -⟩ | ⟨rfl, h⟩
  · rw [List.any_eq_true.2 ⟨q, List.mem_of_getElem? hq, hp⟩]; simp
  · rw [show (l.any fun o => o.nm.eqb n) = false by rw [List.any_eq_false]; intro q hq; have h3 := h q hq; simp only at h3; rw [h3]; simp]; simp
def Ope.kind (o : Ope) : Int := if o.ph ≠ 1 then 3 else if o.ex.op = 0 then 1 else 2
theorem kind_any (o : Ope) (w : World) : Calls Try.prog 27 #[.agg o.cellsL.toArray] w fun e w' => e = .returned (.int .i8 o.kind) ∧ Below w.heap.size w w' := by
  have M := Mem.start w
  refine calls_enter Try.func27 rfl 12 rfl rfl ?_; intro a S
  refine nxD ?_
  refine st_box S M rfl rfl rfl #[_, _, _, _, _, _, _, _, _, _, _, _, _, _, _, _, _, _, _, _, _, _, _, _, _, _, _, _, _, _, _, _, _, _, _, _, _] rfl ?_; clear S M a; intro a w1 b1 S M hB
  refine st_go [1] S rfl (by kernel_rfl) ?_; clear S a; intro a S
  refine nxC ?_
  refine wp_seq ?_
  refine wp_block ?_
  refine nxD ?_
  refine st_run [6, 1, 1, 1] S M rfl (by kernel_rfl) ?_; clear S a; intro a S
  refine nxC ?_
  refine st_if (t := 3) S rfl ?_ ?_
  · clear S; intro h3 S
    refine st_condT S rfl ?_
    refine nxD ?_
    refine st_go [1] S rfl (by kernel_rfl) ?_; clear S a; intro a S
    refine nxC ?_
    refine wp_ret ?_
    refine block_ret ?_
    refine then_ret ?_
    refine end_one S rfl (res_tmp rfl) ?_
    exact ⟨by unfold Ope.kind; rw [if_pos (by omega)], M.below⟩
  clear S; intro h3 S
  refine st_condF S rfl ?_
  refine nxD ?_
  refine st_run [14, 10, 1, 1, 1] S M rfl (by kernel_rfl) ?_; clear S a; intro a S
  refine nxC ?_
  refine st_if (t := 7) S rfl ?_ ?_
  · clear S; intro h7 S
    refine st_condT S rfl ?_
    refine nxD ?_
    refine st_go [1] S rfl (by kernel_rfl) ?_; clear S a; intro a S
    refine nxC ?_
    refine wp_ret ?_
    refine block_ret ?_
    refine then_ret ?_
    refine end_one S rfl (res_tmp rfl) ?_
    exact ⟨by unfold Ope.kind; rw [if_neg (by omega), if_pos (by omega)], M.below⟩
  clear S; intro h7 S
  refine st_condF S rfl ?_
  refine wp_skip ?_
  refine block_normal ?_
  refine nxE ?_
  refine st_go [1] S rfl (by kernel_rfl) ?_; clear S a; intro a S
  refine nxC ?_
  refine wp_ret ?_
  refine end_one S rfl (res_tmp rfl) ?_
  exact ⟨by unfold Ope.kind; rw [if_neg (by omega), if_neg (by omega)], M.below⟩
def zMg : Msg := ⟨0, 0, 0, 0, 0, ⟨0, 0, 0⟩, 0, 0, 0, zV8, 0, false, 0, 0⟩
def Ope.fast (o : Ope) : Msg := { zMg with kind := 9, to := o.at_, name := o.nm }
theorem fast_any (o : Ope) (w : World) : Calls Try.prog 26 #[.agg o.cellsL.toArray] w fun e w' => e = .returned (.agg (msgL o.fast).toArray) ∧ Below w.heap.size w w' := by
  have M := Mem.start w
  refine calls_enter Try.func26 rfl 8 rfl rfl ?_; intro a S
  refine nxD ?_
  refine st_box S M rfl rfl rfl #[_, _, _, _, _, _, _, _, _, _, _, _, _, _, _, _, _, _, _, _, _, _, _, _, _, _, _, _, _, _, _, _, _, _, _, _, _] rfl ?_; clear S M a; intro a w1 b1 S M hB
  refine st_alloc S M rfl rfl #[.int .i8 0, .int .i64 0, .int .i64 0, .int .i64 0, .int .i64 0, .int .i64 0, .int .i64 0, .int .i64 0, .int .i64 0, .int .i8 0, .int .i64 0, .int .u8 0, .int .u8 0, .int .u8 0, .int .u8 0, .int .u8 0, .int .u8 0, .int .u8 0, .int .u8 0, .int .i64 0, .bool false, .int .i64 0, .int .i64 0, .slice none 0 0] (by kernel_rfl) ?_; clear S M a; intro a w2 b2 S M hB
  refine nxA ?_
  refine st_run [13, 2, 3] S M rfl (by kernel_rfl) ?_; clear S a; intro a S
  refine st_y S rfl rfl rfl (y_loadAgg (cs := [_, _, _]) S (by kernel_rfl) rfl rfl (M.cellsAt (k := 3) 1 rfl rfl)) ?_; clear S a; intro a S
  refine st_y S rfl rfl rfl (y_build (ps := [(0, (Operand.const (Value.int IntKind.i8 9))), (2, (Operand.tmp 4)), (5, (Operand.tmp 6))]) (pl := [(0, 1), (1, 1), (2, 1), (3, 1), (4, 1), (5, 3), (8, 1), (9, 1), (10, 1), (11, 8), (19, 1), (20, 1), (21, 1), (22, 1), (23, 1)]) (z := [.int .i8 0, .int .i64 0, .int .i64 0, .int .i64 0, .int .i64 0, .int .i64 0, .int .i64 0, .int .i64 0, .int .i64 0, .int .i8 0, .int .i64 0, .int .u8 0, .int .u8 0, .int .u8 0, .int .u8 0, .int .u8 0, .int .u8 0, .int .u8 0, .int .u8 0, .int .i64 0, .bool false, .int .i64 0, .int .i64 0, .slice none 0 0]) (cs := [_, _, _, _, _, _, _, _, _, _, _, _, _, _, _, _, _, _, _, _, _, _, _, _]) S (by kernel_rfl) rfl (rfl)) ?_; clear S a; intro a S
  refine st_store (sz := 24) (us := [_, _, _, _, _, _, _, _, _, _, _, _, _, _, _, _, _, _, _, _, _, _, _, _]) S M 0 rfl (by kernel_rfl) rfl rfl rfl rfl rfl rfl (by first | decide | (simp; done) | (simp; omega)) ?_; clear M; intro w3 M
  simp only [putL, List.set_cons_zero, List.set_cons_succ, Nat.reduceAdd] at M
  refine nxC ?_
  refine wp_ret ?_
  refine end_one S rfl (res_agg (cs := [_, _, _, _, _, _, _, _, _, _, _, _, _, _, _, _, _, _, _, _, _, _, _, _]) (by kernel_rfl) rfl rfl (M.cellsAt (k := 24) 0 rfl rfl)) ?_
  exact ⟨rfl, M.below⟩
theorem stripe_any (n : Int) (w : World) : Calls Try.prog 57 #[.int .i64 n] w fun e w' => e = .returned (.tuple #[.int .i64 (if 0 ≤ n ∧ n < 32 then n / 4 else 0), .int .i64 (if 0 ≤ n ∧ n < 32 then 0 else 230)]) ∧ Below w.heap.size w w' := by
  have M := Mem.start w
  refine calls_enter Try.func57 rfl 12 rfl rfl ?_; intro a S
  refine nxD ?_
  refine st_go [1, 1] S rfl (by kernel_rfl) ?_; clear S a; intro a S
  refine nxC ?_
  refine wp_seq ?_
  refine nxD ?_
  refine st_go [1, 1, 1] S rfl (by kernel_rfl) ?_; clear S a; intro a S
  refine st_if (t := 6) S rfl ?_ ?_
  · clear S; intro h6 S
    refine st_go [0, 0, 1] S rfl (by kernel_rfl) ?_; clear S a; intro a S
    refine nxC ?_
    refine st_condT S rfl ?_
    refine nxD ?_
    refine st_go [1, 1] S rfl (by kernel_rfl) ?_; clear S a; intro a S
    refine nxC ?_
    refine wp_ret ?_
    refine then_ret ?_
    refine end_two S rfl (res_tmp rfl) (res_tmp rfl) ?_
    exact ⟨by rw [if_neg (by omega), if_neg (by omega)], M.below⟩
  clear S; intro h6 S
  refine st_go [1, 1, 1] S rfl (by kernel_rfl) ?_; clear S a; intro a S
  refine nxC ?_
  refine st_if (t := 9) S rfl ?_ ?_
  · clear S; intro h9 S
    refine st_condT S rfl ?_
    refine nxD ?_
    refine st_go [1, 1] S rfl (by kernel_rfl) ?_; clear S a; intro a S
    refine nxC ?_
    refine wp_ret ?_
    refine then_ret ?_
    refine end_two S rfl (res_tmp rfl) (res_tmp rfl) ?_
    exact ⟨by rw [if_neg (by omega), if_neg (by omega)], M.below⟩
  clear S; intro h9 S
  refine st_condF S rfl ?_
  refine wp_skip ?_
  refine nxE ?_
  refine st_go [1] S rfl (by kernel_rfl) ?_; clear S a; intro a S
  refine st_y S rfl rfl rfl (y_quoN S rfl rfl (by omega)) ?_; clear S a; intro a S
  refine st_go [1, 1] S rfl (by kernel_rfl) ?_; clear S a; intro a S
  refine nxC ?_
  refine wp_ret ?_
  refine end_two S rfl (res_tmp rfl) (res_tmp rfl) ?_
  exact ⟨by rw [if_pos (by omega), if_pos (by omega)], M.below⟩
theorem shardIs_any (n : Int) (w : World) : Calls Try.prog 58 #[.int .i64 n] w fun e w' => e = .returned (.bool (decide (1 ≤ n ∧ n ≤ 4))) ∧ Below w.heap.size w w' := by
  have M := Mem.start w
  refine calls_enter Try.func58 rfl 9 rfl rfl ?_; intro a S
  refine nxD ?_
  refine st_go [1] S rfl (by kernel_rfl) ?_; clear S a; intro a S
  refine nxA ?_
  refine st_go [1, 1, 1] S rfl (by kernel_rfl) ?_; clear S a; intro a S
  refine st_if (t := 5) S rfl ?_ ?_
  · clear S; intro h5 S
    refine st_go [1, 1, 1, 1] S rfl (by kernel_rfl) ?_; clear S a; intro a S
    refine nxC ?_
    refine wp_ret ?_
    refine end_one S rfl (res_tmp rfl) ?_
    refine ⟨ret_bool ?_, M.below⟩; clear S M; rw [Bool.eq_iff_iff]; simp only [decide_eq_true_eq]; first | omega | (simp; omega)
  clear S; intro h5 S
  refine st_go [0, 0, 1, 1] S rfl (by kernel_rfl) ?_; clear S a; intro a S
  refine nxC ?_
  refine wp_ret ?_
  refine end_one S rfl (res_tmp rfl) ?_
  refine ⟨ret_bool ?_, M.below⟩; clear S M; rw [Bool.eq_iff_iff]; simp only [decide_eq_true_eq]; first | omega | (simp; omega)
/-- the shard of a block: its number, the error -/
def shardV (of : Of8) (n : Int) : Int := if 0 ≤ n ∧ n < 32 ∧ 1 ≤ of.get (n / 4).toNat ∧ of.get (n / 4).toNat ≤ 4 then of.get (n / 4).toNat else 0
def shardE (of : Of8) (n : Int) : Int := if 0 ≤ n ∧ n < 32 then (if 1 ≤ of.get (n / 4).toNat ∧ of.get (n / 4).toNat ≤ 4 then 0 else 4) else 230
theorem shard_any (of : Of8) (n : Int) (w : World) : Calls Try.prog 53 #[.agg of.cellsL.toArray, .int .i64 n] w fun e w' => e = .returned (.tuple #[.int .i64 (shardV of n), .int .i64 (shardE of n)]) ∧ Below w.heap.size w w' := by
  have M := Mem.start w
  refine calls_enter Try.func53 rfl 24 rfl rfl ?_; intro a S
  refine nxD ?_
  refine st_box S M rfl rfl rfl #[_, _, _, _, _, _, _, _] rfl ?_; clear S M a; intro a w1 bO S M hB
  refine st_go [1, 1] S rfl (by kernel_rfl) ?_; clear S a; intro a S
  refine nxA ?_
  refine st_go [1] S rfl (by kernel_rfl) ?_; clear S a; intro a S
  refine st_call (xs := [(Operand.tmp 9)]) S (enters_of Try.func57 (by decide) rfl) rfl rfl rfl (stripe_any n _) ?_
  rintro _ w2 ⟨rfl, hK⟩; refine ⟨_, rfl, ?_⟩; clear S a; intro a S; replace M := M.grow hK
  refine st_go [1, 1, 1, 1, 1] S rfl (by kernel_rfl) ?_; clear S a; intro a S
  refine nxC ?_
  refine wp_seq ?_
  refine nxD ?_
  refine st_go [1, 1] S rfl (by kernel_rfl) ?_; clear S a; intro a S
  refine nxC ?_
  refine st_if (t := 14) S rfl ?_ ?_
  · clear S; intro h14 S
    refine st_condT S rfl ?_
    refine nxD ?_
    refine st_go [1, 1, 1] S rfl (by kernel_rfl) ?_; clear S a; intro a S
    refine nxC ?_
    refine wp_ret ?_
    refine then_ret ?_
    refine end_two S rfl (res_tmp rfl) (res_tmp rfl) ?_
    have hno : ¬ (0 ≤ n ∧ n < 32) := fun h => h14 (if_pos h)
    refine ⟨?_, M.below⟩
    unfold shardV shardE
    have hno2 : ¬ (0 ≤ n ∧ n < 32 ∧ 1 ≤ of.get (n / 4).toNat ∧ of.get (n / 4).toNat ≤ 4) := fun h => hno ⟨h.1, h.2.1⟩
    simp only [if_neg hno, if_neg hno2]
  clear S; intro h14 S
  refine st_condF S rfl ?_
  refine wp_skip ?_
  refine then_normal ?_
  refine wp_seq ?_
  refine wp_seq ?_
  have hin : 0 ≤ n ∧ n < 32 := by
    by_cases h : 0 ≤ n ∧ n < 32
    · exact h
    · rw [if_neg h] at h14; omega
  obtain ⟨k, hk, hk8⟩ : ∃ k : Nat, n / 4 = (k : Int) ∧ k < 8 := ⟨(n / 4).toNat, by omega, by omega⟩
  have hkn : (n / 4).toNat = k := by omega
  simp only [if_pos hin, hk] at S
  refine wp_region_lit ?_
  refine st_go [1] S rfl (by kernel_rfl) ?_; clear S a; intro a S
  refine st_y S rfl rfl rfl (y_indexA (m := 8) (sz := 1) S (by kernel_rfl) rfl rfl (by first | omega | (simp; done) | (simp; omega))) ?_; clear S a; intro a S
  try simp only [Int.toNat_natCast, Nat.mul_one, Nat.zero_add] at S
  refine st_y S rfl rfl rfl (y_load S (by kernel_rfl) rfl (M.cell 0 rfl (of.at hk8))) ?_; clear S a; intro a S
  refine st_call (xs := [(Operand.tmp 18)]) S (enters_of Try.func58 (by decide) rfl) rfl rfl rfl (shardIs_any _ _) ?_
  rintro _ w3 ⟨rfl, hK⟩; refine ⟨_, rfl, ?_⟩; clear S a; intro a S; replace M := M.grow hK
  refine st_go [1] S rfl (by kernel_rfl) ?_; clear S a; intro a S
  refine nxC ?_
  refine st_if (t := 20) S rfl ?_ ?_
  · clear S; intro h20 S
    refine st_condT S rfl ?_
    refine nxD ?_
    refine st_go [1, 1] S rfl (by kernel_rfl) ?_; clear S a; intro a S
    refine nxC ?_
    refine wp_ret ?_
    refine then_ret ?_
    refine end_two S rfl (res_tmp rfl) (res_tmp rfl) ?_
    refine ⟨?_, M.below⟩
    unfold shardV shardE
    rw [hkn, if_neg (by omega), if_pos hin, if_neg (by omega)]
  clear S; intro h20 S
  refine st_condF S rfl ?_
  refine wp_skip ?_
  refine nxE ?_
  refine st_go [1] S rfl (by kernel_rfl) ?_; clear S a; intro a S
  refine st_y S rfl rfl rfl (y_indexA (m := 8) (sz := 1) S (by kernel_rfl) rfl rfl (by first | omega | (simp; done) | (simp; omega))) ?_; clear S a; intro a S
  try simp only [Int.toNat_natCast, Nat.mul_one, Nat.zero_add] at S
  refine st_y S rfl rfl rfl (y_load S (by kernel_rfl) rfl (M.cell 0 rfl (of.at hk8))) ?_; clear S a; intro a S
  refine st_go [1, 1] S rfl (by kernel_rfl) ?_; clear S a; intro a S
  replace S := S.sub [(0, _), (1, _), (2, _), (6, _), (7, _), (14, _), (20, _), (4, _), (5, _)] rfl
  refine nxC ?_
  refine wp_ret ?_
  refine end_two S rfl (res_tmp rfl) (res_tmp rfl) ?_
  refine ⟨?_, M.below⟩
  unfold shardV shardE
  rw [hkn, if_pos (by omega), if_pos hin, if_pos (by omega)]
end Go.Proofs.Ytniijiipkfhjgaa

namespace Go.Proofs.Ytniijiipkfhjgaa
open Go.RowKit Go.Sort
abbrev V8.cellsL (x : V8) : List Value := [.int .u8 (x.v0.toNat : Int), .int .u8 (x.v1.toNat : Int), .int .u8 (x.v2.toNat : Int), .int .u8 (x.v3.toNat : Int), .int .u8 (x.v4.toNat : Int), .int .u8 (x.v5.toNat : Int), .int .u8 (x.v6.toNat : Int), .int .u8 (x.v7.toNat : Int)]
abbrev Wr.cellsL (x : Wr) : List Value := .int .i64 x.block :: x.val.cellsL
def wcells (ws : List Wr) : List Value := ws.flatMap Wr.cellsL
theorem wcells_get : ∀ {ws : List Wr} {i : Nat} {x : Wr}, ws[i]? = some x → ((wcells ws).drop (i * 9)).take 9 = x.cellsL
  | [], i, x, h => by simp at h
  | y :: ws, 0, x, h => by
    obtain rfl : y = x := by simpa using h
    simp [wcells]
  | y :: ws, i + 1, x, h => by
    have := wcells_get (ws := ws) (i := i) (x := x) (by simpa using h)
    rw [← this, wcells, List.flatMap_cons, show (i + 1) * 9 = y.cellsL.length + i * 9 by simp; omega, ← List.drop_drop, List.drop_left]
    rfl
/-- the slice v reads as these writes -/
abbrev Ws (lo hi : Nat) (w : World) (v : Value) (ws : List Wr) : Prop := Rd lo hi w 9 v ws.length (wcells ws)
end Go.Proofs.Ytniijiipkfhjgaa

namespace Go.Proofs.Ytniijiipkfhjgaa
open Go.RowKit Go.Sort
def withinB (n m : Int) : Bool := decide (1 ≤ n ∧ n ≤ m)
def Nm.named (n : Nm) : Bool := withinB n.stamp 1048576 && withinB n.inc 1048576 && withinB n.try_ 1048576
def bitsB (n : Int) : Bool := decide (0 ≤ n ∧ n < 256)
def changedB (s t : Int) : Bool := decide ((s = -1 ∧ t = 0) ∨ (0 ≤ s ∧ s < 8 ∧ 1 ≤ t ∧ t ≤ 4))
def shardsB (n : Int) : Bool := decide (0 < n ∧ n < 32 ∧ n % 2 = 0)
def andV (x y : Int) : Int := IntKind.i64.wrap (BitVec.ofInt IntKind.i64.bits x &&& BitVec.ofInt IntKind.i64.bits y).toNat
def andNotV (x y : Int) : Int := IntKind.i64.wrap (BitVec.ofInt IntKind.i64.bits x &&& ~~~BitVec.ofInt IntKind.i64.bits y).toNat
/-- writes rise, from last on, and their blocks are blocks -/
def risingB (last : Int) : List Wr → Bool
  | [] => true
  | w :: r => decide (last < w.block ∧ w.block < 32) && risingB w.block r
def writtenB (ws : List Wr) : Bool := decide (ws.length ≤ 8) && risingB (-1) ws
def Rc.same (a b : Rc) (x y : List Wr) : Bool :=
  a.kind == b.kind && a.name.eqb b.name && a.yes == b.yes && eqWs x y && a.give == b.give && a.take == b.take && a.shards == b.shards && (a.cs == b.cs && a.ct == b.ct) && a.n == b.n
theorem Rc.same_iff {a b : Rc} {x y : List Wr} : a.same b x y = true ↔ a = b ∧ x = y := by
  cases a; cases b
  simp [Rc.same, Nm.eqb_iff, eqWs_iff]
  constructor
  · rintro ⟨⟨⟨⟨⟨⟨⟨⟨h1, h2⟩, h3⟩, h4⟩, h5⟩, h6⟩, h7⟩, h8, h9⟩, h10⟩
    exact ⟨⟨h1, h2, h3, h5, h6, h7, h8, h9, h10⟩, h4⟩
  · rintro ⟨⟨h1, h2, h3, h5, h6, h7, h8, h9, h10⟩, h4⟩
    exact ⟨⟨⟨⟨⟨⟨⟨⟨h1, h2⟩, h3⟩, h4⟩, h5⟩, h6⟩, h7⟩, h8, h9⟩, h10⟩
def Nm.zero : Nm := ⟨0, 0, 0⟩
def Rc.zero : Rc := ⟨0, ⟨0, 0, 0⟩, false, 0, 0, 0, 0, 0, 0⟩
/-- are the fields of a record's kind such as they may be? -/
def Rc.ok (r : Rc) (x : List Wr) : Bool :=
  if r.kind = 1 then r.name.named && writtenB x
  else if r.kind = 2 then r.name.named && writtenB x && bitsB r.give && bitsB r.take && andV r.give r.take == 0
  else if r.kind = 3 then r.name.named
  else if r.kind = 4 then r.name.named && shardsB r.shards && changedB r.cs r.ct
  else if r.kind = 5 then r.name.named
  else if r.kind = 6 then withinB r.n 1048577
  else withinB r.n 1048576
/-- what a record's kind does not name -/
def Rc.rest (r : Rc) : Rc :=
  if r.kind = 1 then { r with name := ⟨0, 0, 0⟩ }
  else if r.kind = 2 then { r with name := ⟨0, 0, 0⟩, give := 0, take := 0 }
  else if r.kind = 3 then { r with name := ⟨0, 0, 0⟩, yes := false }
  else if r.kind = 4 then { r with name := ⟨0, 0, 0⟩, shards := 0, cs := 0, ct := 0 }
  else if r.kind = 5 then { r with name := ⟨0, 0, 0⟩ }
  else { r with n := 0 }
/-- may a record be? -/
def Rc.may (r : Rc) (x : List Wr) : Bool :=
  if 1 ≤ r.kind ∧ r.kind ≤ 7 then r.ok x && r.rest.same ⟨r.kind, ⟨0, 0, 0⟩, false, 0, 0, 0, 0, 0, 0⟩ (if r.kind = 1 ∨ r.kind = 2 then [] else x) [] else false
theorem kinds {r : Rc} {x : List Wr} (h : r.may x = true) : r.kind = 1 ∨ r.kind = 2 ∨ r.kind = 3 ∨ r.kind = 4 ∨ r.kind = 5 ∨ r.kind = 6 ∨ r.kind = 7 := by
  unfold Rc.may at h
  split at h
  · omega
  · cases h
end Go.Proofs.Ytniijiipkfhjgaa

namespace Go.Proofs.Ytniijiipkfhjgaa
open Go.RowKit Go.Sort
/-- is a shard's bit set? -/
def hasBit (sh : Int) (k : Nat) : Bool := andV sh (1 * (2 : Int) ^ k) != 0
def decM (o : Ope) (k : Nat) : Msg := { zMg with kind := 6, to := k, name := o.nm }
/-- the mail of a refusal, to the shards from 1 to k -/
def refuseP (o : Ope) (but : Int) : Nat → List Msg
  | 0 => []
  | k + 1 => refuseP o but k ++ (if hasBit o.sh (k + 1) = true ∧ ((k + 1 : Nat) : Int) ≠ but then [decM o (k + 1)] else [])
theorem refuseP_len (o : Ope) (but : Int) : ∀ k, (refuseP o but k).length ≤ k
  | 0 => Nat.le_refl _
  | k + 1 => by
    have := refuseP_len o but k
    rw [refuseP, List.length_append]; split <;> simp <;> omega
abbrev Dsk.mails (D : Dsk) (l : List Msg) : Dsk := { D with t := { D.t with mail := D.t.mail ++ l } }
theorem shl_bd {c : Nat} (h : c < 8) : -9223372036854775808 ≤ 1 * (2 : Int) ^ c ∧ 1 * (2 : Int) ^ c ≤ 9223372036854775807 := by
  have : c = 0 ∨ c = 1 ∨ c = 2 ∨ c = 3 ∨ c = 4 ∨ c = 5 ∨ c = 6 ∨ c = 7 := by omega
  rcases this with rfl | rfl | rfl | rfl | rfl | rfl | rfl | rfl <;> decide
/-- mail was put behind -/
theorem Dsk.closeM {wc w : World} {A : List Ent} {b : Nat} {D : Dsk} {x : Msg} (rl ro ra rs rc re : Rw) (aA : Option Addr) (cA loA hiA : Nat)
    (M : Mem wc w (.blk b #[rl.v D.s.l.length, .int .i64 D.s.last, .int .i64 D.s.inc, ro.v D.s.over.length, .slice aA (D.t.mail.length + 1) cA, ra.v D.t.ans.length, rs.v D.t.seen.length, rc.v D.t.com.length, re.v D.t.ends.length, .int .i64 D.of.o0, .int .i64 D.of.o1, .int .i64 D.of.o2, .int .i64 D.of.o3, .int .i64 D.of.o4, .int .i64 D.of.o5, .int .i64 D.of.o6, .int .i64 D.of.o7] 79 :: rl.ent 65 37 D.s.l.length (fm Ope.cellsL D.s.l) :: ro.ent 91 5 D.s.over.length (fm End_.cellsL D.s.over) :: rowE loA hiA 45 24 (.slice aA (D.t.mail.length + 1) cA) (D.t.mail.length + 1) (fm msgL D.t.mail ++ msgL x) :: ra.ent 69 13 D.t.ans.length (fm Ans.cellsL D.t.ans) :: rs.ent 71 14 D.t.seen.length (fm Seen_.cellsL D.t.seen) :: rc.ent 40 3 D.t.com.length (fm nmL D.t.com) :: re.ent 40 3 D.t.ends.length (fm nmL D.t.ends) :: A)) : ∃ E, DeskR b rl.a rl.c (D.mail x) E ∧ Mem wc w (A ++ E) := by
  refine Dsk.closeR (D := D.mail x) rl ro ⟨aA, cA, loA, hiA⟩ ra rs rc re ?_
  have h1 : (D.mail x).t.mail.length = D.t.mail.length + 1 := by simp
  have h2 : fm msgL (D.mail x).t.mail = fm msgL D.t.mail ++ msgL x := fm_snoc _ _ _
  show Mem wc _ (.blk b [rl.v D.s.l.length, .int .i64 D.s.last, .int .i64 D.s.inc, ro.v D.s.over.length, .slice aA (D.mail x).t.mail.length cA, ra.v D.t.ans.length, rs.v D.t.seen.length, rc.v D.t.com.length, re.v D.t.ends.length, _, _, _, _, _, _, _, _].toArray 79 :: _ :: _ :: rowE loA hiA 45 24 (.slice aA (D.mail x).t.mail.length cA) (D.mail x).t.mail.length (fm msgL (D.mail x).t.mail) :: _)
  rw [h1, h2]
  exact M
theorem mails_nil (D : Dsk) : D.mails [] = D := by cases D with | mk s t of => cases t; simp [Dsk.mails]
theorem mails_snoc (D : Dsk) (l : List Msg) (x : Msg) : D.mails (l ++ [x]) = (D.mails l).mail x := by simp [Dsk.mails, Dsk.mail]
set_option maxHeartbeats 2000000 in
theorem refuse_anyR {wc w : World} {A E : List Ent} {b : Nat} {pa : Option Addr} {pc : Nat} {D : Dsk} (o : Ope) (but : Int) (hE : DeskR b pa pc D E) (M : Mem wc w (A ++ E)) (hs : D.small) :
    Calls Try.prog 25 #[.pointer (some ⟨b, 0, none⟩), .agg o.cellsL.toArray, .int .i64 but] w fun e w' => e = .returned (.tuple #[]) ∧ ∃ E', DeskR b pa pc (D.mails (refuseP o but 4)) E' ∧ Mem wc w' (A ++ E') := by
  have hsm := hs.mail
  refine calls_enter Try.func25 rfl 37 rfl rfl ?_; intro a S
  refine nxD ?_
  refine st_box S M rfl rfl rfl #[_, _, _, _, _, _, _, _, _, _, _, _, _, _, _, _, _, _, _, _, _, _, _, _, _, _, _, _, _, _, _, _, _, _, _, _, _] rfl ?_; clear S M a; intro a w1 bX S M hB
  refine nxA ?_
  refine st_go [1] S rfl (by kernel_rfl) ?_; clear S a; intro a S
  refine nxC ?_
  refine wp_block ?_
  refine wp_loop_g (fun m a w' => ∃ (k : Nat) (E1 : List Ent), k ≤ 4 ∧ m = 4 - k ∧ DeskR b pa pc (D.mails (refuseP o but k)) E1 ∧ Sees 37 a [(0, .pointer (some ⟨b, 0, none⟩)), (2, .int .i64 but), (4, .pointer (some ⟨bX, 0, none⟩)), (6, .int .i64 ((k + 1 : Nat) : Int))] ∧ Mem wc w' ((.blk bX o.cellsL.toArray 65 :: A) ++ E1)) (4) ?_ ?_
  · skip
    exact ⟨0, E, Nat.zero_le _, rfl, by rw [refuseP, mails_nil]; exact hE, S.sub _ rfl, M⟩
  clear S M a; intro m a wl
  rintro ⟨k, E1, hk, rfl, hE1, S, M⟩
  have hpl := refuseP_len o but k
  have hml0 : (D.mails (refuseP o but k)).t.mail.length ≤ 2000 := by
    show (D.t.mail ++ refuseP o but k).length ≤ 2000
    rw [List.length_append]; omega
  obtain ⟨D1, hD1⟩ : ∃ D1, D.mails (refuseP o but k) = D1 := ⟨_, rfl⟩
  rw [hD1] at hml0 hE1
  have hml := hml0
  clear hml0 hE
  obtain ⟨rl, ro, rm, ra, rs, rc, re, rfl, rfl, M1⟩ := Dsk.openR hE1 M
  clear M; have M := M1; clear M1
  refine wp_seq ?_
  refine nxD ?_
  refine st_go [1, 1] S rfl (by kernel_rfl) ?_; clear S a; intro a S
  refine nxC ?_
  refine st_fi (t := 8) S rfl ?_ ?_
  · clear S; intro h8 S
    refine st_condF S rfl ?_
    refine wp_exit ?_
    refine then_exit ?_
    refine then_exit ?_
    refine block_hit ?_
    refine end_noneN S rfl ?_
    obtain rfl : k = 4 := by omega
    obtain ⟨E2, hE2, M2⟩ := Dsk.closeR (D := D1) rl ro rm ra rs rc re M
    rw [hD1]
    exact ⟨rfl, E2, hE2, M2.drop 0⟩
  clear S; intro h8 S
  refine st_condT S rfl ?_
  refine wp_skip ?_
  refine then_normal ?_
  refine wp_seq ?_
  refine wp_block ?_
  refine wp_seq ?_
  refine wp_quiet M (by kernel_rfl) (by kernel_rfl) ?_
  refine qt_y S rfl rfl rfl (fun w M => y_fieldAddr (k := 6) S (by kernel_rfl) rfl) ?_; clear S a; intro a S
  refine qt_y S rfl rfl rfl (fun w M => y_load S (by kernel_rfl) rfl (M.cell 8 rfl rfl)) ?_; clear S a; intro a S
  refine qt_y S rfl rfl rfl (fun w M => y_move S rfl) ?_; clear S a; intro a S
  (first | refine qt_y S rfl rfl rfl (fun w M => y_shlN S rfl rfl (by omega) (by first | exact shl_bd (by omega) | (rw [Int.toNat_natCast]; exact shl_bd (by omega)))) ?_ | refine qt_y S rfl rfl rfl (fun w M => y_shl S rfl rfl (by omega)) ?_); clear S a; intro a S
  refine qt_y S rfl rfl rfl (fun w M => y_int S rfl rfl rfl) ?_; clear S a; intro a S
  refine qt_y S rfl rfl rfl (fun w M => y_int S rfl rfl rfl) ?_; clear S a; intro a S
  refine qt_y S rfl rfl rfl (fun w M => y_move S rfl) ?_; clear S a; intro a S
  refine st_tils (t := 17) S rfl ?_ ?_
  · clear S; intro h17 S
    refine qt_skip 3 S rfl ?_; clear S a; intro a S
    refine qt_y S rfl rfl rfl (fun w M => y_pickF S rfl rfl) ?_; clear S a; intro a S
    refine wpQuiet_nil ?_; clear M; intro w7 M
    refine then_normal ?_
    refine st_condF S rfl ?_
    refine wp_skip ?_
    refine block_normal ?_
    refine nxF ?_
    refine st_go [1] S rfl (by kernel_rfl) ?_; clear S a; intro a S
    (first | refine st_y S rfl rfl rfl (y_addN S rfl rfl (by omega)) ?_ | refine st_y S rfl rfl rfl (y_int S rfl rfl rfl) ?_); clear S a; intro a S
    refine st_go [1] S rfl (by kernel_rfl) ?_; clear S a; intro a S
    refine nxC ?_
    skip
    have hcast : (((k + 1 + 1 : Nat)) : Int) = ((k + 1 : Nat) : Int) + 1 := by omega
    try (rw [Int.toNat_natCast] at h17)
    first
      | (suffices hyes : hasBit o.sh (k + 1) = true ∧ ((k + 1 : Nat) : Int) ≠ but by
           obtain ⟨E2, hE2, M2⟩ := Dsk.closeM (D := D1) (x := decM o (k + 1)) rl ro ra rs rc re aA cA loA hiA ((M.drop 1).perm (List.perm_middle (l₁ := [_, _, _])).symm)
           rw [← hD1, ← mails_snoc] at hE2
           exact ⟨4 - (k + 1), by omega, k + 1, E2, by omega, rfl, by rw [refuseP, if_pos hyes]; exact hE2, by rw [hcast]; exact S.sub _ rfl, M2⟩
         exact ⟨h17, h21⟩)
      | (suffices hno : ¬ (hasBit o.sh (k + 1) = true ∧ ((k + 1 : Nat) : Int) ≠ but) by
           obtain ⟨E2, hE2, M2⟩ := Dsk.closeR (D := D1) rl ro rm ra rs rc re M
           rw [← hD1] at hE2
           exact ⟨4 - (k + 1), by omega, k + 1, E2, by omega, rfl, by rw [refuseP, if_neg hno, List.append_nil]; exact hE2, by rw [hcast]; exact S.sub _ rfl, M2⟩
         first
           | exact fun h => h.2 h21
           | (intro h
              have h9 : hasBit o.sh (k + 1) = false := h17
              rw [h9] at h; exact absurd h.1 (by decide)))
  clear S; intro h17 S
  refine qt_y S rfl rfl rfl (fun w M => y_move S rfl) ?_; clear S a; intro a S
  refine qt_y S rfl rfl rfl (fun w M => y_move S rfl) ?_; clear S a; intro a S
  refine qt_y S rfl rfl rfl (fun w M => y_int S rfl rfl rfl) ?_; clear S a; intro a S
  refine qt_y S rfl rfl rfl (fun w M => y_pickT S rfl rfl) ?_; clear S a; intro a S
  refine wpQuiet_nil ?_; clear M; intro w2 M
  refine then_normal ?_
  refine st_fi (t := 21) S rfl ?_ ?_
  · clear S; intro h21 S
    refine st_condF S rfl ?_
    refine wp_skip ?_
    refine block_normal ?_
    refine nxF ?_
    refine st_go [1] S rfl (by kernel_rfl) ?_; clear S a; intro a S
    (first | refine st_y S rfl rfl rfl (y_addN S rfl rfl (by omega)) ?_ | refine st_y S rfl rfl rfl (y_int S rfl rfl rfl) ?_); clear S a; intro a S
    refine st_go [1] S rfl (by kernel_rfl) ?_; clear S a; intro a S
    replace S := S.sub [(0, _), (2, _), (4, _), (8, _), (21, _), (6, _)] rfl
    refine nxC ?_
    skip
    have hcast : (((k + 1 + 1 : Nat)) : Int) = ((k + 1 : Nat) : Int) + 1 := by omega
    try (rw [Int.toNat_natCast] at h17)
    first
      | (suffices hyes : hasBit o.sh (k + 1) = true ∧ ((k + 1 : Nat) : Int) ≠ but by
           obtain ⟨E2, hE2, M2⟩ := Dsk.closeM (D := D1) (x := decM o (k + 1)) rl ro ra rs rc re aA cA loA hiA ((M.drop 1).perm (List.perm_middle (l₁ := [_, _, _])).symm)
           rw [← hD1, ← mails_snoc] at hE2
           exact ⟨4 - (k + 1), by omega, k + 1, E2, by omega, rfl, by rw [refuseP, if_pos hyes]; exact hE2, by rw [hcast]; exact S.sub _ rfl, M2⟩
         exact ⟨h17, h21⟩)
      | (suffices hno : ¬ (hasBit o.sh (k + 1) = true ∧ ((k + 1 : Nat) : Int) ≠ but) by
           obtain ⟨E2, hE2, M2⟩ := Dsk.closeR (D := D1) rl ro rm ra rs rc re M
           rw [← hD1] at hE2
           exact ⟨4 - (k + 1), by omega, k + 1, E2, by omega, rfl, by rw [refuseP, if_neg hno, List.append_nil]; exact hE2, by rw [hcast]; exact S.sub _ rfl, M2⟩
         first
           | exact fun h => h.2 h21
           | (intro h
              have h9 : hasBit o.sh (k + 1) = false := h17
              rw [h9] at h; exact absurd h.1 (by decide)))
  clear S; intro h21 S
  refine st_condT S rfl ?_
  refine wp_regionK [11, 15] #[false, false, false, false, false, false, false, false, false, false, false, false, false, false, false, false] rfl M (by kernel_rfl) ?_; clear M; intro w3 M
  refine k_pure 0 S rfl (fun w => y_move S rfl) ?_; clear S a; intro a S
  refine k_pure 1 S rfl (fun w => y_move S rfl) ?_; clear S a; intro a S
  refine k_pure 2 S rfl (fun w => y_nilCheck S rfl) ?_; clear S a; intro a S
  refine k_pure 3 S rfl (fun w => y_fieldAddr (k := 4) S (by kernel_rfl) rfl) ?_; clear S a; intro a S
  refine k_pure 4 S rfl (fun w => y_fieldAddr (k := 0) S (by kernel_rfl) rfl) ?_; clear S a; intro a S
  refine k_read 5 S rfl (fun w hW => have M := M.grow hW; y_load S (by kernel_rfl) rfl (M.cell 0 rfl rfl)) ?_; clear S a; intro a S
  refine k_pure 6 S rfl (fun w => y_move S rfl) ?_; clear S a; intro a S
  refine k_pure 7 S rfl (fun w => y_fieldAddr (k := 2) S (by kernel_rfl) rfl) ?_; clear S a; intro a S
  refine k_read 8 S rfl (fun w hW => have M := M.grow hW; y_loadAgg (cs := [_, _, _]) S (by kernel_rfl) rfl rfl (M.cellsAt (k := 3) 8 rfl rfl)) ?_; clear S a; intro a S
  refine k_pure 9 S rfl (fun w => y_build (ps := [(0, (Operand.const (Value.int IntKind.i8 6))), (2, (Operand.tmp 28)), (5, (Operand.tmp 30))]) (pl := [(0, 1), (1, 1), (2, 1), (3, 1), (4, 1), (5, 3), (8, 1), (9, 1), (10, 1), (11, 8), (19, 1), (20, 1), (21, 1), (22, 1), (23, 1)]) (z := [.int .i8 0, .int .i64 0, .int .i64 0, .int .i64 0, .int .i64 0, .int .i64 0, .int .i64 0, .int .i64 0, .int .i64 0, .int .i8 0, .int .i64 0, .int .u8 0, .int .u8 0, .int .u8 0, .int .u8 0, .int .u8 0, .int .u8 0, .int .u8 0, .int .u8 0, .int .i64 0, .bool false, .int .i64 0, .int .i64 0, .slice none 0 0]) (cs := msgL (decM o (k + 1))) S (by kernel_rfl) rfl (by kernel_rfl)) ?_; clear S a; intro a S
  refine k_one 10 rfl (by kernel_rfl) ?_
  refine st_lit (ps := [(0, (Operand.tmp 31))]) (e := 45) (sz := 24) (zl := [.int .i8 0, .int .i64 0, .int .i64 0, .int .i64 0, .int .i64 0, .int .i64 0, .int .i64 0, .int .i64 0, .int .i64 0, .int .i8 0, .int .i64 0, .int .u8 0, .int .u8 0, .int .u8 0, .int .u8 0, .int .u8 0, .int .u8 0, .int .u8 0, .int .u8 0, .int .i64 0, .bool false, .int .i64 0, .int .i64 0, .slice none 0 0]) (cs := msgL (decM o (k + 1))) S M rfl rfl (by kernel_rfl) rfl (by kernel_rfl) ?_; clear S M a; intro a w4 bZ S M hB
  refine wpList_nil ?_; refine then_normal ?_; refine ⟨fun _ => hB, ?_⟩
  refine k_one 11 rfl (by kernel_rfl) ?_
  refine st_append (e := 45) (sz := 24) (by_ := 152) (zc := [.int .i8 0, .int .i64 0, .int .i64 0, .int .i64 0, .int .i64 0, .int .i64 0, .int .i64 0, .int .i64 0, .int .i64 0, .int .i8 0, .int .i64 0, .int .u8 0, .int .u8 0, .int .u8 0, .int .u8 0, .int .u8 0, .int .u8 0, .int .u8 0, .int .u8 0, .int .i64 0, .bool false, .int .i64 0, .int .i64 0, .slice none 0 0]) S M 4 rfl rfl (by kernel_rfl) rfl (by decide) rfl rfl rfl (show Rd _ _ _ 24 _ 1 (msgL (decM o (k + 1))) from M.sliceAt 0 rfl (M.cellsAt (k := 24) 0 rfl rfl) rfl (Nat.le_refl _) (by unfold maxLen; omega)) (rfl) (by omega) (by unfold maxLen; omega) ?_; clear S M a; intro a w5 vA loA hiA S M
  refine wpList_nil ?_; refine then_normal ?_; refine ⟨fun h => absurd h (by decide), ?_⟩
  refine k_pure 12 S rfl (fun w => y_nilCheck S rfl) ?_; clear S a; intro a S
  refine k_pure 13 S rfl (fun w => y_fieldAddr (k := 4) S (by kernel_rfl) rfl) ?_; clear S a; intro a S
  refine k_pure 14 S rfl (fun w => y_fieldAddr (k := 0) S (by kernel_rfl) rfl) ?_; clear S a; intro a S
  refine k_one 15 rfl (by kernel_rfl) ?_
  obtain ⟨aA, cA, rfl, -, -⟩ := (M.readAll 0 rfl (by unfold maxLen; omega)).form
  refine st_store (sz := 1) (us := [_]) S M 2 rfl (by kernel_rfl) rfl rfl rfl rfl rfl rfl (by first | decide | (simp; done) | (simp; omega)) ?_; clear M; intro w6 M
  simp only [putL, List.set_cons_zero, List.set_cons_succ, Nat.reduceAdd] at M
  refine wpList_nil ?_; refine then_normal ?_; refine ⟨fun h => absurd h (by decide), ?_⟩
  refine k_end (by kernel_rfl) ?_
  replace S := S.sub [(0, _), (2, _), (4, _), (6, _), (8, _), (21, _)] rfl
  refine block_normal ?_
  refine nxF ?_
  refine st_go [1] S rfl (by kernel_rfl) ?_; clear S a; intro a S
  (first | refine st_y S rfl rfl rfl (y_addN S rfl rfl (by omega)) ?_ | refine st_y S rfl rfl rfl (y_int S rfl rfl rfl) ?_); clear S a; intro a S
  refine st_go [1] S rfl (by kernel_rfl) ?_; clear S a; intro a S
  refine nxC ?_
  skip
  have hcast : (((k + 1 + 1 : Nat)) : Int) = ((k + 1 : Nat) : Int) + 1 := by omega
  try (rw [Int.toNat_natCast] at h17)
  first
    | (suffices hyes : hasBit o.sh (k + 1) = true ∧ ((k + 1 : Nat) : Int) ≠ but by
         obtain ⟨E2, hE2, M2⟩ := Dsk.closeM (D := D1) (x := decM o (k + 1)) rl ro ra rs rc re aA cA loA hiA ((M.drop 1).perm (List.perm_middle (l₁ := [_, _, _])).symm)
         rw [← hD1, ← mails_snoc] at hE2
         exact ⟨4 - (k + 1), by omega, k + 1, E2, by omega, rfl, by rw [refuseP, if_pos hyes]; exact hE2, by rw [hcast]; exact S.sub _ rfl, M2⟩
       exact ⟨h17, h21⟩)
    | (suffices hno : ¬ (hasBit o.sh (k + 1) = true ∧ ((k + 1 : Nat) : Int) ≠ but) by
         obtain ⟨E2, hE2, M2⟩ := Dsk.closeR (D := D1) rl ro rm ra rs rc re M
         rw [← hD1] at hE2
         exact ⟨4 - (k + 1), by omega, k + 1, E2, by omega, rfl, by rw [refuseP, if_neg hno, List.append_nil]; exact hE2, by rw [hcast]; exact S.sub _ rfl, M2⟩
       first
         | exact fun h => h.2 h21
         | (intro h
            have h9 : hasBit o.sh (k + 1) = false := h17
            rw [h9] at h; exact absurd h.1 (by decide)))
theorem refuse_any {wc w : World} {A E : List Ent} {b : Nat} {D : Dsk} (o : Ope) (but : Int) (hE : DeskE b D E) (M : Mem wc w (A ++ E)) (hs : D.small) :
    Calls Try.prog 25 #[.pointer (some ⟨b, 0, none⟩), .agg o.cellsL.toArray, .int .i64 but] w fun e w' => e = .returned (.tuple #[]) ∧ ∃ E', DeskE b (D.mails (refuseP o but 4)) E' ∧ Mem wc w' (A ++ E') := by
  obtain ⟨pa, pc, hR⟩ := hE.ref
  refine Calls.mono (refuse_anyR o but hR M hs) fun e w' h => ?_
  obtain ⟨h1, E', h2, h3⟩ := h
  exact ⟨h1, E', h2.desk, h3⟩
end Go.Proofs.Ytniijiipkfhjgaa

namespace Go.Proofs.Ytniijiipkfhjgaa
open Go.RowKit Go.Sort
/-- the greatest try of a stamp and client that is over -/
def triesP (st c : Int) (over : List End_) : Int := over.foldl (fun m x => if x.stamp = st ∧ x.c = c then max m x.try_ else m) 0
theorem triesP_snoc (st c : Int) (l : List End_) (x : End_) : triesP st c (l ++ [x]) = if x.stamp = st ∧ x.c = c then max (triesP st c l) x.try_ else triesP st c l := by unfold triesP; rw [List.foldl_append]; rfl
def zNm : Nm := ⟨0, 0, 0⟩
/-- the name from its stamp and try on -/
def nameQ (s : Ses) (st tr : Int) : Nm × Int :=
  if (s.l.any fun o => o.nm.stamp == st) = true ∨ 1048576 ≤ tr then (zNm, 2) else if 1099511627776 ≤ s.last then (zNm, 243) else (⟨st, s.inc, tr + 1⟩, 0)
def nameP (s : Ses) (c : Cal) (stamp : Int) : Nm × Int :=
  if ¬ (1 ≤ c.c ∧ c.c ≤ 1048576) then (zNm, 2) else if 8 ≤ s.l.length then (zNm, 243) else
    if c.stamp = 0 then (if stamp = 0 then (zNm, 190) else nameQ s stamp 0) else if triesP c.stamp c.c s.over = 0 then (zNm, 2) else nameQ s c.stamp (triesP c.stamp c.c s.over)
set_option maxHeartbeats 4000000 in
theorem name_any {wc w : World} {A E : List Ent} {b : Nat} {D : Dsk} (c : Cal) (da : Option Addr) (dl dc : Nat) (stamp : Int) (hE : DeskE b D E) (M : Mem wc w (A ++ E)) (hs : D.small) (ht : ∀ x ∈ D.s.over, 0 ≤ x.try_ ∧ x.try_ ≤ 1048576) :
    Calls Try.prog 31 #[.pointer (some ⟨b, 0, none⟩), .agg (c.cellsL (.slice da dl dc)).toArray, .int .i64 stamp] w fun e w' => e = .returned (.tuple #[.agg (nmL (nameP D.s c stamp).1).toArray, .int .i64 (nameP D.s c stamp).2]) ∧ ∃ E', DeskE b D E' ∧ Mem wc w' (A ++ E') := by
  have hsl := hs.l
  have hso := hs.over
  obtain ⟨rl, ro, rm, ra, rs, rc, re, M1⟩ := Dsk.open hE M
  clear M; have M := M1; clear M1 hE
  generalize hR : nameP D.s c stamp = R
  refine calls_enter Try.func31 rfl 99 rfl rfl ?_; intro a S
  refine wp_seq ?_
  skip
  refine wp_region_lit ?_
  refine st_box S M rfl rfl rfl #[_, _, _, _, _, _] rfl ?_; clear S M a; intro a w1 bX S M hB
  refine st_alloc S M rfl rfl #[.int .i64 0, .int .i64 0, .int .i64 0] (by kernel_rfl) ?_; clear S M a; intro a w2 bR S M hB
  refine st_go [1] S rfl (by kernel_rfl) ?_; clear S a; intro a S
  refine nxC ?_
  refine wp_seq ?_
  refine nxD ?_
  refine st_run [2, 2] S M rfl (by kernel_rfl) ?_; clear S a; intro a S
  refine st_call (xs := [(Operand.tmp 12)]) S (enters_of Try.func29 (by decide) rfl) rfl rfl rfl (clientIs_any _ _) ?_
  rintro _ w3 ⟨rfl, hK⟩; refine ⟨_, rfl, ?_⟩; clear S a; intro a S; replace M := M.grow hK
  refine st_go [1] S rfl (by kernel_rfl) ?_; clear S a; intro a S
  refine nxC ?_
  refine st_if (t := 14) S rfl ?_ ?_
  · clear S; intro h14 S
    refine st_condT S rfl ?_
    refine nxD ?_
    refine st_y S rfl rfl rfl (y_build (ps := []) (pl := [(0, 1), (1, 1), (2, 1)]) (z := [.int .i64 0, .int .i64 0, .int .i64 0]) (cs := [_, _, _]) S (by kernel_rfl) rfl (rfl)) ?_; clear S a; intro a S
    refine st_store (sz := 3) (us := [_, _, _]) S M 0 rfl (by kernel_rfl) rfl rfl rfl rfl rfl rfl (by first | decide | (simp; done) | (simp; omega)) ?_; clear M; intro w4 M
    simp only [putL, List.set_cons_zero, List.set_cons_succ, Nat.reduceAdd] at M
    refine st_go [1] S rfl (by kernel_rfl) ?_; clear S a; intro a S
    refine nxC ?_
    refine wp_ret ?_
    refine then_ret ?_
    refine end_two S rfl (res_agg (cs := [_, _, _]) (by kernel_rfl) rfl rfl (M.cellsAt (k := 3) 0 rfl rfl)) (res_tmp rfl) ?_
    obtain ⟨E2, hE2, M2⟩ := Dsk.close (D := D) rl ro rm ra rs rc re ((M.drop 0).drop 0)
    refine ⟨?_, E2, hE2, M2⟩
    rw [← hR]; unfold nameP; rw [if_pos (by omega)]; rfl
  clear S; intro h14 S
  refine st_condF S rfl ?_
  refine wp_skip ?_
  refine then_normal ?_
  refine wp_seq ?_
  refine nxD ?_
  refine st_run [1, 1, 1, 1, 3] S M rfl (by kernel_rfl) ?_; clear S a; intro a S
  refine st_y S rfl rfl rfl (y_lenR (E := 65) S rfl (M.readAll 3 rfl (by unfold maxLen; omega)) (by kernel_rfl)) ?_; clear S a; intro a S
  refine st_go [1] S rfl (by kernel_rfl) ?_; clear S a; intro a S
  refine nxC ?_
  refine st_if (t := 22) S rfl ?_ ?_
  · clear S; intro h22 S
    refine st_condT S rfl ?_
    refine nxD ?_
    refine st_y S rfl rfl rfl (y_build (ps := []) (pl := [(0, 1), (1, 1), (2, 1)]) (z := [.int .i64 0, .int .i64 0, .int .i64 0]) (cs := [_, _, _]) S (by kernel_rfl) rfl (rfl)) ?_; clear S a; intro a S
    refine st_store (sz := 3) (us := [_, _, _]) S M 0 rfl (by kernel_rfl) rfl rfl rfl rfl rfl rfl (by first | decide | (simp; done) | (simp; omega)) ?_; clear M; intro w5 M
    simp only [putL, List.set_cons_zero, List.set_cons_succ, Nat.reduceAdd] at M
    refine st_go [1] S rfl (by kernel_rfl) ?_; clear S a; intro a S
    refine nxC ?_
    refine wp_ret ?_
    refine then_ret ?_
    refine end_two S rfl (res_agg (cs := [_, _, _]) (by kernel_rfl) rfl rfl (M.cellsAt (k := 3) 0 rfl rfl)) (res_tmp rfl) ?_
    obtain ⟨E2, hE2, M2⟩ := Dsk.close (D := D) rl ro rm ra rs rc re ((M.drop 0).drop 0)
    refine ⟨?_, E2, hE2, M2⟩
    rw [← hR]; unfold nameP; rw [if_neg (by omega), if_pos (by omega)]; rfl
  clear S; intro h22 S
  refine st_condF S rfl ?_
  refine wp_skip ?_
  refine then_normal ?_
  refine wp_seq ?_
  refine wp_regionK [9] #[false, false, false, false, false, false, false, false, false, false] rfl M (by kernel_rfl) ?_; clear M; intro w6 M
  refine k_pure 0 S rfl (fun w => y_fieldAddr (k := 5) S (by kernel_rfl) rfl) ?_; clear S a; intro a S
  refine k_read 1 S rfl (fun w hW => have M := M.grow hW; y_load S (by kernel_rfl) rfl (M.cell 1 rfl rfl)) ?_; clear S a; intro a S
  refine k_pure 2 S rfl (fun w => y_move S rfl) ?_; clear S a; intro a S
  refine k_pure 3 S rfl (fun w => y_nilCheck S rfl) ?_; clear S a; intro a S
  refine k_pure 4 S rfl (fun w => y_fieldAddr (k := 0) S (by kernel_rfl) rfl) ?_; clear S a; intro a S
  refine k_pure 5 S rfl (fun w => y_fieldAddr (k := 2) S (by kernel_rfl) rfl) ?_; clear S a; intro a S
  refine k_read 6 S rfl (fun w hW => have M := M.grow hW; y_load S (by kernel_rfl) rfl (M.cell 2 rfl rfl)) ?_; clear S a; intro a S
  refine k_pure 7 S rfl (fun w => y_build (ps := [(0, (Operand.tmp 25)), (1, (Operand.tmp 30))]) (pl := [(0, 1), (1, 1), (2, 1)]) (z := [.int .i64 0, .int .i64 0, .int .i64 0]) (cs := [_, _, _]) S (by kernel_rfl) rfl (rfl)) ?_; clear S a; intro a S
  refine k_one 8 rfl (by kernel_rfl) ?_
  refine st_alloc S M rfl rfl #[.int .i64 0, .int .i64 0, .int .i64 0] (by kernel_rfl) ?_; clear S M a; intro a w7 bN S M hB
  refine wpList_nil ?_; refine then_normal ?_; refine ⟨fun _ => hB, ?_⟩
  refine k_one 9 rfl (by kernel_rfl) ?_
  refine st_store (sz := 3) (us := [_, _, _]) S M 0 rfl (by kernel_rfl) rfl rfl rfl rfl rfl rfl (by first | decide | (simp; done) | (simp; omega)) ?_; clear M; intro w8 M
  simp only [putL, List.set_cons_zero, List.set_cons_succ, Nat.reduceAdd] at M
  refine wpList_nil ?_; refine then_normal ?_; refine ⟨fun h => absurd h (by decide), ?_⟩
  refine k_end (by kernel_rfl) ?_
  replace S := S.sub [(0, _), (1, _), (2, _), (4, _), (6, _), (7, _), (14, _), (22, _), (8, _)] rfl
  refine then_normal ?_
  refine wp_cut (fun a w' => ∃ st tr, nameQ D.s st tr = R ∧ (0 ≤ tr ∧ tr ≤ 1048576) ∧ Sees 99 a [(0, .pointer (some ⟨b, 0, none⟩)), (4, .pointer (some ⟨bX, 0, none⟩)), (6, .pointer (some ⟨bR, 0, none⟩)), (8, .pointer (some ⟨bN, 0, none⟩))] ∧ Mem wc w' (.blk bN #[.int .i64 st, .int .i64 D.s.inc, .int .i64 tr] 40 :: .blk bR #[.int .i64 0, .int .i64 0, .int .i64 0] 40 :: .blk bX (c.cellsL (.slice da dl dc)).toArray 38 :: .blk b (dskL D rl ro rm ra rs rc re).toArray 79 :: rl.ent 65 37 D.s.l.length (fm Ope.cellsL D.s.l) :: ro.ent 91 5 D.s.over.length (fm End_.cellsL D.s.over) :: rm.ent 45 24 D.t.mail.length (fm msgL D.t.mail) :: ra.ent 69 13 D.t.ans.length (fm Ans.cellsL D.t.ans) :: rs.ent 71 14 D.t.seen.length (fm Seen_.cellsL D.t.seen) :: rc.ent 40 3 D.t.com.length (fm nmL D.t.com) :: re.ent 40 3 D.t.ends.length (fm nmL D.t.ends) :: A)) ?_ ?_
  · skip
    refine nxD ?_
    refine st_run [6, 3, 1] S M rfl (by kernel_rfl) ?_; clear S a; intro a S
    refine nxC ?_
    refine st_if (t := 34) S rfl ?_ ?_
    · clear S; intro h34 S
      refine st_condT S rfl ?_
      refine wp_seq ?_
      refine nxD ?_
      refine st_go [1, 1] S rfl (by kernel_rfl) ?_; clear S a; intro a S
      refine nxC ?_
      refine st_fi (t := 36) S rfl ?_ ?_
      · clear S; intro h36 S
        refine st_condF S rfl ?_
        refine wp_skip ?_
        refine nxF ?_
        refine st_go [1, 1] S rfl (by kernel_rfl) ?_; clear S a; intro a S
        refine st_store (sz := 1) (us := [_]) S M 0 rfl (by kernel_rfl) rfl rfl rfl rfl rfl rfl (by first | decide | (simp; done) | (simp; omega)) ?_; clear M; intro w10 M
        simp only [putL, List.set_cons_zero, List.set_cons_succ, Nat.reduceAdd] at M
        refine nxC ?_
        first
          | exact ⟨_, 0, by rw [← hR]; unfold nameP; rw [if_neg (by omega), if_neg (by omega), if_pos (by omega), if_neg (by omega)], by omega, S.sub _ rfl, M⟩
          | exact ⟨_, _, by rw [← hR]; unfold nameP; rw [if_neg (by omega), if_neg (by omega), if_neg (by omega), if_neg (by omega)], htr, S.sub _ rfl, M⟩
      clear S; intro h36 S
      refine st_condT S rfl ?_
      refine nxD ?_
      refine st_y S rfl rfl rfl (y_build (ps := []) (pl := [(0, 1), (1, 1), (2, 1)]) (z := [.int .i64 0, .int .i64 0, .int .i64 0]) (cs := [_, _, _]) S (by kernel_rfl) rfl (rfl)) ?_; clear S a; intro a S
      refine st_store (sz := 3) (us := [_, _, _]) S M 1 rfl (by kernel_rfl) rfl rfl rfl rfl rfl rfl (by first | decide | (simp; done) | (simp; omega)) ?_; clear M; intro w9 M
      simp only [putL, List.set_cons_zero, List.set_cons_succ, Nat.reduceAdd] at M
      refine st_go [1] S rfl (by kernel_rfl) ?_; clear S a; intro a S
      refine nxC ?_
      refine wp_ret ?_
      refine then_ret ?_
      refine then_ret ?_
      refine end_two S rfl (res_agg (cs := [_, _, _]) (by kernel_rfl) rfl rfl (M.cellsAt (k := 3) 1 rfl rfl)) (res_tmp rfl) ?_
      obtain ⟨E2, hE2, M2⟩ := Dsk.close (D := D) rl ro rm ra rs rc re (((M.drop 0).drop 0).drop 0)
      refine ⟨?_, E2, hE2, M2⟩
      rw [← hR]; unfold nameP; rw [if_neg (by omega), if_neg (by omega), if_pos (by omega), if_pos (by omega)]; rfl
    clear S; intro h34 S
    refine st_condF S rfl ?_
    refine wp_seq ?_
    refine nxD ?_
    refine st_run [1, 1, 1, 4, 4] S M rfl (by kernel_rfl) ?_; clear S a; intro a S
    refine st_y S rfl rfl rfl (y_lenR (E := 91) S rfl (M.readAll 5 rfl (by unfold maxLen; omega)) (by kernel_rfl)) ?_; clear S a; intro a S
    refine st_go [1] S rfl (by kernel_rfl) ?_; clear S a; intro a S
    refine nxC ?_
    refine wp_block ?_
    refine wp_loop_g (fun m a w' => ∃ (k : Nat), k ≤ D.s.over.length ∧ m = D.s.over.length - k ∧ (0 ≤ triesP c.stamp c.c (D.s.over.take k) ∧ triesP c.stamp c.c (D.s.over.take k) ≤ 1048576) ∧ Sees 99 a [(0, .pointer (some ⟨b, 0, none⟩)), (4, .pointer (some ⟨bX, 0, none⟩)), (6, .pointer (some ⟨bR, 0, none⟩)), (8, .pointer (some ⟨bN, 0, none⟩)), (44, ro.v D.s.over.length), (45, .int .i64 (D.s.over.length : Int)), (46, .int .i64 (k : Int))] ∧ Mem wc w' (.blk bN #[.int .i64 c.stamp, .int .i64 D.s.inc, .int .i64 (triesP c.stamp c.c (D.s.over.take k))] 40 :: .blk bR #[.int .i64 0, .int .i64 0, .int .i64 0] 40 :: .blk bX (c.cellsL (.slice da dl dc)).toArray 38 :: .blk b (dskL D rl ro rm ra rs rc re).toArray 79 :: rl.ent 65 37 D.s.l.length (fm Ope.cellsL D.s.l) :: ro.ent 91 5 D.s.over.length (fm End_.cellsL D.s.over) :: rm.ent 45 24 D.t.mail.length (fm msgL D.t.mail) :: ra.ent 69 13 D.t.ans.length (fm Ans.cellsL D.t.ans) :: rs.ent 71 14 D.t.seen.length (fm Seen_.cellsL D.t.seen) :: rc.ent 40 3 D.t.com.length (fm nmL D.t.com) :: re.ent 40 3 D.t.ends.length (fm nmL D.t.ends) :: A)) (D.s.over.length) ?_ ?_
    · skip
      exact ⟨0, Nat.zero_le _, rfl, ⟨Int.le_refl _, (by decide : (0 : Int) ≤ 1048576)⟩, S.sub _ rfl, M⟩
    clear S M a; intro m a wl
    rintro ⟨k, hk, rfl, htr, S, M⟩
    generalize hT : triesP c.stamp c.c (D.s.over.take k) = T at htr M
    refine nxD ?_
    refine st_go [1] S rfl (by kernel_rfl) ?_; clear S a; intro a S
    refine nxC ?_
    refine wp_seq ?_
    refine st_fi (t := 47) S rfl ?_ ?_
    · clear S; intro h47 S
      refine st_condF S rfl ?_
      refine wp_exit ?_
      refine then_exit ?_
      refine then_exit ?_
      refine block_hit ?_
      refine then_normal ?_
      refine wp_seq ?_
      obtain rfl : k = D.s.over.length := by omega
      rw [List.take_length] at hT
      subst hT
      refine wp_region_lit ?_
      refine st_run [3, 1, 1] S M rfl (by kernel_rfl) ?_; clear S a; intro a S
      refine nxC ?_
      refine st_fi (t := 71) S rfl ?_ ?_
      · clear S; intro h71 S
        refine st_condF S rfl ?_
        refine wp_skip ?_
        refine then_normal ?_
        first
          | exact ⟨_, 0, by rw [← hR]; unfold nameP; rw [if_neg (by omega), if_neg (by omega), if_pos (by omega), if_neg (by omega)], by omega, S.sub _ rfl, M⟩
          | exact ⟨_, _, by rw [← hR]; unfold nameP; rw [if_neg (by omega), if_neg (by omega), if_neg (by omega), if_neg (by omega)], htr, S.sub _ rfl, M⟩
      clear S; intro h71 S
      refine st_condT S rfl ?_
      refine nxD ?_
      refine st_y S rfl rfl rfl (y_build (ps := []) (pl := [(0, 1), (1, 1), (2, 1)]) (z := [.int .i64 0, .int .i64 0, .int .i64 0]) (cs := [_, _, _]) S (by kernel_rfl) rfl (rfl)) ?_; clear S a; intro a S
      refine st_store (sz := 3) (us := [_, _, _]) S M 1 rfl (by kernel_rfl) rfl rfl rfl rfl rfl rfl (by first | decide | (simp; done) | (simp; omega)) ?_; clear M; intro w14 M
      simp only [putL, List.set_cons_zero, List.set_cons_succ, Nat.reduceAdd] at M
      refine st_go [1] S rfl (by kernel_rfl) ?_; clear S a; intro a S
      refine nxC ?_
      refine wp_ret ?_
      refine then_ret ?_
      refine end_two S rfl (res_agg (cs := [_, _, _]) (by kernel_rfl) rfl rfl (M.cellsAt (k := 3) 1 rfl rfl)) (res_tmp rfl) ?_
      obtain ⟨E2, hE2, M2⟩ := Dsk.close (D := D) rl ro rm ra rs rc re (((M.drop 0).drop 0).drop 0)
      refine ⟨?_, E2, hE2, M2⟩
      rw [← hR]; unfold nameP; rw [if_neg (by omega), if_neg (by omega), if_neg (by omega), if_pos (by omega)]; rfl
    clear S; intro h47 S
    refine st_condT S rfl ?_
    refine wp_skip ?_
    refine then_normal ?_
    refine wp_seq ?_
    refine wp_block ?_
    refine wp_seq ?_
    obtain ⟨q, hq⟩ : ∃ q, D.s.over[k]? = some q := ⟨_, List.getElem?_eq_getElem (by omega)⟩
    have hqt := ht q (List.mem_of_getElem? hq)
    refine wp_region_lit ?_
    refine st_y S rfl rfl rfl (y_indexR (e := 91) (sz := 5) S (by kernel_rfl) rfl (M.readAll 5 rfl (by unfold maxLen; omega)) rfl (by first | omega | (simp; done) | (simp; omega))) ?_; clear S a; intro a S
    try simp only [Int.toNat_natCast, Nat.mul_one, Nat.zero_add] at S
    refine st_y S rfl rfl rfl (y_loadAgg S (by kernel_rfl) rfl rfl ((M.readAll 5 rfl (by unfold maxLen; omega)).at_.row (i := k) (fm_get len_end hq) rfl)) ?_; clear S a; intro a S
    refine st_alloc S M rfl rfl #[.int .i64 0, .int .i64 0, .int .i64 0, .int .i64 0, .int .i64 0] (by kernel_rfl) ?_; clear S M a; intro a w11 bY S M hB
    refine st_store (sz := 5) (us := [_, _, _, _, _]) S M 0 rfl (by kernel_rfl) rfl rfl rfl rfl rfl rfl (by first | decide | (simp; done) | (simp; omega)) ?_; clear M; intro w12 M
    simp only [putL, List.set_cons_zero, List.set_cons_succ, Nat.reduceAdd] at M
    refine nxA ?_
    refine st_run [3, 1, 6, 4, 1, 1] S M rfl (by kernel_rfl) ?_; clear S a; intro a S
    refine st_fi (t := 55) S rfl ?_ ?_
    · clear S; intro h55 S
      refine st_go [0, 0, 0, 0, 0, 1] S rfl (by kernel_rfl) ?_; clear S a; intro a S
      refine nxC ?_
      refine st_condF S rfl ?_
      refine wp_skip ?_
      refine block_normal ?_
      refine nxF ?_
      (first | refine st_y S rfl rfl rfl (y_addN S rfl rfl (by omega)) ?_ | refine st_y S rfl rfl rfl (y_int S rfl rfl rfl) ?_); clear S a; intro a S
      refine st_go [1] S rfl (by kernel_rfl) ?_; clear S a; intro a S
      replace S := S.sub [(0, _), (4, _), (6, _), (8, _), (44, _), (45, _), (47, _), (10, _), (61, _), (46, _)] rfl
      refine nxC ?_
      skip
      replace M := M.drop 0
      simp only [List.eraseIdx_cons_succ, List.eraseIdx_cons_zero] at M
      have htk : D.s.over.take (k + 1) = D.s.over.take k ++ [q] := by
        obtain ⟨h9, e9⟩ := List.getElem?_eq_some_iff.1 hq
        rw [List.take_succ_eq_append_getElem h9, e9]
      have hsn := triesP_snoc c.stamp c.c (D.s.over.take k) q
      rw [← htk, hT] at hsn
      first
        | (suffices hyes : q.stamp = c.stamp ∧ q.c = c.c by
             rw [if_pos hyes] at hsn
             exact ⟨D.s.over.length - (k + 1), by omega, k + 1, by omega, rfl, by rw [hsn]; omega, S.sub _ rfl, by rw [hsn]; exact M⟩
           exact ⟨h55, h61⟩)
        | (suffices hno : ¬ (q.stamp = c.stamp ∧ q.c = c.c) by
             rw [if_neg hno] at hsn
             exact ⟨D.s.over.length - (k + 1), by omega, k + 1, by omega, rfl, by rw [hsn]; exact htr, S.sub _ rfl, by rw [hsn]; exact M⟩
           omega)
    clear S; intro h55 S
    refine st_run [2, 1, 2, 4, 1, 1] S M rfl (by kernel_rfl) ?_; clear S a; intro a S
    refine nxC ?_
    refine st_fi (t := 61) S rfl ?_ ?_
    · clear S; intro h61 S
      refine st_condF S rfl ?_
      refine wp_skip ?_
      refine block_normal ?_
      refine nxF ?_
      (first | refine st_y S rfl rfl rfl (y_addN S rfl rfl (by omega)) ?_ | refine st_y S rfl rfl rfl (y_int S rfl rfl rfl) ?_); clear S a; intro a S
      refine st_go [1] S rfl (by kernel_rfl) ?_; clear S a; intro a S
      replace S := S.sub [(0, _), (4, _), (6, _), (8, _), (44, _), (45, _), (47, _), (10, _), (61, _), (46, _)] rfl
      refine nxC ?_
      skip
      replace M := M.drop 0
      simp only [List.eraseIdx_cons_succ, List.eraseIdx_cons_zero] at M
      have htk : D.s.over.take (k + 1) = D.s.over.take k ++ [q] := by
        obtain ⟨h9, e9⟩ := List.getElem?_eq_some_iff.1 hq
        rw [List.take_succ_eq_append_getElem h9, e9]
      have hsn := triesP_snoc c.stamp c.c (D.s.over.take k) q
      rw [← htk, hT] at hsn
      first
        | (suffices hyes : q.stamp = c.stamp ∧ q.c = c.c by
             rw [if_pos hyes] at hsn
             exact ⟨D.s.over.length - (k + 1), by omega, k + 1, by omega, rfl, by rw [hsn]; omega, S.sub _ rfl, by rw [hsn]; exact M⟩
           exact ⟨h55, h61⟩)
        | (suffices hno : ¬ (q.stamp = c.stamp ∧ q.c = c.c) by
             rw [if_neg hno] at hsn
             exact ⟨D.s.over.length - (k + 1), by omega, k + 1, by omega, rfl, by rw [hsn]; exact htr, S.sub _ rfl, by rw [hsn]; exact M⟩
           omega)
    clear S; intro h61 S
    refine st_condT S rfl ?_
    refine wp_region_lit ?_
    refine st_run [3, 2, 4, 1] S M rfl (by kernel_rfl) ?_; clear S a; intro a S
    refine st_y S rfl rfl rfl (y_max S rfl rfl) ?_; clear S a; intro a S
    refine st_go [3] S rfl (by kernel_rfl) ?_; clear S a; intro a S
    refine st_store (sz := 1) (us := [_]) S M 1 rfl (by kernel_rfl) rfl rfl rfl rfl rfl rfl (by first | decide | (simp; done) | (simp; omega)) ?_; clear M; intro w13 M
    simp only [putL, List.set_cons_zero, List.set_cons_succ, Nat.reduceAdd] at M
    replace S := S.sub [(0, _), (4, _), (6, _), (8, _), (44, _), (45, _), (46, _), (47, _), (10, _), (61, _)] rfl
    refine wpList_nil ?_
    refine block_normal ?_
    refine nxF ?_
    (first | refine st_y S rfl rfl rfl (y_addN S rfl rfl (by omega)) ?_ | refine st_y S rfl rfl rfl (y_int S rfl rfl rfl) ?_); clear S a; intro a S
    refine st_go [1] S rfl (by kernel_rfl) ?_; clear S a; intro a S
    refine nxC ?_
    skip
    replace M := M.drop 0
    simp only [List.eraseIdx_cons_succ, List.eraseIdx_cons_zero] at M
    have htk : D.s.over.take (k + 1) = D.s.over.take k ++ [q] := by
      obtain ⟨h9, e9⟩ := List.getElem?_eq_some_iff.1 hq
      rw [List.take_succ_eq_append_getElem h9, e9]
    have hsn := triesP_snoc c.stamp c.c (D.s.over.take k) q
    rw [← htk, hT] at hsn
    first
      | (suffices hyes : q.stamp = c.stamp ∧ q.c = c.c by
           rw [if_pos hyes] at hsn
           exact ⟨D.s.over.length - (k + 1), by omega, k + 1, by omega, rfl, by rw [hsn]; omega, S.sub _ rfl, by rw [hsn]; exact M⟩
         exact ⟨h55, h61⟩)
      | (suffices hno : ¬ (q.stamp = c.stamp ∧ q.c = c.c) by
           rw [if_neg hno] at hsn
           exact ⟨D.s.over.length - (k + 1), by omega, k + 1, by omega, rfl, by rw [hsn]; exact htr, S.sub _ rfl, by rw [hsn]; exact M⟩
         omega)
  clear S a M; intro a wc
  rintro ⟨st, tr, hQ, htr, S, M⟩
  refine wp_seq ?_
  refine nxD ?_
  refine st_run [1, 1, 1, 1, 4] S M rfl (by kernel_rfl) ?_; clear S a; intro a S
  refine st_y S rfl rfl rfl (y_makeFunc (fs := []) (cs := [(Operand.tmp 8)]) S rfl rfl) ?_; clear S a; intro a S
  refine st_call (xs := [(Operand.tmp 77), (Operand.tmp 78)]) S (enters_of Try.func37 (by decide) rfl) rfl rfl rfl (findO_any (fi := []) (ca := [.pointer (some ⟨bN, 0, none⟩)]) (enters_of Try.func52 (by decide) rfl) rl.a rl.c D.s.l (fun o => o.nm.stamp == st) _ (M.readAll 4 rfl (by unfold maxLen; omega)) (fun x w' hw => nameq_any x bN ⟨st, D.s.inc, tr⟩ w' ((M.blk 0 rfl).ext hw))) ?_
  rintro _ w15 ⟨j, rfl, hK, hF⟩; refine ⟨_, rfl, ?_⟩; clear S a; intro a S; replace M := M.grow hK
  have hany : (0 ≤ j) ↔ (D.s.l.any fun o => o.nm.stamp == st) = true := by
    rcases hF with ⟨k, q, rfl, hq, hp, -⟩ | ⟨rfl, h⟩
    · exact ⟨fun _ => List.any_eq_true.2 ⟨q, List.mem_of_getElem? hq, hp⟩, fun _ => by omega⟩
    · refine ⟨fun h0 => by omega, fun h0 => ?_⟩
      obtain ⟨q, hq, hp⟩ := List.any_eq_true.1 h0
      have h3 := h q hq
      simp only at h3
      rw [h3] at hp; cases hp
  refine st_go [1, 1] S rfl (by kernel_rfl) ?_; clear S a; intro a S
  refine st_if (t := 81) S rfl ?_ ?_
  · clear S; intro h81 S
    refine st_go [0, 0, 0, 1] S rfl (by kernel_rfl) ?_; clear S a; intro a S
    refine nxC ?_
    refine st_condT S rfl ?_
    refine nxD ?_
    refine st_y S rfl rfl rfl (y_build (ps := []) (pl := [(0, 1), (1, 1), (2, 1)]) (z := [.int .i64 0, .int .i64 0, .int .i64 0]) (cs := [_, _, _]) S (by kernel_rfl) rfl (rfl)) ?_; clear S a; intro a S
    refine st_store (sz := 3) (us := [_, _, _]) S M 1 rfl (by kernel_rfl) rfl rfl rfl rfl rfl rfl (by first | decide | (simp; done) | (simp; omega)) ?_; clear M; intro w16 M
    simp only [putL, List.set_cons_zero, List.set_cons_succ, Nat.reduceAdd] at M
    refine st_go [1] S rfl (by kernel_rfl) ?_; clear S a; intro a S
    refine nxC ?_
    refine wp_ret ?_
    refine then_ret ?_
    refine end_two S rfl (res_agg (cs := [_, _, _]) (by kernel_rfl) rfl rfl (M.cellsAt (k := 3) 1 rfl rfl)) (res_tmp rfl) ?_
    obtain ⟨E2, hE2, M2⟩ := Dsk.close (D := D) rl ro rm ra rs rc re (((M.drop 0).drop 0).drop 0)
    refine ⟨?_, E2, hE2, M2⟩
    rw [← hQ]; unfold nameQ
    first
      | (rw [if_pos (.inl (hany.1 (by omega)))]; rfl)
      | (rw [if_pos (.inr (by omega))]; rfl)
  clear S; intro h81 S
  refine st_run [3, 1, 1, 1] S M rfl (by kernel_rfl) ?_; clear S a; intro a S
  refine nxC ?_
  refine st_if (t := 85) S rfl ?_ ?_
  · clear S; intro h85 S
    refine st_condT S rfl ?_
    refine nxD ?_
    refine st_y S rfl rfl rfl (y_build (ps := []) (pl := [(0, 1), (1, 1), (2, 1)]) (z := [.int .i64 0, .int .i64 0, .int .i64 0]) (cs := [_, _, _]) S (by kernel_rfl) rfl (rfl)) ?_; clear S a; intro a S
    refine st_store (sz := 3) (us := [_, _, _]) S M 1 rfl (by kernel_rfl) rfl rfl rfl rfl rfl rfl (by first | decide | (simp; done) | (simp; omega)) ?_; clear M; intro w17 M
    simp only [putL, List.set_cons_zero, List.set_cons_succ, Nat.reduceAdd] at M
    refine st_go [1] S rfl (by kernel_rfl) ?_; clear S a; intro a S
    refine nxC ?_
    refine wp_ret ?_
    refine then_ret ?_
    refine end_two S rfl (res_agg (cs := [_, _, _]) (by kernel_rfl) rfl rfl (M.cellsAt (k := 3) 1 rfl rfl)) (res_tmp rfl) ?_
    obtain ⟨E2, hE2, M2⟩ := Dsk.close (D := D) rl ro rm ra rs rc re (((M.drop 0).drop 0).drop 0)
    refine ⟨?_, E2, hE2, M2⟩
    rw [← hQ]; unfold nameQ
    first
      | (rw [if_pos (.inl (hany.1 (by omega)))]; rfl)
      | (rw [if_pos (.inr (by omega))]; rfl)
  clear S; intro h85 S
  refine st_condF S rfl ?_
  refine wp_skip ?_
  refine then_normal ?_
  refine wp_seq ?_
  refine wp_seq ?_
  have hno : ¬ ((D.s.l.any fun o => o.nm.stamp == st) = true ∨ 1048576 ≤ tr) := by
    rintro (h | h)
    · have := hany.2 h; omega
    · omega
  refine wp_region_lit ?_
  refine st_run [1, 1, 1, 2, 4, 1] S M rfl (by kernel_rfl) ?_; clear S a; intro a S
  replace S := S.sub [(0, _), (4, _), (6, _), (8, _), (85, _), (92, _)] rfl
  refine nxC ?_
  refine st_if (t := 92) S rfl ?_ ?_
  · clear S; intro h92 S
    refine st_condT S rfl ?_
    refine nxD ?_
    refine st_y S rfl rfl rfl (y_build (ps := []) (pl := [(0, 1), (1, 1), (2, 1)]) (z := [.int .i64 0, .int .i64 0, .int .i64 0]) (cs := [_, _, _]) S (by kernel_rfl) rfl (rfl)) ?_; clear S a; intro a S
    refine st_store (sz := 3) (us := [_, _, _]) S M 1 rfl (by kernel_rfl) rfl rfl rfl rfl rfl rfl (by first | decide | (simp; done) | (simp; omega)) ?_; clear M; intro w18 M
    simp only [putL, List.set_cons_zero, List.set_cons_succ, Nat.reduceAdd] at M
    refine st_go [1] S rfl (by kernel_rfl) ?_; clear S a; intro a S
    refine nxC ?_
    refine wp_ret ?_
    refine then_ret ?_
    refine end_two S rfl (res_agg (cs := [_, _, _]) (by kernel_rfl) rfl rfl (M.cellsAt (k := 3) 1 rfl rfl)) (res_tmp rfl) ?_
    obtain ⟨E2, hE2, M2⟩ := Dsk.close (D := D) rl ro rm ra rs rc re (((M.drop 0).drop 0).drop 0)
    refine ⟨?_, E2, hE2, M2⟩
    rw [← hQ]; unfold nameQ; rw [if_neg hno, if_pos (by omega)]; rfl
  clear S; intro h92 S
  refine st_condF S rfl ?_
  refine wp_skip ?_
  refine nxE ?_
  refine st_run [3, 1] S M rfl (by kernel_rfl) ?_; clear S a; intro a S
  (first | refine st_y S rfl rfl rfl (y_addN S rfl rfl (by omega)) ?_ | refine st_y S rfl rfl rfl (y_int S rfl rfl rfl) ?_); clear S a; intro a S
  refine st_go [3] S rfl (by kernel_rfl) ?_; clear S a; intro a S
  refine st_store (sz := 1) (us := [_]) S M 0 rfl (by kernel_rfl) rfl rfl rfl rfl rfl rfl (by first | decide | (simp; done) | (simp; omega)) ?_; clear M; intro w19 M
  simp only [putL, List.set_cons_zero, List.set_cons_succ, Nat.reduceAdd] at M
  refine nxA ?_
  refine st_y S rfl rfl rfl (y_loadAgg (cs := [_, _, _]) S (by kernel_rfl) rfl rfl (M.cellsAt (k := 3) 0 rfl rfl)) ?_; clear S a; intro a S
  refine st_store (sz := 3) (us := [_, _, _]) S M 1 rfl (by kernel_rfl) rfl rfl rfl rfl rfl rfl (by first | decide | (simp; done) | (simp; omega)) ?_; clear M; intro w20 M
  simp only [putL, List.set_cons_zero, List.set_cons_succ, Nat.reduceAdd] at M
  refine st_go [1] S rfl (by kernel_rfl) ?_; clear S a; intro a S
  refine nxC ?_
  refine wp_ret ?_
  refine end_two S rfl (res_agg (cs := [_, _, _]) (by kernel_rfl) rfl rfl (M.cellsAt (k := 3) 1 rfl rfl)) (res_tmp rfl) ?_
  obtain ⟨E2, hE2, M2⟩ := Dsk.close (D := D) rl ro rm ra rs rc re (((M.drop 0).drop 0).drop 0)
  refine ⟨?_, E2, hE2, M2⟩
  rw [← hQ]; unfold nameQ; rw [if_neg hno, if_neg (by omega)]
end Go.Proofs.Ytniijiipkfhjgaa

namespace Go.Proofs.Ytniijiipkfhjgaa
open Go.RowKit Go.Sort
/-- the rows are short, so that much may be put behind -/
structure Dsk.tiny (D : Dsk) : Prop where
  l : D.s.l.length ≤ 500
  over : D.s.over.length ≤ 500
  mail : D.t.mail.length ≤ 500
  ans : D.t.ans.length ≤ 500
  seen : D.t.seen.length ≤ 500
  com : D.t.com.length ≤ 500
  ends : D.t.ends.length ≤ 500
/-- not so short, yet short enough for an end -/
structure Dsk.mid (D : Dsk) : Prop where
  l : D.s.l.length ≤ 900
  over : D.s.over.length ≤ 900
  mail : D.t.mail.length ≤ 900
  ans : D.t.ans.length ≤ 900
  seen : D.t.seen.length ≤ 900
  com : D.t.com.length ≤ 900
  ends : D.t.ends.length ≤ 900
theorem Dsk.mid.small {D : Dsk} (h : D.mid) : D.small := ⟨by have := h.l; omega, by have := h.over; omega, by have := h.mail; omega, by have := h.ans; omega, by have := h.seen; omega, by have := h.com; omega, by have := h.ends; omega⟩
theorem Dsk.tiny.mid {D : Dsk} (h : D.tiny) : D.mid := ⟨by have := h.l; omega, by have := h.over; omega, by have := h.mail; omega, by have := h.ans; omega, by have := h.seen; omega, by have := h.com; omega, by have := h.ends; omega⟩
theorem Dsk.tiny.small {D : Dsk} (h : D.tiny) : D.small := ⟨by have := h.l; omega, by have := h.over; omega, by have := h.mail; omega, by have := h.ans; omega, by have := h.seen; omega, by have := h.com; omega, by have := h.ends; omega⟩
def newOpe (h c : Int) (nm : Nm) : Ope := ⟨h, c, nm, 0, 0, 0, 0, 0, 0, 0, 0, zMg⟩
abbrev Dsk.opened (D : Dsk) (c : Cal) (nm : Nm) : Dsk := { D with s := { D.s with l := D.s.l ++ [newOpe (D.s.last + 1) c.c nm], last := D.s.last + 1 } }
def Dsk.begin (D : Dsk) (c : Cal) (stamp : Int) : Dsk :=
  if (nameP D.s c stamp).2 = 0 then ((D.opened c (nameP D.s c stamp).1).answer ⟨c.c, D.s.last + 1, 0, zV8, (nameP D.s c stamp).1.stamp, c.kind⟩).seen ⟨0, (nameP D.s c stamp).1, 0, zV8, 0⟩
  else D.refused { c with h := 0 } (nameP D.s c stamp).2
theorem Dsk.closeG {wc w : World} {A : List Ent} {b : Nat} {cs : Array Value} {e1 e2 e3 e4 e5 e6 e7 : Ent} (D' : Dsk) (rl ro rm ra rs rc re : Rw) (M : Mem wc w (.blk b cs 79 :: e1 :: e2 :: e3 :: e4 :: e5 :: e6 :: e7 :: A)) (h0 : cs = (dskL D' rl ro rm ra rs rc re).toArray)
    (h1 : e1 = rl.ent 65 37 D'.s.l.length (fm Ope.cellsL D'.s.l)) (h2 : e2 = ro.ent 91 5 D'.s.over.length (fm End_.cellsL D'.s.over)) (h3 : e3 = rm.ent 45 24 D'.t.mail.length (fm msgL D'.t.mail)) (h4 : e4 = ra.ent 69 13 D'.t.ans.length (fm Ans.cellsL D'.t.ans))
    (h5 : e5 = rs.ent 71 14 D'.t.seen.length (fm Seen_.cellsL D'.t.seen)) (h6 : e6 = rc.ent 40 3 D'.t.com.length (fm nmL D'.t.com)) (h7 : e7 = re.ent 40 3 D'.t.ends.length (fm nmL D'.t.ends)) : ∃ E, DeskE b D' E ∧ Mem wc w (A ++ E) := by
  subst h0 h1 h2 h3 h4 h5 h6 h7
  exact Dsk.close rl ro rm ra rs rc re M
theorem Dsk.closeGR {wc w : World} {A : List Ent} {b : Nat} {cs : Array Value} {e1 e2 e3 e4 e5 e6 e7 : Ent} (D' : Dsk) (rl ro rm ra rs rc re : Rw) (M : Mem wc w (.blk b cs 79 :: e1 :: e2 :: e3 :: e4 :: e5 :: e6 :: e7 :: A)) (h0 : cs = (dskL D' rl ro rm ra rs rc re).toArray)
    (h1 : e1 = rl.ent 65 37 D'.s.l.length (fm Ope.cellsL D'.s.l)) (h2 : e2 = ro.ent 91 5 D'.s.over.length (fm End_.cellsL D'.s.over)) (h3 : e3 = rm.ent 45 24 D'.t.mail.length (fm msgL D'.t.mail)) (h4 : e4 = ra.ent 69 13 D'.t.ans.length (fm Ans.cellsL D'.t.ans))
    (h5 : e5 = rs.ent 71 14 D'.t.seen.length (fm Seen_.cellsL D'.t.seen)) (h6 : e6 = rc.ent 40 3 D'.t.com.length (fm nmL D'.t.com)) (h7 : e7 = re.ent 40 3 D'.t.ends.length (fm nmL D'.t.ends)) : ∃ E, DeskR b rl.a rl.c D' E ∧ Mem wc w (A ++ E) := by
  subst h0 h1 h2 h3 h4 h5 h6 h7
  exact Dsk.closeR rl ro rm ra rs rc re M
set_option maxHeartbeats 4000000 in
theorem begin_any {wc w : World} {A E : List Ent} {b : Nat} {D : Dsk} (c : Cal) (da : Option Addr) (dl dc : Nat) (stamp : Int) (hE : DeskE b D E) (M : Mem wc w (A ++ E)) (hs : D.tiny) (ht : ∀ x ∈ D.s.over, 0 ≤ x.try_ ∧ x.try_ ≤ 1048576) (hl : -1 ≤ D.s.last ∧ D.s.last ≤ 1099511627776) :
    Calls Try.prog 19 #[.pointer (some ⟨b, 0, none⟩), .agg (c.cellsL (.slice da dl dc)).toArray, .int .i64 stamp] w fun e w' => e = .returned (.tuple #[]) ∧ ∃ E', DeskE b (D.begin c stamp) E' ∧ Mem wc w' (A ++ E') := by
  have hsl := hs.l
  obtain ⟨nm, hnm⟩ : ∃ nm, (nameP D.s c stamp).1 = nm := ⟨_, rfl⟩
  obtain ⟨er, her⟩ : ∃ er, (nameP D.s c stamp).2 = er := ⟨_, rfl⟩
  refine calls_enter Try.func19 rfl 69 rfl rfl ?_; intro a S
  refine nxD ?_
  refine st_box S M rfl rfl rfl #[_, _, _, _, _, _] rfl ?_; clear S M a; intro a w1 bX S M hB
  refine nxA ?_
  refine st_go [1] S rfl (by kernel_rfl) ?_; clear S a; intro a S
  refine st_y S rfl rfl rfl (y_loadAgg (cs := [_, _, _, _, _, _]) S (by kernel_rfl) rfl rfl (M.cellsAt (k := 6) 0 rfl rfl)) ?_; clear S a; intro a S
  refine st_go [1] S rfl (by kernel_rfl) ?_; clear S a; intro a S
  refine st_call (xs := [(Operand.tmp 9), (Operand.tmp 10), (Operand.tmp 11)]) S (enters_of Try.func31 (by decide) rfl) rfl rfl rfl (name_any (A := _ :: A) c da dl dc stamp hE M hs.small ht) ?_
  rintro _ w2 ⟨rfl, E1, hE1, M1⟩; refine ⟨_, rfl, ?_⟩; clear S M a; intro a S; have M := M1; clear M1
  rw [hnm, her] at S
  refine st_go [1, 1, 1] S rfl (by kernel_rfl) ?_; clear S a; intro a S
  refine st_alloc S M rfl rfl #[.int .i64 0, .int .i64 0, .int .i64 0] (by kernel_rfl) ?_; clear S M a; intro a w3 bN S M hB
  refine st_store (sz := 3) (us := [_, _, _]) S M 0 rfl (by kernel_rfl) rfl rfl rfl rfl rfl rfl (by first | decide | (simp; done) | (simp; omega)) ?_; clear M; intro w4 M
  simp only [putL, List.set_cons_zero, List.set_cons_succ, Nat.reduceAdd] at M
  refine st_go [1] S rfl (by kernel_rfl) ?_; clear S a; intro a S
  refine nxC ?_
  refine wp_seq ?_
  refine nxD ?_
  refine st_go [1, 1] S rfl (by kernel_rfl) ?_; clear S a; intro a S
  refine nxC ?_
  refine st_if (t := 16) S rfl ?_ ?_
  · clear S; intro h16 S
    refine st_condT S rfl ?_
    refine nxD ?_
    refine st_go [3] S rfl (by kernel_rfl) ?_; clear S a; intro a S
    refine st_store (sz := 1) (us := [_]) S M 1 rfl (by kernel_rfl) rfl rfl rfl rfl rfl rfl (by first | decide | (simp; done) | (simp; omega)) ?_; clear M; intro w5 M
    simp only [putL, List.set_cons_zero, List.set_cons_succ, Nat.reduceAdd] at M
    refine nxA ?_
    refine st_go [1] S rfl (by kernel_rfl) ?_; clear S a; intro a S
    refine st_y S rfl rfl rfl (y_loadAgg (cs := [_, _, _, _, _, _]) S (by kernel_rfl) rfl rfl (M.cellsAt (k := 6) 1 rfl rfl)) ?_; clear S a; intro a S
    refine st_go [1] S rfl (by kernel_rfl) ?_; clear S a; intro a S
    refine st_call (xs := [(Operand.tmp 18), (Operand.tmp 19), (Operand.tmp 20)]) S (enters_of Try.func32 (by decide) rfl) rfl rfl rfl (refused_any (A := _ :: _ :: A) { c with h := 0 } da dl dc er hE1 M hs.small) ?_
    rintro _ w6 ⟨rfl, E2, hE2, M1⟩; refine ⟨_, rfl, ?_⟩; clear S M a; intro a S; have M := M1; clear M1
    refine nxC ?_
    refine wp_ret ?_
    refine then_ret ?_
    refine end_none S rfl ?_
    refine ⟨rfl, E2, ?_, (M.drop 0).drop 0⟩
    unfold Dsk.begin
    rw [her, if_neg (by omega)]; exact hE2
  clear S; intro h16 S
  refine st_condF S rfl ?_
  refine wp_skip ?_
  refine then_normal ?_
  refine wp_seq ?_
  obtain ⟨rl, ro, rm, ra, rs, rc, re, M1⟩ := Dsk.open (A := _ :: _ :: A) hE1 M
  clear M; have M := M1; clear M1
  refine wp_region_lit ?_
  refine st_run [1, 1, 1, 2, 1] S M rfl (by kernel_rfl) ?_; clear S a; intro a S
  (first | refine st_y S rfl rfl rfl (y_addN S rfl rfl (by omega)) ?_ | refine st_y S rfl rfl rfl (y_int S rfl rfl rfl) ?_); clear S a; intro a S
  refine st_go [1, 1, 2] S rfl (by kernel_rfl) ?_; clear S a; intro a S
  refine st_store (sz := 1) (us := [_]) S M 0 rfl (by kernel_rfl) rfl rfl rfl rfl rfl rfl (by first | decide | (simp; done) | (simp; omega)) ?_; clear M; intro w7 M
  simp only [putL, List.set_cons_zero, List.set_cons_succ, Nat.reduceAdd] at M
  replace S := S.sub [(0, _), (1, _), (2, _), (4, _), (6, _), (7, _), (16, _)] rfl
  refine nxC ?_
  refine wp_seq ?_
  refine wp_regionK [16, 20] #[false, false, false, false, false, false, false, false, false, false, false, false, false, false, false, false, false, false, false, false, false] rfl M (by kernel_rfl) ?_; clear M; intro w8 M
  refine k_pure 0 S rfl (fun w => y_move S rfl) ?_; clear S a; intro a S
  refine k_pure 1 S rfl (fun w => y_move S rfl) ?_; clear S a; intro a S
  refine k_pure 2 S rfl (fun w => y_nilCheck S rfl) ?_; clear S a; intro a S
  refine k_pure 3 S rfl (fun w => y_fieldAddr (k := 0) S (by kernel_rfl) rfl) ?_; clear S a; intro a S
  refine k_pure 4 S rfl (fun w => y_fieldAddr (k := 0) S (by kernel_rfl) rfl) ?_; clear S a; intro a S
  refine k_read 5 S rfl (fun w hW => have M := M.grow hW; y_load S (by kernel_rfl) rfl (M.cell 0 rfl rfl)) ?_; clear S a; intro a S
  refine k_pure 6 S rfl (fun w => y_move S rfl) ?_; clear S a; intro a S
  refine k_pure 7 S rfl (fun w => y_nilCheck S rfl) ?_; clear S a; intro a S
  refine k_pure 8 S rfl (fun w => y_fieldAddr (k := 0) S (by kernel_rfl) rfl) ?_; clear S a; intro a S
  refine k_pure 9 S rfl (fun w => y_fieldAddr (k := 1) S (by kernel_rfl) rfl) ?_; clear S a; intro a S
  refine k_read 10 S rfl (fun w hW => have M := M.grow hW; y_load S (by kernel_rfl) rfl (M.cell 0 rfl rfl)) ?_; clear S a; intro a S
  refine k_pure 11 S rfl (fun w => y_fieldAddr (k := 1) S (by kernel_rfl) rfl) ?_; clear S a; intro a S
  refine k_read 12 S rfl (fun w hW => have M := M.grow hW; y_load S (by kernel_rfl) rfl (M.cell 9 rfl rfl)) ?_; clear S a; intro a S
  refine k_read 13 S rfl (fun w hW => have M := M.grow hW; y_loadAgg (cs := [_, _, _]) S (by kernel_rfl) rfl rfl (M.cellsAt (k := 3) 8 rfl rfl)) ?_; clear S a; intro a S
  refine k_pure 14 S rfl (fun w => y_build (ps := [(0, (Operand.tmp 41)), (1, (Operand.tmp 43)), (2, (Operand.tmp 44))]) (pl := [(0, 1), (1, 1), (2, 3), (5, 1), (6, 1), (7, 5), (12, 1), (13, 24)]) (z := [.int .i64 0, .int .i64 0, .int .i64 0, .int .i64 0, .int .i64 0, .int .i8 0, .int .i64 0, .int .i64 0, .int .i64 0, .int .i64 0, .int .i64 0, .int .i64 0, .int .i64 0, .int .i8 0, .int .i64 0, .int .i64 0, .int .i64 0, .int .i64 0, .int .i64 0, .int .i64 0, .int .i64 0, .int .i64 0, .int .i8 0, .int .i64 0, .int .u8 0, .int .u8 0, .int .u8 0, .int .u8 0, .int .u8 0, .int .u8 0, .int .u8 0, .int .u8 0, .int .i64 0, .bool false, .int .i64 0, .int .i64 0, .slice none 0 0]) (cs := (newOpe (D.s.last + 1) c.c nm).cellsL) S (by kernel_rfl) rfl (by kernel_rfl)) ?_; clear S a; intro a S
  refine k_one 15 rfl (by kernel_rfl) ?_
  refine st_lit (ps := [(0, (Operand.tmp 45))]) (e := 65) (sz := 37) (zl := [.int .i64 0, .int .i64 0, .int .i64 0, .int .i64 0, .int .i64 0, .int .i8 0, .int .i64 0, .int .i64 0, .int .i64 0, .int .i64 0, .int .i64 0, .int .i64 0, .int .i64 0, .int .i8 0, .int .i64 0, .int .i64 0, .int .i64 0, .int .i64 0, .int .i64 0, .int .i64 0, .int .i64 0, .int .i64 0, .int .i8 0, .int .i64 0, .int .u8 0, .int .u8 0, .int .u8 0, .int .u8 0, .int .u8 0, .int .u8 0, .int .u8 0, .int .u8 0, .int .i64 0, .bool false, .int .i64 0, .int .i64 0, .slice none 0 0]) (cs := (newOpe (D.s.last + 1) c.c nm).cellsL) S M rfl rfl (by kernel_rfl) rfl (by kernel_rfl) ?_; clear S M a; intro a w9 bZ S M hB
  refine wpList_nil ?_; refine then_normal ?_; refine ⟨fun _ => hB, ?_⟩
  refine k_one 16 rfl (by kernel_rfl) ?_
  refine st_append (e := 65) (sz := 37) (by_ := 256) (zc := [.int .i64 0, .int .i64 0, .int .i64 0, .int .i64 0, .int .i64 0, .int .i8 0, .int .i64 0, .int .i64 0, .int .i64 0, .int .i64 0, .int .i64 0, .int .i64 0, .int .i64 0, .int .i8 0, .int .i64 0, .int .i64 0, .int .i64 0, .int .i64 0, .int .i64 0, .int .i64 0, .int .i64 0, .int .i64 0, .int .i8 0, .int .i64 0, .int .u8 0, .int .u8 0, .int .u8 0, .int .u8 0, .int .u8 0, .int .u8 0, .int .u8 0, .int .u8 0, .int .i64 0, .bool false, .int .i64 0, .int .i64 0, .slice none 0 0]) S M 2 rfl rfl (by kernel_rfl) rfl (by decide) rfl rfl rfl (show Rd _ _ _ 37 _ 1 (newOpe (D.s.last + 1) c.c nm).cellsL from M.sliceAt 0 rfl (M.cellsAt (k := 37) 0 rfl rfl) rfl (Nat.le_refl _) (by unfold maxLen; omega)) (rfl) (by omega) (by unfold maxLen; omega) ?_; clear S M a; intro a w10 vA loA hiA S M
  refine wpList_nil ?_; refine then_normal ?_; refine ⟨fun h => absurd h (by decide), ?_⟩
  refine k_pure 17 S rfl (fun w => y_nilCheck S rfl) ?_; clear S a; intro a S
  refine k_pure 18 S rfl (fun w => y_fieldAddr (k := 0) S (by kernel_rfl) rfl) ?_; clear S a; intro a S
  refine k_pure 19 S rfl (fun w => y_fieldAddr (k := 0) S (by kernel_rfl) rfl) ?_; clear S a; intro a S
  refine k_one 20 rfl (by kernel_rfl) ?_
  obtain ⟨aL, cL, rfl, -, -⟩ := (M.readAll 0 rfl (by unfold maxLen; omega)).form
  refine st_store (sz := 1) (us := [_]) S M 2 rfl (by kernel_rfl) rfl rfl rfl rfl rfl rfl (by first | decide | (simp; done) | (simp; omega)) ?_; clear M; intro w11 M
  simp only [putL, List.set_cons_zero, List.set_cons_succ, Nat.reduceAdd] at M
  refine wpList_nil ?_; refine then_normal ?_; refine ⟨fun h => absurd h (by decide), ?_⟩
  refine k_end (by kernel_rfl) ?_
  replace S := S.sub [(0, _), (1, _), (2, _), (4, _), (6, _), (7, _), (16, _)] rfl
  refine then_normal ?_
  refine wp_seq ?_
  skip
  replace M := M.drop 1
  simp only [List.eraseIdx_cons_succ, List.eraseIdx_cons_zero] at M
  replace M := M.front 1 rfl
  simp only [List.eraseIdx_cons_succ, List.eraseIdx_cons_zero] at M
  refine wp_regionK [13] #[false, false, false, false, false, false, false, false, false, false, false, false, false, false] rfl M (by kernel_rfl) ?_; clear M; intro w12 M
  refine k_pure 0 S rfl (fun w => y_move S rfl) ?_; clear S a; intro a S
  refine k_pure 1 S rfl (fun w => y_fieldAddr (k := 1) S (by kernel_rfl) rfl) ?_; clear S a; intro a S
  refine k_read 2 S rfl (fun w hW => have M := M.grow hW; y_load S (by kernel_rfl) rfl (M.cell 9 rfl rfl)) ?_; clear S a; intro a S
  refine k_pure 3 S rfl (fun w => y_move S rfl) ?_; clear S a; intro a S
  refine k_pure 4 S rfl (fun w => y_nilCheck S rfl) ?_; clear S a; intro a S
  refine k_pure 5 S rfl (fun w => y_fieldAddr (k := 0) S (by kernel_rfl) rfl) ?_; clear S a; intro a S
  refine k_pure 6 S rfl (fun w => y_fieldAddr (k := 1) S (by kernel_rfl) rfl) ?_; clear S a; intro a S
  refine k_read 7 S rfl (fun w hW => have M := M.grow hW; y_load S (by kernel_rfl) rfl (M.cell 0 rfl rfl)) ?_; clear S a; intro a S
  refine k_pure 8 S rfl (fun w => y_fieldAddr (k := 0) S (by kernel_rfl) rfl) ?_; clear S a; intro a S
  refine k_read 9 S rfl (fun w hW => have M := M.grow hW; y_load S (by kernel_rfl) rfl (M.cell 8 rfl rfl)) ?_; clear S a; intro a S
  refine k_pure 10 S rfl (fun w => y_fieldAddr (k := 0) S (by kernel_rfl) rfl) ?_; clear S a; intro a S
  refine k_read 11 S rfl (fun w hW => have M := M.grow hW; y_load S (by kernel_rfl) rfl (M.cell 9 rfl rfl)) ?_; clear S a; intro a S
  refine k_pure 12 S rfl (fun w => y_build (ps := [(0, (Operand.tmp 53)), (1, (Operand.tmp 58)), (4, (Operand.tmp 60)), (5, (Operand.tmp 62))]) (pl := [(0, 1), (1, 1), (2, 1), (3, 8), (11, 1), (12, 1)]) (z := [.int .i64 0, .int .i64 0, .int .i64 0, .int .u8 0, .int .u8 0, .int .u8 0, .int .u8 0, .int .u8 0, .int .u8 0, .int .u8 0, .int .u8 0, .int .i64 0, .int .i8 0]) (cs := [_, _, _, _, _, _, _, _, _, _, _, _, _]) S (by kernel_rfl) rfl (rfl)) ?_; clear S a; intro a S
  refine k_one 13 rfl (by kernel_rfl) ?_
  have q1 : (D.opened c nm).s.l.length = D.s.l.length + 1 := by simp
  have q2 : fm Ope.cellsL (D.opened c nm).s.l = fm Ope.cellsL D.s.l ++ (newOpe (D.s.last + 1) c.c nm).cellsL := fm_snoc _ _ _
  obtain ⟨E2, hE2, M2⟩ := Dsk.closeG (D.opened c nm) ⟨aL, cL, loA, hiA⟩ ro rm ra rs rc re M (by unfold dskL; rw [q1]) (by unfold Rw.ent Rw.v; rw [q1, q2]) rfl rfl rfl rfl rfl rfl
  clear M; have M := M2; clear M2
  have hs2 : (D.opened c nm).small := ⟨by simp; omega, hs.small.over, hs.small.mail, hs.small.ans, hs.small.seen, hs.small.com, hs.small.ends⟩
  refine st_call (xs := [(Operand.tmp 51), (Operand.tmp 63)]) S (enters_of Try.func33 (by decide) rfl) rfl rfl rfl (answer_any (A := _ :: _ :: A) ⟨c.c, D.s.last + 1, 0, zV8, nm.stamp, c.kind⟩ hE2 M hs2) ?_
  rintro _ w13 ⟨rfl, E3, hE3, M1⟩; refine ⟨_, rfl, ?_⟩; clear S M a; intro a S; have M := M1; clear M1
  have hs3 : ((D.opened c nm).answer ⟨c.c, D.s.last + 1, 0, zV8, nm.stamp, c.kind⟩).small := ⟨hs2.l, hs2.over, hs2.mail, by have := hs.ans; simp; omega, hs2.seen, hs2.com, hs2.ends⟩
  refine wpList_nil ?_; refine then_normal ?_; refine ⟨fun h => absurd h (by decide), ?_⟩
  refine k_end (by kernel_rfl) ?_
  replace S := S.sub [(0, _), (1, _), (2, _), (4, _), (6, _), (7, _), (16, _)] rfl
  refine nxF ?_
  refine st_go [1] S rfl (by kernel_rfl) ?_; clear S a; intro a S
  refine st_y S rfl rfl rfl (y_loadAgg (cs := [_, _, _]) S (by kernel_rfl) rfl rfl (M.cellsAt (k := 3) 0 rfl rfl)) ?_; clear S a; intro a S
  refine st_y S rfl rfl rfl (y_build (ps := [(0, (Operand.const (Value.int IntKind.i8 0))), (1, (Operand.tmp 66))]) (pl := [(0, 1), (1, 3), (4, 1), (5, 8), (13, 1)]) (z := [.int .i8 0, .int .i64 0, .int .i64 0, .int .i64 0, .int .i64 0, .int .u8 0, .int .u8 0, .int .u8 0, .int .u8 0, .int .u8 0, .int .u8 0, .int .u8 0, .int .u8 0, .int .i64 0]) (cs := (⟨0, nm, 0, zV8, 0⟩ : Seen_).cellsL) S (by kernel_rfl) rfl (by kernel_rfl)) ?_; clear S a; intro a S
  refine st_call (xs := [(Operand.tmp 65), (Operand.tmp 67)]) S (enters_of Try.func34 (by decide) rfl) rfl rfl rfl (seen_any (A := _ :: _ :: A) ⟨0, nm, 0, zV8, 0⟩ hE3 M hs3) ?_
  rintro _ w14 ⟨rfl, E4, hE4, M1⟩; refine ⟨_, rfl, ?_⟩; clear S M a; intro a S; have M := M1; clear M1
  refine wpList_nil ?_
  refine end_noneN S rfl ?_
  refine ⟨rfl, E4, ?_, (M.drop 0).drop 0⟩
  unfold Dsk.begin
  rw [her, if_pos (by omega), hnm]; exact hE4
end Go.Proofs.Ytniijiipkfhjgaa

namespace Go.Proofs.Ytniijiipkfhjgaa
open Go.RowKit Go.Sort
variable {ds : List Deferred}
/-- cells in a row of one's own are set -/
theorem st_storeRow {P : Program} {ops : Array Oper} {Q : Exit → Act → World → Prop} {rest : List Oper} {n : Nat} {a : Act} {L : List (Nat × Value)} {w w0 : World} {H : List Ent} {x y : Operand} {T : TypeId} {lo hi e sz m j o' kk : Nat} {v u : Value} {cs us : List Value} {bb : Nat}
    (S : SeesD ds n a L) (M : Mem w0 w H) (pos : Nat) {t : TypeId} {p : String} {ed : Array Edge} {g : Option (Nat × Bool)} (hg : gd ops L ⟨none, .store T x y, t, p, ed, g⟩ = some true) (hT : (P.info? T).map (·.size) = some kk)
    (hx : val L x = some (.pointer (some ⟨bb, o', none⟩))) (hb : bb = (adr v).block) (ho : o' = (adr v).off + j) (hy : val L y = some u) (hu : u.cells.toList = us) (hsz : us.length = kk) (h1 : allOne us = true) (hp : H[pos]? = some (rowE lo hi e sz v m cs)) (hm : 0 < m) (hcl : cs.length = m * sz) (hle : j + us.length ≤ cs.length)
    (k : ∀ w' lo' hi', Mem w0 w' (rowE lo' hi' e sz v m (putL cs j us) :: H.eraseIdx pos) → wpList P ops Q rest a w') : wpList P ops Q (⟨none, .store T x y, t, p, ed, g⟩ :: rest) a w := by
  obtain ⟨gb, cap, more, rfl, hc1, hc2, hc3, M1⟩ := (M.front pos hp).ofRow hm
  simp only [adr] at hb ho
  subst hb ho
  rw [Nat.zero_add] at hx
  refine st_store (us := us) S M1 0 hg hT hx hy hu hsz h1 rfl (by rw [List.length_append]; omega) fun w' M2 => ?_
  simp only [List.set_cons_zero] at M2
  have e1 : putL (cs ++ more) j us = putL cs j us ++ more := by
    rw [putL_eq _ _ _ (by rw [List.length_append]; omega), putL_eq _ _ _ hle, List.take_append_of_le_length (by omega), List.drop_append_of_le_length (by omega)]
    simp only [List.append_assoc]
  rw [e1] at M2
  have hl : (putL cs j us).length = m * sz := by rw [putL_length]; exact hcl
  exact k w' _ _ (M2.toRow (sz := sz) (m := m) (cap := cap) (xs := putL cs j us) 0 rfl hl hc1 hc2 (by rw [List.size_toArray, List.length_append, hl, ← hc3, List.length_append, hcl]) (by rw [List.toList_toArray, ← hl]; exact List.take_left))
end Go.Proofs.Ytniijiipkfhjgaa

namespace Go.Proofs.Ytniijiipkfhjgaa
open Go.RowKit Go.Sort
theorem set_self {α : Type} {l : List α} {i : Nat} {x : α} (h : l[i]? = some x) : l.set i x = l := by
  obtain ⟨hlt, he⟩ := List.getElem?_eq_some_iff.1 h
  rw [← he]; exact List.set_getElem_self hlt
theorem fm_put {α : Type} {f : α → List Value} {sz : Nat} (hf : ∀ x, (f x).length = sz) {l : List α} {i : Nat} (hi : i < l.length) {x x' : α} {off : Nat} {us : List Value} (hle : off + us.length ≤ sz) (h : putL (f x) off us = f x') :
    putL (fm f (l.set i x)) (i * sz + off) us = fm f (l.set i x') := by
  have e : ∀ y, fm f (l.set i y) = fm f (l.take i) ++ (f y ++ fm f (l.drop (i + 1))) := fun y => by
    have hg : (l.set i y)[i]? = some y := by simp [hi]
    have := fm_mid f hg
    rw [List.take_set_of_le (Nat.le_refl _), List.drop_set_of_lt (by omega)] at this
    exact this
  have hA : (fm f (l.take i)).length = i * sz := by rw [fm_len hf, List.length_take, Nat.min_eq_left (by omega)]
  rw [e x, e x', ← h, ← hA]
  have hx := hf x
  rw [putL_eq _ _ _ (by simp only [List.length_append, hx]; omega), putL_eq us (f x) off (by omega)]
  rw [List.take_append, List.drop_append]
  simp only [List.length_append, List.append_assoc]
  rw [List.take_of_length_le (by omega), List.drop_of_length_le (l := fm f (l.take i)) (by omega)]
  rw [show (fm f (l.take i)).length + off - (fm f (l.take i)).length = off by omega, show (fm f (l.take i)).length + off + us.length - (fm f (l.take i)).length = off + us.length by omega]
  rw [List.take_append_of_le_length (by omega), List.drop_append_of_le_length (by omega)]
  simp
def Ope.nAt (o : Ope) : Nat → Int
  | 0 => o.n0 | 1 => o.n1 | 2 => o.n2 | 3 => o.n3 | _ => o.n4
def Ope.nSet (o : Ope) (k : Nat) (v : Int) : Ope := { o with n0 := if k = 0 then v else o.n0, n1 := if k = 1 then v else o.n1, n2 := if k = 2 then v else o.n2, n3 := if k = 3 then v else o.n3, n4 := if k = 4 then v else o.n4 }
theorem Ope.nAt_set (o : Ope) {k : Nat} (v : Int) (h : k ≤ 4) : (o.nSet k v).nAt k = v := by
  have : k = 0 ∨ k = 1 ∨ k = 2 ∨ k = 3 ∨ k = 4 := by omega
  rcases this with rfl | rfl | rfl | rfl | rfl <;> rfl
theorem Ope.nAt_cell (o : Ope) {k : Nat} (h : k ≤ 4) : o.cellsL[7 + k]? = some (.int .i64 (o.nAt k)) := by
  have : k = 0 ∨ k = 1 ∨ k = 2 ∨ k = 3 ∨ k = 4 := by omega
  rcases this with rfl | rfl | rfl | rfl | rfl <;> rfl
theorem Ope.nSet_cell (o : Ope) {k : Nat} (v : Int) (h : k ≤ 4) : putL o.cellsL (7 + k) [.int .i64 v] = (o.nSet k v).cellsL := by
  have : k = 0 ∨ k = 1 ∨ k = 2 ∨ k = 3 ∨ k = 4 := by omega
  rcases this with rfl | rfl | rfl | rfl | rfl <;> rfl
theorem ope_ex (o : Ope) : (o.cellsL.drop 13).take 24 = msgL o.ex := by kernel_rfl
theorem ope_putEx (o : Ope) (m : Msg) : putL o.cellsL 13 (msgL m) = ({ o with ex := m } : Ope).cellsL := by kernel_rfl
theorem ope_nm (o : Ope) : (o.cellsL.drop 2).take 3 = nmL o.nm := by kernel_rfl
def orI (x y : Int) : Int := IntKind.i64.wrap (BitVec.ofInt IntKind.i64.bits x ||| BitVec.ofInt IntKind.i64.bits y).toNat
/-- an exec of x, sent to the shard k -/
def Ope.ex1 (o : Ope) (k : Nat) (x : Msg) : Msg := { zMg with kind := 2, to := k, name := o.nm, n := o.nAt k + 1, op := x.op, block := x.block, val := x.val }
def Ope.execd (o : Ope) (k : Nat) (x : Msg) : Ope := { o.nSet k (o.nAt k + 1) with sh := orI o.sh (1 * (2 : Int) ^ k), ph := 1, at_ := k, ex := o.ex1 k x }
def execOk (D : Dsk) (o : Ope) (x : Msg) : Prop := shardE D.of x.block = 0 ∧ o.nAt (shardV D.of x.block).toNat < 1048576
instance (D : Dsk) (o : Ope) (x : Msg) : Decidable (execOk D o x) := by unfold execOk; infer_instance
abbrev Dsk.setO (D : Dsk) (i : Nat) (o : Ope) : Dsk := { D with s := { D.s with l := D.s.l.set i o } }
theorem shard_bd {of : Of8} {n : Int} (h : shardE of n = 0) : 1 ≤ shardV of n ∧ shardV of n ≤ 4 := by
  unfold shardE at h
  unfold shardV
  split at h
  · split at h
    · rename_i h1 h2
      rw [if_pos ⟨h1.1, h1.2, h2.1, h2.2⟩]; exact h2
    · omega
  · omega
/-- a sent exec -/
def Dsk.execd (D : Dsk) (i : Nat) (o : Ope) (x : Msg) : Dsk := (D.setO i (o.execd (shardV D.of x.block).toNat x)).mail (o.ex1 (shardV D.of x.block).toNat x)
set_option maxHeartbeats 4000000 in
theorem exec_anyR {wc w : World} {A E : List Ent} {b : Nat} {pa : Option Addr} {pc : Nat} {D : Dsk} (i : Nat) (o : Ope) (x : Msg) (hE : DeskR b pa pc D E) (M : Mem wc w (A ++ E)) (hs : D.tiny) (ho : D.s.l[i]? = some o) (hn : ∀ k, 0 ≤ o.nAt k ∧ o.nAt k ≤ 1048576) :
    Calls Try.prog 47 #[.pointer (some ⟨b, 0, none⟩), .int .i64 (i : Int), .agg (msgL x).toArray] w fun e w' => e = .returned (.bool (decide (execOk D o x))) ∧ ∃ E', DeskR b pa pc (if execOk D o x then D.execd i o x else D) E' ∧ Mem wc w' (A ++ E') := by
  have hsl := hs.l
  have hsm := hs.mail
  obtain ⟨hil, -⟩ := List.getElem?_eq_some_iff.1 ho
  obtain ⟨rl, ro, rm, ra, rs, rc, re, rfl, rfl, M1⟩ := Dsk.openR hE M
  clear M; have M := M1; clear M1 hE
  have hgs : ∀ y : Ope, (D.s.l.set i y)[i]? = some y := fun y => by simp [hil]
  have hfl : ∀ y : Ope, (fm Ope.cellsL (D.s.l.set i y)).length = D.s.l.length * 37 := fun y => by rw [fm_len len_ope, List.length_set]
  refine calls_enter Try.func47 rfl 100 rfl rfl ?_; intro a S
  refine wp_seq ?_
  skip
  refine wp_region_lit ?_
  refine st_box S M rfl rfl rfl #[_, _, _, _, _, _, _, _, _, _, _, _, _, _, _, _, _, _, _, _, _, _, _, _] rfl ?_; clear S M a; intro a w1 bX S M hB
  refine st_go [1] S rfl (by kernel_rfl) ?_; clear S a; intro a S
  refine nxA ?_
  refine st_run [1, 1, 1, 1, 2, 1] S M rfl (by kernel_rfl) ?_; clear S a; intro a S
  refine st_y S rfl rfl rfl (y_indexR (e := 65) (sz := 37) S (by kernel_rfl) rfl (M.readAll 2 rfl (by unfold maxLen; omega)) rfl (by first | omega | (simp; done) | (simp; omega))) ?_; clear S a; intro a S
  try simp only [Int.toNat_natCast, Nat.mul_one, Nat.zero_add] at S
  refine st_go [1] S rfl (by kernel_rfl) ?_; clear S a; intro a S
  refine nxC ?_
  refine wp_seq ?_
  refine wp_quiet M (by kernel_rfl) (by kernel_rfl) ?_
  refine qt_y S rfl rfl rfl (fun w M => y_move S rfl) ?_; clear S a; intro a S
  refine qt_y S rfl rfl rfl (fun w M => y_nilCheck S rfl) ?_; clear S a; intro a S
  refine qt_y S rfl rfl rfl (fun w M => y_fieldAddr (k := 9) S (by kernel_rfl) rfl) ?_; clear S a; intro a S
  refine qt_y S rfl rfl rfl (fun w M => y_loadAgg (cs := [_, _, _, _, _, _, _, _]) S (by kernel_rfl) rfl rfl (M.cellsAt (k := 8) 1 rfl rfl)) ?_; clear S a; intro a S
  refine qt_y S rfl rfl rfl (fun w M => y_fieldAddr (k := 10) S (by kernel_rfl) rfl) ?_; clear S a; intro a S
  refine qt_y S rfl rfl rfl (fun w M => y_load S (by kernel_rfl) rfl (M.cell 0 rfl rfl)) ?_; clear S a; intro a S
  refine qt_call (xs := [(Operand.tmp 21), (Operand.tmp 23)]) S (enters_of Try.func53 (by decide) rfl) rfl rfl rfl (quiet_of fun w M => shard_any _ _ w) ?_; clear S a; intro a S
  refine qt_y S rfl rfl rfl (fun w M => y_move S rfl) ?_; clear S a; intro a S
  refine qt_y S rfl rfl rfl (fun w M => y_extract S rfl rfl) ?_; clear S a; intro a S
  refine qt_y S rfl rfl rfl (fun w M => y_extract S rfl rfl) ?_; clear S a; intro a S
  refine qt_y S rfl rfl rfl (fun w M => y_assign S rfl) ?_; clear S a; intro a S
  refine qt_y S rfl rfl rfl (fun w M => y_assign S rfl) ?_; clear S a; intro a S
  refine wpQuiet_nil ?_; clear M; intro w3 M
  replace S := S.sub [(0, _), (1, _), (2, _), (5, _), (6, _), (7, _), (8, _), (9, _)] rfl
  refine then_normal ?_
  refine wp_seq ?_
  refine wp_seq ?_
  obtain ⟨er, her⟩ : ∃ er, shardE D.of x.block = er := ⟨_, rfl⟩
  obtain ⟨sv, hsv⟩ : ∃ sv, shardV D.of x.block = sv := ⟨_, rfl⟩
  have hbd := fun h => shard_bd (of := D.of) (n := x.block) h
  rw [her, hsv] at S hbd
  refine wp_region_lit ?_
  refine st_go [1, 1, 1] S rfl (by kernel_rfl) ?_; clear S a; intro a S
  refine st_if (t := 29) S rfl ?_ ?_
  · clear S; intro h29 S
    refine st_no S rfl rfl rfl ?_; clear S a; intro a S
    refine st_go [0, 0, 0, 0, 0, 0, 1] S rfl (by kernel_rfl) ?_; clear S a; intro a S
    refine nxC ?_
    refine st_condT S rfl ?_
    refine nxD ?_
    refine st_go [1] S rfl (by kernel_rfl) ?_; clear S a; intro a S
    refine nxC ?_
    refine wp_ret ?_
    refine then_ret ?_
    refine end_one S rfl (res_tmp rfl) ?_
    obtain ⟨E2, hE2, M2⟩ := Dsk.closeR (D := D) rl ro rm ra rs rc re (M.drop 0)
    have hno : ¬ execOk D o x := by
      rintro ⟨h1, h2⟩
      first
        | (rw [her] at h1; exact h29 h1)
        | (rw [hsv, Int.toNat_natCast] at h2; omega)
    rw [if_neg hno, decide_eq_false hno]
    exact ⟨rfl, E2, hE2, M2⟩
  clear S; intro h29 S
  obtain ⟨k, hk, hk1, hk4⟩ : ∃ k : Nat, sv = (k : Int) ∧ 1 ≤ k ∧ k ≤ 4 := ⟨sv.toNat, by have := hbd h29; omega, by have := hbd h29; omega, by have := hbd h29; omega⟩
  subst hk
  have hnk := hn k
  refine st_y S rfl rfl rfl (y_move S rfl) ?_; clear S a; intro a S
  refine st_go [1, 1, 8] S rfl (by kernel_rfl) ?_; clear S a; intro a S
  refine st_y S rfl rfl rfl (y_indexA (m := 5) (sz := 1) S (by kernel_rfl) rfl rfl (by first | omega | (simp; done) | (simp; omega))) ?_; clear S a; intro a S
  try simp only [Int.toNat_natCast, Nat.mul_one, Nat.zero_add] at S
  refine st_y S rfl rfl rfl (y_load S (by kernel_rfl) rfl ((by rw [Nat.add_assoc _ 7 k]; exact ((M.readAll 2 rfl (by unfold maxLen; omega)).at_.row (i := i) (fm_get len_ope ho) rfl (7 + k) (by show 7 + k < 37; omega)).trans (o.nAt_cell hk4)))) ?_; clear S a; intro a S
  refine st_go [1, 1] S rfl (by kernel_rfl) ?_; clear S a; intro a S
  refine nxC ?_
  refine st_if (t := 37) S rfl ?_ ?_
  · clear S; intro h37 S
    refine st_condT S rfl ?_
    refine nxD ?_
    refine st_go [1] S rfl (by kernel_rfl) ?_; clear S a; intro a S
    refine nxC ?_
    refine wp_ret ?_
    refine then_ret ?_
    refine end_one S rfl (res_tmp rfl) ?_
    obtain ⟨E2, hE2, M2⟩ := Dsk.closeR (D := D) rl ro rm ra rs rc re (M.drop 0)
    have hno : ¬ execOk D o x := by
      rintro ⟨h1, h2⟩
      first
        | (rw [her] at h1; exact h29 h1)
        | (rw [hsv, Int.toNat_natCast] at h2; omega)
    rw [if_neg hno, decide_eq_false hno]
    exact ⟨rfl, E2, hE2, M2⟩
  clear S; intro h37 S
  refine st_condF S rfl ?_
  refine wp_skip ?_
  refine then_normal ?_
  refine wp_seq ?_
  have hok : execOk D o x := ⟨by rw [her]; omega, by rw [hsv, Int.toNat_natCast]; omega⟩
  obtain ⟨o1, ho1⟩ : ∃ o1, o.nSet k (o.nAt k + 1) = o1 := ⟨_, rfl⟩
  have ho1s : o1.sh = o.sh := by rw [← ho1]; rfl
  have ho1n : o1.nm = o.nm := by rw [← ho1]; rfl
  have ho1k : o1.nAt k = o.nAt k + 1 := by rw [← ho1]; exact o.nAt_set _ hk4
  rw [show fm Ope.cellsL D.s.l = fm Ope.cellsL (D.s.l.set i o) by rw [set_self ho]] at M
  refine wp_regionK [10] #[false, false, false, false, false, false, false, false, false, false, false] rfl M (by kernel_rfl) ?_; clear M; intro w4 M
  refine k_pure 0 S rfl (fun w => y_move S rfl) ?_; clear S a; intro a S
  refine k_pure 1 S rfl (fun w => y_move S rfl) ?_; clear S a; intro a S
  refine k_pure 2 S rfl (fun w => y_nilCheck S rfl) ?_; clear S a; intro a S
  refine k_pure 3 S rfl (fun w => y_fieldAddr (k := 7) S (by kernel_rfl) rfl) ?_; clear S a; intro a S
  refine k_pure 4 S rfl (fun w => y_indexA (m := 5) (sz := 1) S (by kernel_rfl) rfl rfl (by first | omega | (simp; done) | (simp; omega))) ?_; clear S a; intro a S
  try simp only [Int.toNat_natCast, Nat.mul_one, Nat.zero_add] at S
  refine k_read 5 S rfl (fun w hW => have M := M.grow hW; y_load S (by kernel_rfl) rfl ((by rw [Nat.add_assoc _ 7 k]; exact (((M.readAll 2 rfl (by unfold maxLen; omega)).at_.row (i := i) (fm_get len_ope (hgs (o))) rfl) (7 + k) (by show 7 + k < 37; omega)).trans (o.nAt_cell hk4)))) ?_; clear S a; intro a S
  (first | refine k_pure 6 S rfl (fun w => y_addN S rfl rfl (by omega)) ?_ | refine k_pure 6 S rfl (fun w => y_int S rfl rfl rfl) ?_); clear S a; intro a S
  refine k_pure 7 S rfl (fun w => y_nilCheck S rfl) ?_; clear S a; intro a S
  refine k_pure 8 S rfl (fun w => y_fieldAddr (k := 7) S (by kernel_rfl) rfl) ?_; clear S a; intro a S
  refine k_pure 9 S rfl (fun w => y_indexA (m := 5) (sz := 1) S (by kernel_rfl) rfl rfl (by first | omega | (simp; done) | (simp; omega))) ?_; clear S a; intro a S
  try simp only [Int.toNat_natCast, Nat.mul_one, Nat.zero_add] at S
  refine k_one 10 rfl (by kernel_rfl) ?_
  refine st_storeRow (v := rl.v D.s.l.length) (sz := 37) (m := D.s.l.length) (j := i * 37 + (7 + k)) (us := [.int .i64 (o.nAt k + 1)]) S M 2 rfl (by kernel_rfl) rfl rfl (by first | rfl | omega | (simp only [Int.toNat_natCast]; omega)) rfl rfl rfl rfl rfl (by omega) (hfl o) (by rw [hfl]; show i * 37 + (7 + k) + 1 ≤ _; omega) ?_; clear M; intro wz lo9 hi9 M
  simp only [List.eraseIdx_cons_succ, List.eraseIdx_cons_zero] at M
  rw [fm_put (x' := o1) len_ope hil (by show (7 + k) + 1 ≤ 37; omega) (by rw [← ho1]; exact o.nSet_cell _ hk4)] at M
  refine wpList_nil ?_; refine then_normal ?_; refine ⟨fun h => absurd h (by decide), ?_⟩
  refine k_end (by kernel_rfl) ?_
  replace S := S.sub [(0, _), (1, _), (2, _), (5, _), (6, _), (7, _), (8, _), (9, _), (37, _)] rfl
  refine then_normal ?_
  refine wp_seq ?_
  refine wp_regionK [9] #[false, false, false, false, false, false, false, false, false, false] rfl M (by kernel_rfl) ?_; clear M; intro w5 M
  refine k_pure 0 S rfl (fun w => y_move S rfl) ?_; clear S a; intro a S
  refine k_pure 1 S rfl (fun w => y_nilCheck S rfl) ?_; clear S a; intro a S
  refine k_pure 2 S rfl (fun w => y_fieldAddr (k := 6) S (by kernel_rfl) rfl) ?_; clear S a; intro a S
  refine k_read 3 S rfl (fun w hW => have M := M.grow hW; y_load S (by kernel_rfl) rfl (((M.readAll 0 rfl (by unfold maxLen; omega)).at_.row (i := i) (fm_get len_ope (hgs (o1))) rfl) 6 (by show 6 < 37; omega))) ?_; clear S a; intro a S
  refine k_pure 4 S rfl (fun w => y_move S rfl) ?_; clear S a; intro a S
  (first | refine k_pure 5 S rfl (fun w => y_shlN S rfl rfl (by omega) (by first | exact shl_bd (by omega) | (rw [Int.toNat_natCast]; exact shl_bd (by omega)))) ?_ | refine k_pure 5 S rfl (fun w => y_shl S rfl rfl (by omega)) ?_); clear S a; intro a S
  (first | refine k_pure 6 S rfl (fun w => y_orN S rfl rfl (by omega) (by omega)) ?_ | refine k_pure 6 S rfl (fun w => y_int S rfl rfl rfl) ?_); clear S a; intro a S
  refine k_pure 7 S rfl (fun w => y_nilCheck S rfl) ?_; clear S a; intro a S
  refine k_pure 8 S rfl (fun w => y_fieldAddr (k := 6) S (by kernel_rfl) rfl) ?_; clear S a; intro a S
  refine k_one 9 rfl (by kernel_rfl) ?_
  refine st_storeRow (v := rl.v D.s.l.length) (sz := 37) (m := D.s.l.length) (j := i * 37 + 6) (us := [.int .i64 (orI o1.sh (1 * (2 : Int) ^ k))]) S M 0 rfl (by kernel_rfl) rfl rfl (by first | rfl | omega | (simp only [Int.toNat_natCast]; omega)) rfl rfl rfl rfl rfl (by omega) (hfl o1) (by rw [hfl]; show i * 37 + 6 + 1 ≤ _; omega) ?_; clear M; intro wz lo9 hi9 M
  simp only [List.eraseIdx_cons_succ, List.eraseIdx_cons_zero] at M
  rw [fm_put (x' := { o1 with sh := orI o1.sh (1 * (2 : Int) ^ k) }) len_ope hil (by show 6 + 1 ≤ 37; omega) (rfl)] at M
  refine wpList_nil ?_; refine then_normal ?_; refine ⟨fun h => absurd h (by decide), ?_⟩
  refine k_end (by kernel_rfl) ?_
  refine nxE ?_
  refine st_go [1, 1, 1, 1, 6] S rfl (by kernel_rfl) ?_; clear S a; intro a S
  refine st_storeRow (v := rl.v D.s.l.length) (sz := 37) (m := D.s.l.length) (j := i * 37 + 5) (us := [.int .i8 1]) S M 0 rfl (by kernel_rfl) rfl rfl (by first | rfl | omega | (simp only [Int.toNat_natCast]; omega)) rfl rfl rfl rfl rfl (by omega) (hfl { o1 with sh := orI o1.sh (1 * (2 : Int) ^ k) }) (by rw [hfl]; show i * 37 + 5 + 1 ≤ _; omega) ?_; clear M; intro wz lo9 hi9 M
  simp only [List.eraseIdx_cons_succ, List.eraseIdx_cons_zero] at M
  rw [fm_put (x' := { o1 with sh := orI o1.sh (1 * (2 : Int) ^ k), ph := 1 }) len_ope hil (by show 5 + 1 ≤ 37; omega) (rfl)] at M
  refine st_go [1, 13] S rfl (by kernel_rfl) ?_; clear S a; intro a S
  refine st_storeRow (v := rl.v D.s.l.length) (sz := 37) (m := D.s.l.length) (j := i * 37 + 12) (us := [.int .i64 (k : Int)]) S M 0 rfl (by kernel_rfl) rfl rfl (by first | rfl | omega | (simp only [Int.toNat_natCast]; omega)) rfl rfl rfl rfl rfl (by omega) (hfl { o1 with sh := orI o1.sh (1 * (2 : Int) ^ k), ph := 1 }) (by rw [hfl]; show i * 37 + 12 + 1 ≤ _; omega) ?_; clear M; intro wz lo9 hi9 M
  simp only [List.eraseIdx_cons_succ, List.eraseIdx_cons_zero] at M
  rw [fm_put (x' := { o1 with sh := orI o1.sh (1 * (2 : Int) ^ k), ph := 1, at_ := (k : Int) }) len_ope hil (by show 12 + 1 ≤ 37; omega) (rfl)] at M
  replace S := S.sub [(0, _), (1, _), (2, _), (5, _), (6, _), (7, _), (8, _), (9, _), (37, _)] rfl
  refine nxC ?_
  refine wp_seq ?_
  obtain ⟨o4, ho4⟩ : ∃ o4, ({ o1 with sh := orI o1.sh (1 * (2 : Int) ^ k), ph := 1, at_ := (k : Int) } : Ope) = o4 := ⟨_, rfl⟩
  rw [ho4] at M
  have ho4n : o4.nm = o.nm := by rw [← ho4]; exact ho1n
  have ho4k : o4.nAt k = o.nAt k + 1 := by rw [← ho1k, ← ho4]; rfl
  refine wp_regionK [21] #[false, false, false, false, false, false, false, false, false, false, false, false, false, false, false, false, false, false, false, false, false, false] rfl M (by kernel_rfl) ?_; clear M; intro w6 M
  refine k_pure 0 S rfl (fun w => y_move S rfl) ?_; clear S a; intro a S
  refine k_pure 1 S rfl (fun w => y_move S rfl) ?_; clear S a; intro a S
  refine k_pure 2 S rfl (fun w => y_move S rfl) ?_; clear S a; intro a S
  refine k_pure 3 S rfl (fun w => y_nilCheck S rfl) ?_; clear S a; intro a S
  refine k_pure 4 S rfl (fun w => y_fieldAddr (k := 2) S (by kernel_rfl) rfl) ?_; clear S a; intro a S
  refine k_read 5 S rfl (fun w hW => have M := M.grow hW; y_loadAgg S (by kernel_rfl) rfl rfl (show CellsAt _ _ _ (nmL o.nm) from (by rw [← ho4n, ← ope_nm o4]; exact ((M.readAll 0 rfl (by unfold maxLen; omega)).at_.row (i := i) (fm_get len_ope (hgs (o4))) rfl).sub (i := 2) (k := 3)))) ?_; clear S a; intro a S
  refine k_pure 6 S rfl (fun w => y_move S rfl) ?_; clear S a; intro a S
  refine k_pure 7 S rfl (fun w => y_move S rfl) ?_; clear S a; intro a S
  refine k_pure 8 S rfl (fun w => y_nilCheck S rfl) ?_; clear S a; intro a S
  refine k_pure 9 S rfl (fun w => y_fieldAddr (k := 7) S (by kernel_rfl) rfl) ?_; clear S a; intro a S
  refine k_pure 10 S rfl (fun w => y_indexA (m := 5) (sz := 1) S (by kernel_rfl) rfl rfl (by first | omega | (simp; done) | (simp; omega))) ?_; clear S a; intro a S
  try simp only [Int.toNat_natCast, Nat.mul_one, Nat.zero_add] at S
  refine k_read 11 S rfl (fun w hW => have M := M.grow hW; y_load S (by kernel_rfl) rfl ((by rw [Nat.add_assoc _ 7 k]; exact (((M.readAll 0 rfl (by unfold maxLen; omega)).at_.row (i := i) (fm_get len_ope (hgs (o4))) rfl) (7 + k) (by show 7 + k < 37; omega)).trans (by rw [o4.nAt_cell hk4, ho4k])))) ?_; clear S a; intro a S
  refine k_pure 12 S rfl (fun w => y_fieldAddr (k := 9) S (by kernel_rfl) rfl) ?_; clear S a; intro a S
  refine k_read 13 S rfl (fun w hW => have M := M.grow hW; y_load S (by kernel_rfl) rfl (M.cell 1 rfl rfl)) ?_; clear S a; intro a S
  refine k_pure 14 S rfl (fun w => y_fieldAddr (k := 10) S (by kernel_rfl) rfl) ?_; clear S a; intro a S
  refine k_read 15 S rfl (fun w hW => have M := M.grow hW; y_load S (by kernel_rfl) rfl (M.cell 1 rfl rfl)) ?_; clear S a; intro a S
  refine k_pure 16 S rfl (fun w => y_fieldAddr (k := 11) S (by kernel_rfl) rfl) ?_; clear S a; intro a S
  refine k_read 17 S rfl (fun w hW => have M := M.grow hW; y_loadAgg (cs := [_, _, _, _, _, _, _, _]) S (by kernel_rfl) rfl rfl (M.cellsAt (k := 8) 1 rfl rfl)) ?_; clear S a; intro a S
  refine k_pure 18 S rfl (fun w => y_build (ps := [(0, (Operand.const (Value.int IntKind.i8 2))), (2, (Operand.tmp 65)), (5, (Operand.tmp 69)), (6, (Operand.tmp 75)), (7, (Operand.tmp 77)), (8, (Operand.tmp 79)), (9, (Operand.tmp 81))]) (pl := [(0, 1), (1, 1), (2, 1), (3, 1), (4, 1), (5, 3), (8, 1), (9, 1), (10, 1), (11, 8), (19, 1), (20, 1), (21, 1), (22, 1), (23, 1)]) (z := [.int .i8 0, .int .i64 0, .int .i64 0, .int .i64 0, .int .i64 0, .int .i64 0, .int .i64 0, .int .i64 0, .int .i64 0, .int .i8 0, .int .i64 0, .int .u8 0, .int .u8 0, .int .u8 0, .int .u8 0, .int .u8 0, .int .u8 0, .int .u8 0, .int .u8 0, .int .i64 0, .bool false, .int .i64 0, .int .i64 0, .slice none 0 0]) (cs := msgL (o.ex1 k x)) S (by kernel_rfl) rfl (by kernel_rfl)) ?_; clear S a; intro a S
  refine k_pure 19 S rfl (fun w => y_nilCheck S rfl) ?_; clear S a; intro a S
  refine k_pure 20 S rfl (fun w => y_fieldAddr (k := 13) S (by kernel_rfl) rfl) ?_; clear S a; intro a S
  refine k_one 21 rfl (by kernel_rfl) ?_
  refine st_storeRow (v := rl.v D.s.l.length) (sz := 37) (m := D.s.l.length) (j := i * 37 + 13) (us := (msgL (o.ex1 k x))) S M 0 rfl (by kernel_rfl) rfl rfl (by first | rfl | omega | (simp only [Int.toNat_natCast]; omega)) rfl rfl rfl rfl rfl (by omega) (hfl o4) (by rw [hfl]; show i * 37 + 13 + 24 ≤ _; omega) ?_; clear M; intro wz lo9 hi9 M
  simp only [List.eraseIdx_cons_succ, List.eraseIdx_cons_zero] at M
  rw [fm_put (x' := { o4 with ex := o.ex1 k x }) len_ope hil (by show 13 + 24 ≤ 37; omega) (ope_putEx o4 _)] at M
  refine wpList_nil ?_; refine then_normal ?_; refine ⟨fun h => absurd h (by decide), ?_⟩
  refine k_end (by kernel_rfl) ?_
  replace S := S.sub [(0, _), (1, _), (2, _), (5, _), (6, _), (7, _), (8, _), (9, _), (37, _)] rfl
  refine then_normal ?_
  refine wp_seq ?_
  obtain ⟨o5, ho5⟩ : ∃ o5, ({ o4 with ex := o.ex1 k x } : Ope) = o5 := ⟨_, rfl⟩
  rw [ho5] at M
  have ho5x : o5.ex = o.ex1 k x := by rw [← ho5]
  have ho5e : o5 = o.execd k x := by rw [← ho5, ← ho4, ← ho1]; rfl
  refine wp_regionK [11, 15] #[false, false, false, false, false, false, false, false, false, false, false, false, false, false, false, false] rfl M (by kernel_rfl) ?_; clear M; intro w7 M
  refine k_pure 0 S rfl (fun w => y_move S rfl) ?_; clear S a; intro a S
  refine k_pure 1 S rfl (fun w => y_move S rfl) ?_; clear S a; intro a S
  refine k_pure 2 S rfl (fun w => y_nilCheck S rfl) ?_; clear S a; intro a S
  refine k_pure 3 S rfl (fun w => y_fieldAddr (k := 4) S (by kernel_rfl) rfl) ?_; clear S a; intro a S
  refine k_pure 4 S rfl (fun w => y_fieldAddr (k := 0) S (by kernel_rfl) rfl) ?_; clear S a; intro a S
  refine k_read 5 S rfl (fun w hW => have M := M.grow hW; y_load S (by kernel_rfl) rfl (M.cell 2 rfl rfl)) ?_; clear S a; intro a S
  refine k_pure 6 S rfl (fun w => y_move S rfl) ?_; clear S a; intro a S
  refine k_pure 7 S rfl (fun w => y_nilCheck S rfl) ?_; clear S a; intro a S
  refine k_pure 8 S rfl (fun w => y_fieldAddr (k := 13) S (by kernel_rfl) rfl) ?_; clear S a; intro a S
  refine k_read 9 S rfl (fun w hW => have M := M.grow hW; y_loadAgg S (by kernel_rfl) rfl rfl (show CellsAt _ _ _ (msgL (o.ex1 k x)) from (by rw [← ho5x, ← ope_ex o5]; exact ((M.readAll 0 rfl (by unfold maxLen; omega)).at_.row (i := i) (fm_get len_ope (hgs (o5))) rfl).sub (i := 13) (k := 24)))) ?_; clear S a; intro a S
  refine k_one 10 rfl (by kernel_rfl) ?_
  refine st_lit (ps := [(0, (Operand.tmp 94))]) (e := 45) (sz := 24) (zl := [.int .i8 0, .int .i64 0, .int .i64 0, .int .i64 0, .int .i64 0, .int .i64 0, .int .i64 0, .int .i64 0, .int .i64 0, .int .i8 0, .int .i64 0, .int .u8 0, .int .u8 0, .int .u8 0, .int .u8 0, .int .u8 0, .int .u8 0, .int .u8 0, .int .u8 0, .int .i64 0, .bool false, .int .i64 0, .int .i64 0, .slice none 0 0]) (cs := msgL (o.ex1 k x)) S M rfl rfl (by kernel_rfl) rfl (by kernel_rfl) ?_; clear S M a; intro a w8 bZ2 S M hB
  refine wpList_nil ?_; refine then_normal ?_; refine ⟨fun _ => hB, ?_⟩
  refine k_one 11 rfl (by kernel_rfl) ?_
  refine st_append (e := 45) (sz := 24) (by_ := 152) (zc := [.int .i8 0, .int .i64 0, .int .i64 0, .int .i64 0, .int .i64 0, .int .i64 0, .int .i64 0, .int .i64 0, .int .i64 0, .int .i8 0, .int .i64 0, .int .u8 0, .int .u8 0, .int .u8 0, .int .u8 0, .int .u8 0, .int .u8 0, .int .u8 0, .int .u8 0, .int .i64 0, .bool false, .int .i64 0, .int .i64 0, .slice none 0 0]) S M 5 rfl rfl (by kernel_rfl) rfl (by decide) rfl rfl rfl (show Rd _ _ _ 24 _ 1 (msgL (o.ex1 k x)) from M.sliceAt 0 rfl (M.cellsAt (k := 24) 0 rfl rfl) rfl (Nat.le_refl _) (by unfold maxLen; omega)) (rfl) (by omega) (by unfold maxLen; omega) ?_; clear S M a; intro a w9 vA loA hiA S M
  refine wpList_nil ?_; refine then_normal ?_; refine ⟨fun h => absurd h (by decide), ?_⟩
  refine k_pure 12 S rfl (fun w => y_nilCheck S rfl) ?_; clear S a; intro a S
  refine k_pure 13 S rfl (fun w => y_fieldAddr (k := 4) S (by kernel_rfl) rfl) ?_; clear S a; intro a S
  refine k_pure 14 S rfl (fun w => y_fieldAddr (k := 0) S (by kernel_rfl) rfl) ?_; clear S a; intro a S
  refine k_one 15 rfl (by kernel_rfl) ?_
  obtain ⟨aM, cM, rfl, -, -⟩ := (M.readAll 0 rfl (by unfold maxLen; omega)).form
  refine st_store (sz := 1) (us := [_]) S M 4 rfl (by kernel_rfl) rfl rfl rfl rfl rfl rfl (by first | decide | (simp; done) | (simp; omega)) ?_; clear M; intro w10 M
  simp only [putL, List.set_cons_zero, List.set_cons_succ, Nat.reduceAdd] at M
  refine wpList_nil ?_; refine then_normal ?_; refine ⟨fun h => absurd h (by decide), ?_⟩
  refine k_end (by kernel_rfl) ?_
  replace S := S.sub [(0, _), (1, _), (2, _), (5, _), (6, _), (7, _), (8, _), (9, _), (37, _)] rfl
  refine nxE ?_
  refine st_go [1] S rfl (by kernel_rfl) ?_; clear S a; intro a S
  refine nxC ?_
  refine wp_ret ?_
  refine end_one S rfl (res_tmp rfl) ?_
  skip
  replace M := M.drop 1
  simp only [List.eraseIdx_cons_succ, List.eraseIdx_cons_zero] at M
  replace M := M.drop 2
  simp only [List.eraseIdx_cons_succ, List.eraseIdx_cons_zero] at M
  replace M := M.ord [3, 2, 3] (by simp only [ordO, oG, oS, oE, oZ, oB] <;> rfl)
  rw [if_pos hok, decide_eq_true hok]
  subst ho5e
  have hDe : D.execd i o x = (D.setO i (o.execd k x)).mail (o.ex1 k x) := by unfold Dsk.execd; rw [hsv, Int.toNat_natCast]
  rw [hDe]
  have q1 : ((D.setO i (o.execd k x)).mail (o.ex1 k x)).s.l.length = D.s.l.length := List.length_set
  have q2 : ((D.setO i (o.execd k x)).mail (o.ex1 k x)).t.mail.length = D.t.mail.length + 1 := by simp
  have q3 : fm msgL ((D.setO i (o.execd k x)).mail (o.ex1 k x)).t.mail = fm msgL D.t.mail ++ msgL (o.ex1 k x) := fm_snoc _ _ _
  obtain ⟨E2, hE2, M2⟩ := Dsk.closeGR ((D.setO i (o.execd k x)).mail (o.ex1 k x)) ⟨rl.a, rl.c, lo9, hi9⟩ ro ⟨aM, cM, loA, hiA⟩ ra rs rc re M (by unfold dskL; rw [q1, q2]) (by unfold Rw.ent Rw.v; rw [q1]) rfl (by unfold Rw.ent Rw.v; rw [q2, q3]) rfl rfl rfl rfl
  exact ⟨rfl, E2, hE2, M2⟩
theorem exec_any {wc w : World} {A E : List Ent} {b : Nat} {D : Dsk} (i : Nat) (o : Ope) (x : Msg) (hE : DeskE b D E) (M : Mem wc w (A ++ E)) (hs : D.tiny) (ho : D.s.l[i]? = some o) (hn : ∀ k, 0 ≤ o.nAt k ∧ o.nAt k ≤ 1048576) :
    Calls Try.prog 47 #[.pointer (some ⟨b, 0, none⟩), .int .i64 (i : Int), .agg (msgL x).toArray] w fun e w' => e = .returned (.bool (decide (execOk D o x))) ∧ ∃ E', DeskE b (if execOk D o x then D.execd i o x else D) E' ∧ Mem wc w' (A ++ E') := by
  obtain ⟨pa, pc, hR⟩ := hE.ref
  refine Calls.mono (exec_anyR i o x hR M hs ho hn) fun e w' h => ?_
  obtain ⟨h1, E', h2, h3⟩ := h
  exact ⟨h1, E', h2.desk, h3⟩
end Go.Proofs.Ytniijiipkfhjgaa

namespace Go.Proofs.Ytniijiipkfhjgaa
open Go.RowKit Go.Sort
abbrev endE (b b3 b4 b5 b7 : Nat) (o : Ope) (i : Nat) (kd : Int) (A : List Ent) : List Ent := .blk b7 o.cellsL.toArray 65 :: .blk b5 #[.int .i8 kd] 35 :: .blk b4 #[.int .i64 (i : Int)] 3 :: .blk b3 #[.pointer (some ⟨b, 0, none⟩)] 76 :: A
set_option maxHeartbeats 2000000 in
theorem ending_any {wc w : World} {A E : List Ent} {b : Nat} {D : Dsk} (i : Nat) (o : Ope) (kd : Int) (hE : DeskE b D E) (M : Mem wc w (A ++ E)) (hs : D.mid) (ho : D.s.l[i]? = some o) :
    Calls Try.prog 24 #[.pointer (some ⟨b, 0, none⟩), .int .i64 (i : Int), .int .i8 kd] w fun e w' => ∃ b3 b4 b5 b7, e = .returned (.func (.func 48) #[] #[.pointer (some ⟨b3, 0, none⟩), .pointer (some ⟨b7, 0, none⟩), .pointer (some ⟨b4, 0, none⟩), .pointer (some ⟨b5, 0, none⟩)]) ∧ ∃ E', DeskE b D E' ∧ Mem wc w' (endE b b3 b4 b5 b7 o i kd A ++ E') := by
  have hsl := hs.l
  obtain ⟨hil, -⟩ := List.getElem?_eq_some_iff.1 ho
  obtain ⟨rl, ro, rm, ra, rs, rc, re, M1⟩ := Dsk.open hE M
  clear M; have M := M1; clear M1 hE
  refine calls_enter Try.func24 rfl 17 rfl rfl ?_; intro a S
  refine wp_seq ?_
  skip
  refine wp_region_lit ?_
  refine st_box S M rfl rfl rfl #[_] rfl ?_; clear S M a; intro a w1 bP3 S M hB
  refine st_box S M rfl rfl rfl #[_] rfl ?_; clear S M a; intro a w2 bP4 S M hB
  refine st_box S M rfl rfl rfl #[_] rfl ?_; clear S M a; intro a w3 bP5 S M hB
  refine st_go [1] S rfl (by kernel_rfl) ?_; clear S a; intro a S
  refine nxC ?_
  refine wp_seq ?_
  refine wp_regionK [9] #[false, false, false, false, false, false, false, false, false, false] rfl M (by kernel_rfl) ?_; clear M; intro w4 M
  refine k_read 0 S rfl (fun w hW => have M := M.grow hW; y_load S (by kernel_rfl) rfl (M.cell 2 rfl rfl)) ?_; clear S a; intro a S
  skip
  refine k_pure 1 S rfl (fun w => y_nilCheck S rfl) ?_; clear S a; intro a S
  refine k_pure 2 S rfl (fun w => y_fieldAddr (k := 0) S (by kernel_rfl) rfl) ?_; clear S a; intro a S
  refine k_pure 3 S rfl (fun w => y_fieldAddr (k := 0) S (by kernel_rfl) rfl) ?_; clear S a; intro a S
  refine k_read 4 S rfl (fun w hW => have M := M.grow hW; y_load S (by kernel_rfl) rfl (M.cell 3 rfl rfl)) ?_; clear S a; intro a S
  refine k_read 5 S rfl (fun w hW => have M := M.grow hW; y_load S (by kernel_rfl) rfl (M.cell 1 rfl rfl)) ?_; clear S a; intro a S
  refine k_read 6 S rfl (fun w hW => have M := M.grow hW; y_indexR (e := 65) (sz := 37) S (by kernel_rfl) rfl (M.readAll 4 rfl (by unfold maxLen; omega)) rfl (by first | omega | (simp; done) | (simp; omega))) ?_; clear S a; intro a S
  try simp only [Int.toNat_natCast, Nat.mul_one, Nat.zero_add] at S
  refine k_read 7 S rfl (fun w hW => have M := M.grow hW; y_loadAgg S (by kernel_rfl) rfl rfl ((M.readAll 4 rfl (by unfold maxLen; omega)).at_.row (i := i) (fm_get len_ope ho) rfl)) ?_; clear S a; intro a S
  refine k_one 8 rfl (by kernel_rfl) ?_
  refine st_alloc S M rfl rfl #[.int .i64 0, .int .i64 0, .int .i64 0, .int .i64 0, .int .i64 0, .int .i8 0, .int .i64 0, .int .i64 0, .int .i64 0, .int .i64 0, .int .i64 0, .int .i64 0, .int .i64 0, .int .i8 0, .int .i64 0, .int .i64 0, .int .i64 0, .int .i64 0, .int .i64 0, .int .i64 0, .int .i64 0, .int .i64 0, .int .i8 0, .int .i64 0, .int .u8 0, .int .u8 0, .int .u8 0, .int .u8 0, .int .u8 0, .int .u8 0, .int .u8 0, .int .u8 0, .int .i64 0, .bool false, .int .i64 0, .int .i64 0, .slice none 0 0] (by kernel_rfl) ?_; clear S M a; intro a w5 bP7 S M hB
  refine wpList_nil ?_; refine then_normal ?_; refine ⟨fun _ => hB, ?_⟩
  refine k_one 9 rfl (by kernel_rfl) ?_
  refine st_store (sz := 37) (us := [_, _, _, _, _, _, _, _, _, _, _, _, _, _, _, _, _, _, _, _, _, _, _, _, _, _, _, _, _, _, _, _, _, _, _, _, _]) S M 0 rfl (by kernel_rfl) rfl rfl rfl rfl rfl rfl (by first | decide | (simp; done) | (simp; omega)) ?_; clear M; intro w6 M
  simp only [putL, List.set_cons_zero, List.set_cons_succ, Nat.reduceAdd] at M
  refine wpList_nil ?_; refine then_normal ?_; refine ⟨fun h => absurd h (by decide), ?_⟩
  refine k_end (by kernel_rfl) ?_
  refine nxE ?_
  refine st_y S rfl rfl rfl (y_makeFunc (fs := []) (cs := [(Operand.tmp 3), (Operand.tmp 7), (Operand.tmp 4), (Operand.tmp 5)]) S rfl rfl) ?_; clear S a; intro a S
  refine st_go [1] S rfl (by kernel_rfl) ?_; clear S a; intro a S
  refine nxC ?_
  refine wp_ret ?_
  refine end_one S rfl (res_tmp rfl) ?_
  refine ⟨bP3, bP4, bP5, bP7, rfl, ?_⟩
  obtain ⟨E2, hE2, M2⟩ := Dsk.close (D := D) (A := endE b bP3 bP4 bP5 bP7 o i kd A) rl ro rm ra rs rc re (M.perm ((List.perm_append_comm (l₁ := [_, _, _, _]) (l₂ := dskE b D rl ro rm ra rs rc re)).append_right A |>.trans (by rw [List.append_assoc]; exact List.Perm.refl _)))
  exact ⟨E2, hE2, M2⟩
def Dsk.ended (D : Dsk) (i : Nat) (o : Ope) (kd er an : Int) (told : Bool) : Dsk :=
  ⟨{ D.s with l := D.s.l.eraseIdx i, over := D.s.over ++ [⟨o.h, o.c, o.nm.stamp, o.nm.try_, er⟩] },
    { D.t with ans := D.t.ans ++ (if told = true then [⟨o.c, o.h, an, zV8, o.nm.stamp, kd⟩] else []), seen := D.t.seen ++ [⟨4, o.nm, 0, zV8, er⟩] }, D.of⟩
theorem fm_del {α : Type} {f : α → List Value} {sz : Nat} (hf : ∀ x, (f x).length = sz) {l : List α} {i : Nat} (hi : i < l.length) : (fm f l).take (i * sz) ++ (fm f l).drop ((i + 1) * sz) = fm f (l.eraseIdx i) := by
  rw [List.eraseIdx_eq_take_drop_succ, fm_append]
  have e := fm_mid f (List.getElem?_eq_getElem hi)
  have hA : (fm f (l.take i)).length = i * sz := by rw [fm_len hf, List.length_take, Nat.min_eq_left (by omega)]
  have hx := hf l[i]
  congr 1
  · rw [e, ← hA, List.take_left]
  · have e2 : fm f l = (fm f (l.take i) ++ f l[i]) ++ fm f (l.drop (i + 1)) := by rw [List.append_assoc]; exact e
    have hB : (fm f (l.take i) ++ f l[i]).length = (i + 1) * sz := by rw [List.length_append, hA, hx, Nat.add_mul, Nat.one_mul]
    rw [e2, ← hB, List.drop_left]
theorem one_ope (o : Ope) : allOne o.cellsL = true := by kernel_rfl
theorem fm_one_drop {α : Type} {f : α → List Value} {sz : Nat} (hf : ∀ x, (f x).length = sz) (h1 : ∀ x, allOne (f x) = true) (l : List α) (i : Nat) : allOne ((fm f l).drop (i * sz)) = true := by
  have h : ∀ (n : Nat) (l : List Value), allOne l = true → allOne (l.drop n) = true := fun n l => by
    induction n generalizing l with
    | zero => exact id
    | succ n ih =>
      cases l with
      | nil => exact id
      | cons u l =>
        intro h
        simp only [allOne, Bool.and_eq_true] at h
        exact ih l h.2
  exact h _ _ (fm_one h1 l)
theorem subA_at {g i c sz : Nat} (h : i < c) : subA (some ⟨g, 0, none⟩) i c sz = some ⟨g, i * sz, none⟩ := by
  unfold subA; rw [if_neg (by omega)]; simp [Addr.add]; exact fun h => h.symm
theorem lenK {cs more : List Value} {m c k sz : Nat} (hl : cs.length = m * sz) (hmc : (cs ++ more).length = c * sz) (hk : k < m) :
    ((cs ++ more).take (k * sz) ++ cs.drop ((k + 1) * sz) ++ (cs ++ more).drop (k * sz + (cs.drop ((k + 1) * sz)).length)) = (cs.take (k * sz) ++ cs.drop ((k + 1) * sz)) ++ (cs ++ more).drop ((m - 1) * sz) := by
  have h1 : (k + 1) * sz ≤ m * sz := Nat.mul_le_mul_right _ hk
  have h2 : (k + 1) * sz = k * sz + sz := by rw [Nat.add_mul, Nat.one_mul]
  have h3 : (m - 1) * sz + sz = m * sz := by rw [← Nat.succ_mul]; congr 1; omega
  rw [List.take_append_of_le_length (by omega)]
  congr 2
  rw [List.length_drop, hl]; omega
set_option maxHeartbeats 4000000 in
theorem ending1_any {wc w : World} {A E : List Ent} {b b3 b4 b5 b7 : Nat} {D : Dsk} (i : Nat) (o : Ope) (kd er an : Int) (told : Bool) (hE : DeskE b D E) (M : Mem wc w (endE b b3 b4 b5 b7 o i kd A ++ E)) (hs : D.mid) (hi : i < D.s.l.length) :
    Calls Try.prog 48 #[.int .i64 er, .int .i64 an, .bool told, .pointer (some ⟨b3, 0, none⟩), .pointer (some ⟨b7, 0, none⟩), .pointer (some ⟨b4, 0, none⟩), .pointer (some ⟨b5, 0, none⟩)] w fun e w' => e = .returned (.tuple #[]) ∧ ∃ E', DeskE b (D.ended i o kd er an told) E' ∧ Mem wc w' (A ++ E') := by
  have hsl := hs.l
  have hso := hs.over
  obtain ⟨⟨la, lc, llo, lhi⟩, ro, rm, ra, rs, rc, re, M1⟩ := Dsk.open hE M
  clear M; have M := M1; clear M1 hE
  refine calls_enter Try.func48 rfl 72 rfl rfl ?_; intro a S
  refine wp_seq ?_
  skip
  refine wp_regionKC (C := fun W => Blk W b3 #[.pointer (some ⟨b, 0, none⟩)] 76) [19, 23] #[false, false, false, false, false, false, false, false, false, false, false, false, false, false, false, false, false, false, false, false, false, false, false, false] rfl M (by kernel_rfl) ?_; clear M; intro w1 M; have hC := M.blk 11 rfl
  refine kc_readC 0 S rfl hC (fun w hC => y_load S (by kernel_rfl) rfl (hC.cells 0)) ?_; clear S a; intro a S
  refine kc_read 1 S rfl hC (fun w hW => have M := M.grow hW; y_load S (by kernel_rfl) rfl (M.cell 11 rfl rfl)) ?_; clear S a; intro a S
  skip
  refine kc_readC 2 S rfl hC (fun w _ => y_nilCheck S rfl) ?_; clear S a; intro a S
  refine kc_readC 3 S rfl hC (fun w _ => y_fieldAddr (k := 0) S (by kernel_rfl) rfl) ?_; clear S a; intro a S
  refine kc_readC 4 S rfl hC (fun w _ => y_fieldAddr (k := 3) S (by kernel_rfl) rfl) ?_; clear S a; intro a S
  refine kc_read 5 S rfl hC (fun w hW => have M := M.grow hW; y_load S (by kernel_rfl) rfl (M.cell 0 rfl rfl)) ?_; clear S a; intro a S
  refine kc_readC 6 S rfl hC (fun w _ => y_fieldAddr (k := 0) S (by kernel_rfl) rfl) ?_; clear S a; intro a S
  refine kc_read 7 S rfl hC (fun w hW => have M := M.grow hW; y_load S (by kernel_rfl) rfl (M.cell 8 rfl rfl)) ?_; clear S a; intro a S
  refine kc_readC 8 S rfl hC (fun w _ => y_fieldAddr (k := 1) S (by kernel_rfl) rfl) ?_; clear S a; intro a S
  refine kc_read 9 S rfl hC (fun w hW => have M := M.grow hW; y_load S (by kernel_rfl) rfl (M.cell 8 rfl rfl)) ?_; clear S a; intro a S
  refine kc_readC 10 S rfl hC (fun w _ => y_fieldAddr (k := 2) S (by kernel_rfl) rfl) ?_; clear S a; intro a S
  refine kc_readC 11 S rfl hC (fun w _ => y_fieldAddr (k := 0) S (by kernel_rfl) rfl) ?_; clear S a; intro a S
  refine kc_read 12 S rfl hC (fun w hW => have M := M.grow hW; y_load S (by kernel_rfl) rfl (M.cell 8 rfl rfl)) ?_; clear S a; intro a S
  refine kc_readC 13 S rfl hC (fun w _ => y_fieldAddr (k := 2) S (by kernel_rfl) rfl) ?_; clear S a; intro a S
  refine kc_readC 14 S rfl hC (fun w _ => y_fieldAddr (k := 2) S (by kernel_rfl) rfl) ?_; clear S a; intro a S
  refine kc_read 15 S rfl hC (fun w hW => have M := M.grow hW; y_load S (by kernel_rfl) rfl (M.cell 8 rfl rfl)) ?_; clear S a; intro a S
  refine kc_readC 16 S rfl hC (fun w _ => y_move S rfl) ?_; clear S a; intro a S
  refine kc_readC 17 S rfl hC (fun w _ => y_build (ps := [(0, (Operand.tmp 17)), (1, (Operand.tmp 19)), (2, (Operand.tmp 22)), (3, (Operand.tmp 25)), (4, (Operand.tmp 26))]) (pl := [(0, 1), (1, 1), (2, 1), (3, 1), (4, 1)]) (z := [.int .i64 0, .int .i64 0, .int .i64 0, .int .i64 0, .int .i64 0]) (cs := End_.cellsL ⟨o.h, o.c, o.nm.stamp, o.nm.try_, er⟩) S (by kernel_rfl) rfl (rfl)) ?_; clear S a; intro a S
  refine kc_one 18 rfl (by kernel_rfl) ?_
  refine st_lit (ps := [(0, (Operand.tmp 27))]) (e := 91) (sz := 5) (zl := [.int .i64 0, .int .i64 0, .int .i64 0, .int .i64 0, .int .i64 0]) (cs := [_, _, _, _, _]) S M rfl rfl (by kernel_rfl) rfl (rfl) ?_; clear S M a; intro a w2 bZ S M hB
  replace hC := M.blk 12 rfl
  refine wpList_nil ?_; refine then_normal ?_; refine ⟨fun _ => hB, hC, ?_⟩
  refine kc_one 19 rfl (by kernel_rfl) ?_
  refine st_append (e := 91) (sz := 5) (by_ := 40) (zc := [.int .i64 0, .int .i64 0, .int .i64 0, .int .i64 0, .int .i64 0]) S M 3 rfl rfl (by kernel_rfl) rfl (by decide) rfl rfl rfl (show Rd _ _ _ 5 _ 1 (End_.cellsL ⟨o.h, o.c, o.nm.stamp, o.nm.try_, er⟩) from M.sliceAt 0 rfl (M.cellsAt (k := 5) 0 rfl rfl) rfl (Nat.le_refl _) (by unfold maxLen; omega)) (rfl) (by omega) (by unfold maxLen; omega) ?_; clear S M a; intro a w3 vA loA hiA S M
  replace hC := M.blk 12 rfl
  refine wpList_nil ?_; refine then_normal ?_; refine ⟨fun h => absurd h (by decide), hC, ?_⟩
  skip
  refine kc_readC 20 S rfl hC (fun w _ => y_nilCheck S rfl) ?_; clear S a; intro a S
  refine kc_readC 21 S rfl hC (fun w _ => y_fieldAddr (k := 0) S (by kernel_rfl) rfl) ?_; clear S a; intro a S
  refine kc_readC 22 S rfl hC (fun w _ => y_fieldAddr (k := 3) S (by kernel_rfl) rfl) ?_; clear S a; intro a S
  refine kc_one 23 rfl (by kernel_rfl) ?_
  obtain ⟨aO, cO, rfl, -, -⟩ := (M.readAll 0 rfl (by unfold maxLen; omega)).form
  refine st_store (sz := 1) (us := [_]) S M 2 rfl (by kernel_rfl) rfl rfl rfl rfl rfl rfl (by first | decide | (simp; done) | (simp; omega)) ?_; clear M; intro w4 M
  simp only [putL, List.set_cons_zero, List.set_cons_succ, Nat.reduceAdd] at M
  replace hC := M.blk 12 rfl
  refine wpList_nil ?_; refine then_normal ?_; refine ⟨fun h => absurd h (by decide), hC, ?_⟩
  refine kc_end (by kernel_rfl) ?_
  replace S := S.sub [(0, _), (1, _), (2, _), (3, _), (4, _), (5, _), (6, _)] rfl
  refine then_normal ?_
  refine wp_seq ?_
  skip
  replace M := M.drop 1
  simp only [List.eraseIdx_cons_succ, List.eraseIdx_cons_zero] at M
  obtain ⟨loO, hloO⟩ : ∃ z, z = loA := ⟨_, rfl⟩
  replace M := M.front 2 rfl
  simp only [List.eraseIdx_cons_succ, List.eraseIdx_cons_zero] at M
  obtain ⟨g, cap, more, hvE, hc1, hc2, hc3, M1⟩ := M.ofRow (by omega)
  simp only [Rw.v, Value.slice.injEq] at hvE
  obtain ⟨rfl, -, rfl⟩ := hvE
  clear M; have M := M1; clear M1
  have hfl : (fm Ope.cellsL D.s.l).length = D.s.l.length * 37 := fm_len len_ope _
  refine wp_regionKC (C := fun W => Blk W b3 #[.pointer (some ⟨b, 0, none⟩)] 76) [16, 20] #[false, false, false, false, false, false, false, false, false, false, false, false, false, false, false, false, false, false, false, false, false] rfl M (by kernel_rfl) ?_; clear M; intro w5 M; have hC := M.blk 11 rfl
  refine kc_readC 0 S rfl hC (fun w hC => y_load S (by kernel_rfl) rfl (hC.cells 0)) ?_; clear S a; intro a S
  refine kc_read 1 S rfl hC (fun w hW => have M := M.grow hW; y_load S (by kernel_rfl) rfl (M.cell 11 rfl rfl)) ?_; clear S a; intro a S
  skip
  refine kc_readC 2 S rfl hC (fun w _ => y_nilCheck S rfl) ?_; clear S a; intro a S
  refine kc_readC 3 S rfl hC (fun w _ => y_fieldAddr (k := 0) S (by kernel_rfl) rfl) ?_; clear S a; intro a S
  refine kc_readC 4 S rfl hC (fun w _ => y_fieldAddr (k := 0) S (by kernel_rfl) rfl) ?_; clear S a; intro a S
  refine kc_read 5 S rfl hC (fun w hW => have M := M.grow hW; y_load S (by kernel_rfl) rfl (M.cell 2 rfl rfl)) ?_; clear S a; intro a S
  refine kc_read 6 S rfl hC (fun w hW => have M := M.grow hW; y_load S (by kernel_rfl) rfl (M.cell 10 rfl rfl)) ?_; clear S a; intro a S
  refine kc_readC 7 S rfl hC (fun w _ => y_slice02 (e := 65) (sz := 37) S (by kernel_rfl) rfl rfl (by first | omega | (simp; done) | (simp; omega))) ?_; clear S a; intro a S
  refine kc_read 8 S rfl hC (fun w hW => have M := M.grow hW; y_load S (by kernel_rfl) rfl (M.cell 11 rfl rfl)) ?_; clear S a; intro a S
  skip
  refine kc_readC 9 S rfl hC (fun w _ => y_nilCheck S rfl) ?_; clear S a; intro a S
  refine kc_readC 10 S rfl hC (fun w _ => y_fieldAddr (k := 0) S (by kernel_rfl) rfl) ?_; clear S a; intro a S
  refine kc_readC 11 S rfl hC (fun w _ => y_fieldAddr (k := 0) S (by kernel_rfl) rfl) ?_; clear S a; intro a S
  refine kc_read 12 S rfl hC (fun w hW => have M := M.grow hW; y_load S (by kernel_rfl) rfl (M.cell 2 rfl rfl)) ?_; clear S a; intro a S
  refine kc_read 13 S rfl hC (fun w hW => have M := M.grow hW; y_load S (by kernel_rfl) rfl (M.cell 10 rfl rfl)) ?_; clear S a; intro a S
  (first | refine kc_readC 14 S rfl hC (fun w _ => y_addN S rfl rfl (by omega)) ?_ | refine kc_readC 14 S rfl hC (fun w _ => y_int S rfl rfl rfl) ?_); clear S a; intro a S
  refine kc_readC 15 S rfl hC (fun w _ => y_slice1 (e := 65) (sz := 37) S (by kernel_rfl) rfl rfl (by first | omega | (simp; done) | (simp; omega))) ?_; clear S a; intro a S
  refine kc_one 16 rfl (by kernel_rfl) ?_
  simp only [Int.toNat_natCast, show ((i : Int) + 1).toNat = i + 1 by omega] at S
  have hR : Rd g (g + 1) w5 37 (.slice (some ⟨g, 0, none⟩) D.s.l.length lc) D.s.l.length (fm Ope.cellsL D.s.l) := Rd.of_blk (M.blk 0 rfl) hfl hc1 hc2 (by rw [List.toList_toArray, ← hfl]; exact List.take_left)
  have hcell : CellsAt w5 g ((i + 1) * 37) ((fm Ope.cellsL D.s.l).drop ((i + 1) * 37)) := fun j hj => by
    rw [List.length_drop] at hj
    have := hR.at_ ((i + 1) * 37 + j) (by omega)
    simp only [adr, Nat.zero_add] at this
    rw [this, List.getElem?_drop]
  obtain ⟨o2, ho2, hcell2⟩ : ∃ o2, subA (some ⟨g, 0, none⟩) (i + 1) lc 37 = some ⟨g, o2, none⟩ ∧ CellsAt w5 g o2 ((fm Ope.cellsL D.s.l).drop ((i + 1) * 37)) := by
    rcases Nat.lt_or_ge (i + 1) lc with h | h
    · exact ⟨_, subA_at h, hcell⟩
    · refine ⟨0, by unfold subA; rw [if_pos (by omega)], ?_⟩
      rw [List.drop_of_length_le (by omega)]; intro j hj; simp at hj
  rw [ho2] at S
  refine st_appendIn (e := 65) (sz := 37) (zc := [.int .i64 0, .int .i64 0, .int .i64 0, .int .i64 0, .int .i64 0, .int .i8 0, .int .i64 0, .int .i64 0, .int .i64 0, .int .i64 0, .int .i64 0, .int .i64 0, .int .i64 0, .int .i8 0, .int .i64 0, .int .i64 0, .int .i64 0, .int .i64 0, .int .i64 0, .int .i64 0, .int .i64 0, .int .i64 0, .int .i8 0, .int .i64 0, .int .u8 0, .int .u8 0, .int .u8 0, .int .u8 0, .int .u8 0, .int .u8 0, .int .u8 0, .int .u8 0, .int .i64 0, .bool false, .int .i64 0, .int .i64 0, .slice none 0 0]) (by_ := 256) (news := (fm Ope.cellsL D.s.l).drop ((i + 1) * 37)) S M 0 rfl rfl (by kernel_rfl) rfl rfl rfl hcell2 (by rw [List.length_drop]; omega) (fm_one_drop len_ope one_ope D.s.l (i + 1)) (by omega) hc3 ?_; clear S M a; intro a wA S M
  rw [lenK hfl hc3 hi, show i + (D.s.l.length - (i + 1)) = D.s.l.length - 1 by omega] at *
  simp only [List.set_cons_zero] at M
  replace hC := M.blk 11 rfl
  refine wpList_nil ?_; refine then_normal ?_; refine ⟨fun h => absurd h (by decide), hC, ?_⟩
  skip
  refine kc_readC 17 S rfl hC (fun w _ => y_nilCheck S rfl) ?_; clear S a; intro a S
  refine kc_readC 18 S rfl hC (fun w _ => y_fieldAddr (k := 0) S (by kernel_rfl) rfl) ?_; clear S a; intro a S
  refine kc_readC 19 S rfl hC (fun w _ => y_fieldAddr (k := 0) S (by kernel_rfl) rfl) ?_; clear S a; intro a S
  refine kc_one 20 rfl (by kernel_rfl) ?_
  refine st_store (sz := 1) (us := [_]) S M 2 rfl (by kernel_rfl) rfl rfl rfl rfl rfl rfl (by first | decide | (simp; done) | (simp; omega)) ?_; clear M; intro w6 M
  simp only [putL, List.set_cons_zero, List.set_cons_succ, Nat.reduceAdd] at M
  replace hC := M.blk 11 rfl
  refine wpList_nil ?_; refine then_normal ?_; refine ⟨fun h => absurd h (by decide), hC, ?_⟩
  refine kc_end (by kernel_rfl) ?_
  replace S := S.sub [(0, _), (1, _), (2, _), (3, _), (4, _), (5, _), (6, _)] rfl
  refine then_normal ?_
  have hle : (D.s.l.eraseIdx i).length = D.s.l.length - 1 := by rw [List.length_eraseIdx, if_pos hi]
  have hmh : ((fm Ope.cellsL D.s.l).take (i * 37) ++ (fm Ope.cellsL D.s.l).drop ((i + 1) * 37)) = fm Ope.cellsL (D.s.l.eraseIdx i) := fm_del len_ope hi
  rw [hmh] at M
  have hl2 : (fm Ope.cellsL (D.s.l.eraseIdx i)).length = (D.s.l.length - 1) * 37 := by rw [fm_len len_ope, hle]
  replace M := M.toRow (sz := 37) (m := D.s.l.length - 1) (cap := lc) (xs := fm Ope.cellsL (D.s.l.eraseIdx i)) 0 rfl hl2 (by omega) hc2 (by
    rw [List.size_toArray, List.length_append, hl2, List.length_drop, hc3]
    have : lc * 37 = (D.s.l.length - 1) * 37 + (lc - (D.s.l.length - 1)) * 37 := by rw [← Nat.add_mul]; congr 1; omega
    omega) (by rw [List.toList_toArray, ← hl2]; exact List.take_left)
  simp only [List.eraseIdx_cons_succ, List.eraseIdx_cons_zero] at M
  replace M := M.ord [1, 1, 2] (by simp only [ordO, oG, oS, oE, oZ, oB] <;> rfl)
  obtain ⟨D1, hD1⟩ : ∃ D1 : Dsk, D1 = ⟨{ D.s with l := D.s.l.eraseIdx i, over := D.s.over ++ [⟨o.h, o.c, o.nm.stamp, o.nm.try_, er⟩] }, D.t, D.of⟩ := ⟨_, rfl⟩
  have q1 : D1.s.l.length = D.s.l.length - 1 := by rw [hD1]; exact hle
  have q2 : D1.s.over.length = D.s.over.length + 1 := by rw [hD1]; simp
  have q3 : fm End_.cellsL D1.s.over = fm End_.cellsL D.s.over ++ End_.cellsL ⟨o.h, o.c, o.nm.stamp, o.nm.try_, er⟩ := by rw [hD1]; exact fm_snoc _ _ _
  have q4 : fm Ope.cellsL D1.s.l = fm Ope.cellsL (D.s.l.eraseIdx i) := by rw [hD1]
  have q5 : D1.t = D.t := by rw [hD1]
  have q6 : D1.of = D.of := by rw [hD1]
  have q7 : D1.s.last = D.s.last := by rw [hD1]
  have q8 : D1.s.inc = D.s.inc := by rw [hD1]
  obtain ⟨E2, hE2, M2⟩ := Dsk.closeG D1 ⟨some ⟨g, 0, none⟩, lc, g, g + 1⟩ ⟨aO, cO, loA, hiA⟩ rm ra rs rc re M (by unfold dskL Rw.v; rw [q1, q2, q5, q6, q7, q8]) (by unfold Rw.ent Rw.v; rw [q1, q4]) (by unfold Rw.ent Rw.v; rw [q2, q3]) (by rw [q5]) (by rw [q5]) (by rw [q5]) (by rw [q5]) (by rw [q5])
  clear M; have M := M2; clear M2
  have hs1 : D1.small := ⟨by rw [q1]; omega, by rw [q2]; omega, by rw [q5]; exact hs.small.mail, by rw [q5]; exact hs.small.ans, by rw [q5]; exact hs.small.seen, by rw [q5]; exact hs.small.com, by rw [q5]; exact hs.small.ends⟩
  have hsa := hs.ans
  have hs2 : ∀ y, (D1.answer y).small := fun y => ⟨hs1.l, hs1.over, hs1.mail, by show (D1.t.ans ++ [y]).length ≤ 1000; rw [q5]; simp; omega, hs1.seen, hs1.com, hs1.ends⟩
  refine wp_cut (fun a w' => ∃ (D2 : Dsk) (E3 : List Ent), D2 = { D1 with t := { D1.t with ans := D1.t.ans ++ (if told = true then [⟨o.c, o.h, an, zV8, o.nm.stamp, kd⟩] else []) } } ∧ D2.small ∧ DeskE b D2 E3 ∧ Sees 72 a [(0, .int .i64 er), (3, .pointer (some ⟨b3, 0, none⟩)), (4, .pointer (some ⟨b7, 0, none⟩))] ∧ Mem wc w' (endE b b3 b4 b5 b7 o i kd A ++ E3)) ?_ ?_
  · skip
    refine nxD ?_
    refine st_go [1] S rfl (by kernel_rfl) ?_; clear S a; intro a S
    refine nxC ?_
    refine st_fi (t := 53) S rfl ?_ ?_
    · clear S; intro h53 S
      refine st_condF S rfl ?_
      refine wp_skip ?_
      refine then_normal ?_
      first
        | exact ⟨_, E3, by rw [if_pos h53], hs2 _, hE3, S.sub _ rfl, M⟩
        | exact ⟨D1, E2, by rw [if_neg (by rw [h53]; decide), List.append_nil], hs1, hE2, S.sub _ rfl, M⟩
    clear S; intro h53 S
    refine st_condT S rfl ?_
    refine wp_region_lit ?_
    refine st_run [4, 2, 1, 1, 1, 1, 3, 1, 1, 2] S M rfl (by kernel_rfl) ?_; clear S a; intro a S
    refine st_y S rfl rfl rfl (y_build (ps := [(0, (Operand.tmp 56)), (1, (Operand.tmp 58)), (2, (Operand.tmp 59)), (4, (Operand.tmp 62)), (5, (Operand.tmp 63))]) (pl := [(0, 1), (1, 1), (2, 1), (3, 8), (11, 1), (12, 1)]) (z := [.int .i64 0, .int .i64 0, .int .i64 0, .int .u8 0, .int .u8 0, .int .u8 0, .int .u8 0, .int .u8 0, .int .u8 0, .int .u8 0, .int .u8 0, .int .i64 0, .int .i8 0]) (cs := Ans.cellsL ⟨o.c, o.h, an, zV8, o.nm.stamp, kd⟩) S (by kernel_rfl) rfl (by kernel_rfl)) ?_; clear S a; intro a S
    refine st_call (xs := [(Operand.tmp 54), (Operand.tmp 64)]) S (enters_of Try.func33 (by decide) rfl) rfl rfl rfl (answer_any (A := _ :: _ :: _ :: _ :: A) ⟨o.c, o.h, an, zV8, o.nm.stamp, kd⟩ hE2 M hs1) ?_
    rintro _ w7 ⟨rfl, E3, hE3, M1⟩; refine ⟨_, rfl, ?_⟩; clear S M a; intro a S; have M := M1; clear M1
    refine nxC ?_
    first
      | exact ⟨_, E3, by rw [if_pos h53], hs2 _, hE3, S.sub _ rfl, M⟩
      | exact ⟨D1, E2, by rw [if_neg (by rw [h53]; decide), List.append_nil], hs1, hE2, S.sub _ rfl, M⟩
  clear S a M; intro a wc
  rintro ⟨D2, E3, hD2, hs3, hE3, S, M⟩
  refine wp_region_lit ?_
  refine st_run [4, 3] S M rfl (by kernel_rfl) ?_; clear S a; intro a S
  refine st_y S rfl rfl rfl (y_loadAgg (cs := [_, _, _]) S (by kernel_rfl) rfl rfl (M.cellsAt (k := 3) 0 rfl rfl)) ?_; clear S a; intro a S
  refine st_go [1] S rfl (by kernel_rfl) ?_; clear S a; intro a S
  refine st_y S rfl rfl rfl (y_build (ps := [(0, (Operand.const (Value.int IntKind.i8 4))), (1, (Operand.tmp 68)), (4, (Operand.tmp 69))]) (pl := [(0, 1), (1, 3), (4, 1), (5, 8), (13, 1)]) (z := [.int .i8 0, .int .i64 0, .int .i64 0, .int .i64 0, .int .i64 0, .int .u8 0, .int .u8 0, .int .u8 0, .int .u8 0, .int .u8 0, .int .u8 0, .int .u8 0, .int .u8 0, .int .i64 0]) (cs := Seen_.cellsL ⟨4, o.nm, 0, zV8, er⟩) S (by kernel_rfl) rfl (by kernel_rfl)) ?_; clear S a; intro a S
  refine st_call (xs := [(Operand.tmp 66), (Operand.tmp 70)]) S (enters_of Try.func34 (by decide) rfl) rfl rfl rfl (seen_any (A := _ :: _ :: _ :: _ :: A) ⟨4, o.nm, 0, zV8, er⟩ hE3 M hs3) ?_
  rintro _ w8 ⟨rfl, E4, hE4, M1⟩; refine ⟨_, rfl, ?_⟩; clear S M a; intro a S; have M := M1; clear M1
  refine wpList_nil ?_
  refine end_noneN S rfl ?_
  refine ⟨rfl, E4, ?_, (((M.drop 0).drop 0).drop 0).drop 0⟩
  have : D.ended i o kd er an told = D2.seen ⟨4, o.nm, 0, zV8, er⟩ := by rw [hD2, hD1]; rfl
  rw [this]; exact hE4
end Go.Proofs.Ytniijiipkfhjgaa

namespace Go.Proofs.Ytniijiipkfhjgaa
open Go.RowKit Go.Sort
/-- wherever these entries are owned, the slice reads as these bytes -/
def RdH (wc : World) (H : List Ent) (bv : Value) (bs : List UInt8) : Prop := ∀ w, Mem wc w H → Bs 0 w.heap.size w bv bs
theorem RdH.at {wc w : World} {H : List Ent} {e : Ent} {bv : Value} {bs : List UInt8} (h : RdH wc H bv bs) (M : Mem wc w (e :: H)) : Bs 0 w.heap.size w bv bs := h w (M.drop 0)
theorem RdH.cons {wc : World} {H : List Ent} {bv : Value} {bs : List UInt8} (h : RdH wc H bv bs) (e : Ent) : RdH wc (e :: H) bv bs := fun w M => h w (M.drop 0)
theorem RdH.arg {wc : World} {H : List Ent} {bv : Value} {bs : List UInt8} (h : Bs 0 wc.heap.size wc bv bs) : RdH wc H bv bs := fun _ M => M.argW h
theorem RdH.own {wc : World} {H : List Ent} {bv : Value} {bs : List UInt8} {lo hi : Nat} (p : Nat) (h : H[p]? = some (.own lo hi (fun w => Bs lo hi w bv bs))) : RdH wc H bv bs := fun _ M =>
  (M.own p h).wide (Nat.zero_le _) (M.fits _ (List.mem_of_getElem? h)).2
end Go.Proofs.Ytniijiipkfhjgaa

namespace Go.Proofs.Ytniijiipkfhjgaa
open Go.RowKit Go.Sort
theorem y_arrAt {ds : List Deferred} {P : Program} {n : Nat} {a : Act} {L : List (Nat × Value)} {w : World} {x : Operand} {ad : Option Addr} {l c T m e : Nat} (S : SeesD ds n a L) (hx : val L x = some (.slice ad l c)) (hT : P.underlying T = some (.array m e)) (h : m ≤ l)
    {d : Option Tmp} {t : TypeId} {p : String} {ed : Array Edge} {g : Option (Nat × Bool)} : Yields P a ⟨d, .sliceToArrayPointer T x, t, p, ed, g⟩ w (.pointer ad) := by
  unfold Yields execOp
  simp only [S.eval hx, Sem.run_bind, Instr.arrayAt, run_underlying hT, Result.andThen]
  rw [if_neg (by omega)]
  rfl
def v8of : List UInt8 → V8
  | [a, b, c, d, e, f, g, h] => ⟨a, b, c, d, e, f, g, h⟩
  | _ => zV8
/-- what a call reads or writes -/
def touchX (c : Cal) (bs : List UInt8) : Msg := if c.kind = 2 then { zMg with op := 1, block := c.block, val := v8of bs } else { zMg with block := c.block }
def Dsk.touch (D : Dsk) (i : Nat) (o : Ope) (c : Cal) (bs : List UInt8) : Dsk :=
  if shardE D.of c.block ≠ 0 then D.refused c 230 else if c.kind = 2 ∧ bs.length ≠ 8 then D.refused c 231
  else if execOk D o (touchX c bs) then D.execd i o (touchX c bs) else D.refused c 50
set_option maxHeartbeats 4000000 in
theorem touch_any {wc w : World} {A E : List Ent} {b : Nat} {D : Dsk} (i : Nat) (o : Ope) (c : Cal) (da : Option Addr) (dc : Nat) (bs : List UInt8) (hE : DeskE b D E) (M : Mem wc w (A ++ E)) (hs : D.tiny) (ho : D.s.l[i]? = some o) (hn : ∀ k, 0 ≤ o.nAt k ∧ o.nAt k ≤ 1048576) (hv : RdH wc A (.slice da bs.length dc) bs) :
    Calls Try.prog 40 #[.pointer (some ⟨b, 0, none⟩), .int .i64 (i : Int), .agg (c.cellsL (.slice da bs.length dc)).toArray] w fun e w' => e = .returned (.tuple #[]) ∧ ∃ E', DeskE b (D.touch i o c bs) E' ∧ Mem wc w' (A ++ E') := by
  obtain ⟨er, her⟩ : ∃ er, shardE D.of c.block = er := ⟨_, rfl⟩
  refine calls_enter Try.func40 rfl 51 rfl rfl ?_; intro a S
  refine nxD ?_
  refine st_box S M rfl rfl rfl #[_, _, _, _, _, _] rfl ?_; clear S M a; intro a w1 bC S M hB
  refine nxA ?_
  refine st_run [4, 1] S M rfl (by kernel_rfl) ?_; clear S a; intro a S
  refine st_y S rfl rfl rfl (y_build (ps := [(7, (Operand.const (Value.int IntKind.i8 0))), (8, (Operand.tmp 10))]) (pl := [(0, 1), (1, 1), (2, 1), (3, 1), (4, 1), (5, 3), (8, 1), (9, 1), (10, 1), (11, 8), (19, 1), (20, 1), (21, 1), (22, 1), (23, 1)]) (z := [.int .i8 0, .int .i64 0, .int .i64 0, .int .i64 0, .int .i64 0, .int .i64 0, .int .i64 0, .int .i64 0, .int .i64 0, .int .i8 0, .int .i64 0, .int .u8 0, .int .u8 0, .int .u8 0, .int .u8 0, .int .u8 0, .int .u8 0, .int .u8 0, .int .u8 0, .int .i64 0, .bool false, .int .i64 0, .int .i64 0, .slice none 0 0]) (cs := msgL { zMg with block := c.block }) S (by kernel_rfl) rfl (by kernel_rfl)) ?_; clear S a; intro a S
  refine st_alloc S M rfl rfl #[.int .i8 0, .int .i64 0, .int .i64 0, .int .i64 0, .int .i64 0, .int .i64 0, .int .i64 0, .int .i64 0, .int .i64 0, .int .i8 0, .int .i64 0, .int .u8 0, .int .u8 0, .int .u8 0, .int .u8 0, .int .u8 0, .int .u8 0, .int .u8 0, .int .u8 0, .int .i64 0, .bool false, .int .i64 0, .int .i64 0, .slice none 0 0] (by kernel_rfl) ?_; clear S M a; intro a w2 bX S M hB
  refine st_store (sz := 24) (us := [_, _, _, _, _, _, _, _, _, _, _, _, _, _, _, _, _, _, _, _, _, _, _, _]) S M 0 rfl (by kernel_rfl) rfl rfl rfl rfl rfl rfl (by first | decide | (simp; done) | (simp; omega)) ?_; clear M; intro w3 M
  simp only [putL, List.set_cons_zero, List.set_cons_succ, Nat.reduceAdd] at M
  refine nxC ?_
  refine wp_seq ?_
  refine wp_seq ?_
  obtain ⟨rl, ro, rm, ra, rs, rc, re, M1⟩ := Dsk.open (A := _ :: _ :: A) hE M
  clear M; have M := M1; clear M1
  refine wp_quiet M (by kernel_rfl) (by kernel_rfl) ?_
  refine qt_y S rfl rfl rfl (fun w M => y_move S rfl) ?_; clear S a; intro a S
  refine qt_y S rfl rfl rfl (fun w M => y_nilCheck S rfl) ?_; clear S a; intro a S
  refine qt_y S rfl rfl rfl (fun w M => y_fieldAddr (k := 9) S (by kernel_rfl) rfl) ?_; clear S a; intro a S
  refine qt_y S rfl rfl rfl (fun w M => y_loadAgg (cs := [_, _, _, _, _, _, _, _]) S (by kernel_rfl) rfl rfl (M.cellsAt (k := 8) 0 rfl rfl)) ?_; clear S a; intro a S
  refine qt_y S rfl rfl rfl (fun w M => y_fieldAddr (k := 3) S (by kernel_rfl) rfl) ?_; clear S a; intro a S
  refine qt_y S rfl rfl rfl (fun w M => y_load S (by kernel_rfl) rfl (M.cell 9 rfl rfl)) ?_; clear S a; intro a S
  refine qt_call (xs := [(Operand.tmp 16), (Operand.tmp 18)]) S (enters_of Try.func53 (by decide) rfl) rfl rfl rfl (quiet_of fun w M => shard_any _ _ w) ?_; clear S a; intro a S
  refine qt_y S rfl rfl rfl (fun w M => y_move S rfl) ?_; clear S a; intro a S
  refine qt_y S rfl rfl rfl (fun w M => y_extract S rfl rfl) ?_; clear S a; intro a S
  refine qt_y S rfl rfl rfl (fun w M => y_extract S rfl rfl) ?_; clear S a; intro a S
  refine qt_y S rfl rfl rfl (fun w M => y_assign S rfl) ?_; clear S a; intro a S
  refine qt_y S rfl rfl rfl (fun w M => y_assign S rfl) ?_; clear S a; intro a S
  refine wpQuiet_nil ?_; clear M; intro w5 M
  replace S := S.sub [(0, _), (1, _), (2, _), (5, _), (6, _), (8, _)] rfl
  refine then_normal ?_
  refine wp_seq ?_
  rw [her] at S
  obtain ⟨E1, hE1, M2⟩ := Dsk.close (D := D) rl ro rm ra rs rc re M
  clear M hE; have M := M2; clear M2
  refine wp_region_lit ?_
  refine st_go [1, 1] S rfl (by kernel_rfl) ?_; clear S a; intro a S
  refine nxC ?_
  refine st_if (t := 23) S rfl ?_ ?_
  · clear S; intro h23 S
    refine st_condT S rfl ?_
    refine nxD ?_
    refine st_go [1] S rfl (by kernel_rfl) ?_; clear S a; intro a S
    refine st_y S rfl rfl rfl (y_loadAgg (cs := [_, _, _, _, _, _]) S (by kernel_rfl) rfl rfl (M.cellsAt (k := 6) 1 rfl rfl)) ?_; clear S a; intro a S
    refine st_call (xs := [(Operand.tmp 24), (Operand.tmp 25), (Operand.const (Value.int IntKind.i64 230))]) S (enters_of Try.func32 (by decide) rfl) rfl rfl rfl (refused_any (A := _ :: _ :: A) c da bs.length dc _ hE1 M hs.small) ?_
    rintro _ w6 ⟨rfl, E2, hE2, M1⟩; refine ⟨_, rfl, ?_⟩; clear S M a; intro a S; have M := M1; clear M1
    refine nxC ?_
    refine wp_ret ?_
    refine then_ret ?_
    refine end_none S rfl ?_
    refine ⟨rfl, E2, ?_, (M.drop 0).drop 0⟩
    unfold Dsk.touch
    rw [her, if_pos (by omega)]; exact hE2
  clear S; intro h23 S
  refine st_condF S rfl ?_
  refine wp_skip ?_
  refine then_normal ?_
  refine wp_cut (fun a w' => ∃ x, x = touchX c bs ∧ ¬ (c.kind = 2 ∧ bs.length ≠ 8) ∧ Sees 51 a [(0, .pointer (some ⟨b, 0, none⟩)), (1, .int .i64 (i : Int)), (5, .pointer (some ⟨bC, 0, none⟩)), (6, .pointer (some ⟨bX, 0, none⟩))] ∧ Mem wc w' (.blk bX (msgL x).toArray 45 :: .blk bC (c.cellsL (.slice da bs.length dc)).toArray 38 :: (A ++ E1))) ?_ ?_
  · skip
    refine nxD ?_
    refine st_run [1, 2, 1] S M rfl (by kernel_rfl) ?_; clear S a; intro a S
    refine nxC ?_
    refine st_fi (t := 29) S rfl ?_ ?_
    · clear S; intro h29 S
      refine st_condF S rfl ?_
      refine wp_skip ?_
      refine then_normal ?_
      first
        | (refine ⟨{ zMg with op := 1, block := c.block, val := ⟨b0, b1, b2, b3, b4, b5, b6, b7⟩ }, ?_, by omega, S.sub _ rfl, M⟩
           unfold touchX; rw [if_pos (by omega), hbs]; rfl)
        | exact ⟨{ zMg with block := c.block }, by unfold touchX; rw [if_neg (by omega)], by omega, S.sub _ rfl, M⟩
    clear S; intro h29 S
    refine st_condT S rfl ?_
    refine wp_seq ?_
    refine nxD ?_
    refine st_run [5, 2] S M rfl (by kernel_rfl) ?_; clear S a; intro a S
    refine st_y S rfl rfl rfl (y_lenS (E := 5) S rfl (by kernel_rfl)) ?_; clear S a; intro a S
    refine st_go [1] S rfl (by kernel_rfl) ?_; clear S a; intro a S
    refine nxC ?_
    refine st_if (t := 33) S rfl ?_ ?_
    · clear S; intro h33 S
      refine st_condT S rfl ?_
      refine nxD ?_
      refine st_go [1] S rfl (by kernel_rfl) ?_; clear S a; intro a S
      refine st_y S rfl rfl rfl (y_loadAgg (cs := [_, _, _, _, _, _]) S (by kernel_rfl) rfl rfl (M.cellsAt (k := 6) 1 rfl rfl)) ?_; clear S a; intro a S
      refine st_call (xs := [(Operand.tmp 34), (Operand.tmp 35), (Operand.const (Value.int IntKind.i64 231))]) S (enters_of Try.func32 (by decide) rfl) rfl rfl rfl (refused_any (A := _ :: _ :: A) c da bs.length dc _ hE1 M hs.small) ?_
      rintro _ w7 ⟨rfl, E2, hE2, M1⟩; refine ⟨_, rfl, ?_⟩; clear S M a; intro a S; have M := M1; clear M1
      refine nxC ?_
      refine wp_ret ?_
      refine then_ret ?_
      refine then_ret ?_
      refine end_none S rfl ?_
      refine ⟨rfl, E2, ?_, (M.drop 0).drop 0⟩
      unfold Dsk.touch
      rw [her, if_neg (by omega), if_pos (by omega)]; exact hE2
    clear S; intro h33 S
    refine st_condF S rfl ?_
    refine wp_skip ?_
    refine then_normal ?_
    have h8 : bs.length = 8 := by omega
    obtain ⟨b0, b1, b2, b3, b4, b5, b6, b7, hbs⟩ : ∃ b0 b1 b2 b3 b4 b5 b6 b7, bs = [b0, b1, b2, b3, b4, b5, b6, b7] := by
      match bs, h8 with
      | [b0, b1, b2, b3, b4, b5, b6, b7], _ => exact ⟨b0, b1, b2, b3, b4, b5, b6, b7, rfl⟩
    have hcl0 : ∀ {W : World} {X Y : Ent} {E9 : List Ent}, Mem wc W (X :: Y :: (A ++ E9)) → Bs 0 W.heap.size W (.slice da bs.length dc) bs := fun {W X Y E9} M => hv _ (M.sub (.cons _ (.cons _ (List.sublist_append_left _ _))))
    obtain ⟨db, dof, rfl⟩ : ∃ db dof, da = some ⟨db, dof, none⟩ := by
      have := hcl0 M
      rcases this.2.2 with ⟨e, h0⟩ | ⟨ad, cp, e, -, -, -, hsp⟩
      · omega
      · simp only [Value.slice.injEq] at e
        obtain ⟨q1, q2, q3⟩ := ad
        have h9 : q3 = none := (hsp (by omega)).1
        subst h9
        exact ⟨q1, q2, e.1⟩
    have hcl : ∀ {W : World} {X Y : Ent} {E9 : List Ent}, Mem wc W (X :: Y :: (A ++ E9)) → CellsAt W db dof (bcells bs) := fun {W X Y E9} M => (hcl0 M).at_
    refine wp_regionKC (C := fun W => Blk W bC (c.cellsL (.slice (some ⟨db, dof, none⟩) bs.length dc)).toArray 38 ∧ CellsAt W db dof (bcells bs)) [5, 7] #[false, false, false, false, false, false, false, false] rfl M (by kernel_rfl) ?_; clear M; intro w8 M; have hC := And.intro (M.blk 1 rfl) (hcl M)
    refine kc_readC 0 S rfl hC (fun w _ => y_fieldAddr (k := 4) S (by kernel_rfl) rfl) ?_; clear S a; intro a S
    refine kc_readC 1 S rfl hC (fun w hC => y_load S (by kernel_rfl) rfl (hC.1.cells 4)) ?_; clear S a; intro a S
    refine kc_readC 2 S rfl hC (fun w _ => y_arrAt (m := 8) (e := 5) S rfl Try.underlying42 (by first | omega | (simp; done) | (simp; omega))) ?_; clear S a; intro a S
    refine kc_readC 3 S rfl hC (fun w hC => y_loadAgg (cs := [_, _, _, _, _, _, _, _]) S (by kernel_rfl) rfl rfl ((show CellsAt _ _ _ [.int .u8 (b0.toNat : Int), .int .u8 (b1.toNat : Int), .int .u8 (b2.toNat : Int), .int .u8 (b3.toNat : Int), .int .u8 (b4.toNat : Int), .int .u8 (b5.toNat : Int), .int .u8 (b6.toNat : Int), .int .u8 (b7.toNat : Int)] from (by have := hC.2; rw [hbs] at this; exact this)))) ?_; clear S a; intro a S
    refine kc_readC 4 S rfl hC (fun w _ => y_fieldAddr (k := 9) S (by kernel_rfl) rfl) ?_; clear S a; intro a S
    refine kc_one 5 rfl (by kernel_rfl) ?_
    refine st_store (sz := 1) (us := [_]) S M 0 rfl (by kernel_rfl) rfl rfl rfl rfl rfl rfl (by first | decide | (simp; done) | (simp; omega)) ?_; clear M; intro w9 M
    simp only [putL, List.set_cons_zero, List.set_cons_succ, Nat.reduceAdd] at M
    replace hC := And.intro (M.blk 1 rfl) (hcl M)
    refine wpList_nil ?_; refine then_normal ?_; refine ⟨fun h => absurd h (by decide), hC, ?_⟩
    refine kc_readC 6 S rfl hC (fun w _ => y_fieldAddr (k := 11) S (by kernel_rfl) rfl) ?_; clear S a; intro a S
    refine kc_one 7 rfl (by kernel_rfl) ?_
    refine st_store (sz := 8) (us := [_, _, _, _, _, _, _, _]) S M 0 rfl (by kernel_rfl) rfl rfl rfl rfl rfl rfl (by first | decide | (simp; done) | (simp; omega)) ?_; clear M; intro w10 M
    simp only [putL, List.set_cons_zero, List.set_cons_succ, Nat.reduceAdd] at M
    replace hC := And.intro (M.blk 1 rfl) (hcl M)
    refine wpList_nil ?_; refine then_normal ?_; refine ⟨fun h => absurd h (by decide), hC, ?_⟩
    refine kc_end (by kernel_rfl) ?_
    refine then_normal ?_
    first
      | (refine ⟨{ zMg with op := 1, block := c.block, val := ⟨b0, b1, b2, b3, b4, b5, b6, b7⟩ }, ?_, by omega, S.sub _ rfl, M⟩
         unfold touchX; rw [if_pos (by omega), hbs]; rfl)
      | exact ⟨{ zMg with block := c.block }, by unfold touchX; rw [if_neg (by omega)], by omega, S.sub _ rfl, M⟩
  clear S a M; intro a wc
  rintro ⟨x, hx, hlen, S, M⟩
  refine nxD ?_
  refine st_go [1, 1] S rfl (by kernel_rfl) ?_; clear S a; intro a S
  refine st_y S rfl rfl rfl (y_loadAgg (cs := [_, _, _, _, _, _, _, _, _, _, _, _, _, _, _, _, _, _, _, _, _, _, _, _]) S (by kernel_rfl) rfl rfl (M.cellsAt (k := 24) 0 rfl rfl)) ?_; clear S a; intro a S
  refine st_call (xs := [(Operand.tmp 43), (Operand.tmp 44), (Operand.tmp 45)]) S (enters_of Try.func47 (by decide) rfl) rfl rfl rfl (exec_any (A := _ :: _ :: A) i o x hE1 M hs ho hn) ?_
  rintro _ w11 ⟨rfl, E3, hE3, M1⟩; refine ⟨_, rfl, ?_⟩; clear S M a; intro a S; have M := M1; clear M1
  refine st_go [1] S rfl (by kernel_rfl) ?_; clear S a; intro a S
  refine nxC ?_
  refine st_tils (t := 47) S rfl ?_ ?_
  · clear S; intro h47 S
    refine st_condF S rfl ?_
    refine wp_skip ?_
    refine end_noneN S rfl ?_
    have her0 : er = 0 := by omega
    first
      | (refine ⟨rfl, E2, ?_, (M.drop 0).drop 0⟩
         unfold Dsk.touch
         rw [her, if_neg (by omega), if_neg hlen, ← hx, if_neg hno]; exact hE2)
      | (have hyes : execOk D o x := by simpa using h47
         rw [if_pos hyes] at hE3
         refine ⟨rfl, E3, ?_, (M.drop 0).drop 0⟩
         unfold Dsk.touch
         rw [her, if_neg (by omega), if_neg hlen, ← hx, if_pos hyes]; exact hE3)
  clear S; intro h47 S
  refine st_condT S rfl ?_
  have hno : ¬ execOk D o x := by simpa using h47
  rw [if_neg hno] at hE3
  refine wp_region_lit ?_
  refine st_go [1] S rfl (by kernel_rfl) ?_; clear S a; intro a S
  refine st_y S rfl rfl rfl (y_loadAgg (cs := [_, _, _, _, _, _]) S (by kernel_rfl) rfl rfl (M.cellsAt (k := 6) 1 rfl rfl)) ?_; clear S a; intro a S
  refine st_call (xs := [(Operand.tmp 48), (Operand.tmp 49), (Operand.const (Value.int IntKind.i64 50))]) S (enters_of Try.func32 (by decide) rfl) rfl rfl rfl (refused_any (A := _ :: _ :: A) c da bs.length dc _ hE3 M hs.small) ?_
  rintro _ w12 ⟨rfl, E2, hE2, M1⟩; refine ⟨_, rfl, ?_⟩; clear S M a; intro a S; have M := M1; clear M1
  refine wpList_nil ?_
  refine end_noneN S rfl ?_
  have her0 : er = 0 := by omega
  first
    | (refine ⟨rfl, E2, ?_, (M.drop 0).drop 0⟩
       unfold Dsk.touch
       rw [her, if_neg (by omega), if_neg hlen, ← hx, if_neg hno]; exact hE2)
    | (have hyes : execOk D o x := by simpa using h47
       rw [if_pos hyes] at hE3
       refine ⟨rfl, E3, ?_, (M.drop 0).drop 0⟩
       unfold Dsk.touch
       rw [her, if_neg (by omega), if_neg hlen, ← hx, if_pos hyes]; exact hE3)
end Go.Proofs.Ytniijiipkfhjgaa

namespace Go.Proofs.Ytniijiipkfhjgaa
open Go.RowKit Go.Sort
/-- the shards that are touched: bits of 1 to 4 -/
def ShOk (sh : Int) : Prop := ∃ k : Nat, k < 16 ∧ sh = 2 * (k : Int)
def loneB (sh : Int) : Nat := if sh = 2 then 1 else if sh = 4 then 2 else if sh = 8 then 3 else 4
theorem lone_is {sh : Int} (h : ShOk sh) (h0 : sh ≠ 0) (h1 : andV sh (sh - 1) = 0) : 1 ≤ loneB sh ∧ loneB sh ≤ 4 ∧ sh = 1 * (2 : Int) ^ loneB sh := by
  obtain ⟨k, hk, rfl⟩ := h
  have : k = 0 ∨ k = 1 ∨ k = 2 ∨ k = 3 ∨ k = 4 ∨ k = 5 ∨ k = 6 ∨ k = 7 ∨ k = 8 ∨ k = 9 ∨ k = 10 ∨ k = 11 ∨ k = 12 ∨ k = 13 ∨ k = 14 ∨ k = 15 := by omega
  rcases this with rfl | rfl | rfl | rfl | rfl | rfl | rfl | rfl | rfl | rfl | rfl | rfl | rfl | rfl | rfl | rfl <;> revert h0 h1 <;> decide
theorem pow_eq {p q : Nat} (hp : p ≤ 4) (hq : q ≤ 4) (h : 1 * (2 : Int) ^ p = 1 * (2 : Int) ^ q) : p = q := by
  have : p = 0 ∨ p = 1 ∨ p = 2 ∨ p = 3 ∨ p = 4 := by omega
  have : q = 0 ∨ q = 1 ∨ q = 2 ∨ q = 3 ∨ q = 4 := by omega
  rcases ‹p = 0 ∨ _› with rfl | rfl | rfl | rfl | rfl <;> rcases ‹q = 0 ∨ _› with rfl | rfl | rfl | rfl | rfl <;> first | rfl | exact absurd h (by decide)
abbrev Dsk.end0 (D : Dsk) (n : Nm) : Dsk := { D with t := { D.t with ends := D.t.ends ++ [n] } }
abbrev Dsk.com0 (D : Dsk) (n : Nm) : Dsk := { D with t := { D.t with com := D.t.com ++ [n] } }
def Dsk.commit0 (D : Dsk) (i : Nat) (o : Ope) : Dsk :=
  if o.sh = 0 then ((D.end0 o.nm).seen ⟨5, o.nm, 0, zV8, 0⟩).ended i o 3 0 0 true
  else if andV o.sh (o.sh - 1) = 0 then (D.setO i { o with ph := 2, at_ := loneB o.sh }).mail ({ o with ph := 2, at_ := loneB o.sh } : Ope).fast
  else (D.setO i { o with ph := 3 }).com0 o.nm
def Dsk.commit (D : Dsk) (i : Nat) (o : Ope) : Dsk := (D.seen ⟨3, o.nm, 0, zV8, 0⟩).commit0 i o
set_option maxHeartbeats 4000000 in
theorem commit_any {wc w : World} {A E : List Ent} {b : Nat} {D : Dsk} (i : Nat) (o : Ope) (hE : DeskE b D E) (M : Mem wc w (A ++ E)) (hs : D.tiny) (ho : D.s.l[i]? = some o) (hsh : ShOk o.sh) :
    Calls Try.prog 39 #[.pointer (some ⟨b, 0, none⟩), .int .i64 (i : Int)] w fun e w' => e = .returned (.tuple #[]) ∧ ∃ E', DeskE b (D.commit i o) E' ∧ Mem wc w' (A ++ E') := by
  have hsl := hs.l
  obtain ⟨hil, -⟩ := List.getElem?_eq_some_iff.1 ho
  obtain ⟨⟨la, lc, llo, lhi⟩, ro, rm, ra, rs, rc, re, M1⟩ := Dsk.open hE M
  clear M; have M := M1; clear M1 hE
  refine calls_enter Try.func39 rfl 119 rfl rfl ?_; intro a S
  refine wp_seq ?_
  skip
  refine wp_region_lit ?_
  refine st_run [1, 1, 1, 1, 1, 1] S M rfl (by kernel_rfl) ?_; clear S a; intro a S
  refine st_y S rfl rfl rfl (y_indexR (e := 65) (sz := 37) S (by kernel_rfl) rfl (M.readAll 1 rfl (by unfold maxLen; omega)) rfl (by first | omega | (simp; done) | (simp; omega))) ?_; clear S a; intro a S
  try simp only [Int.toNat_natCast, Nat.mul_one, Nat.zero_add] at S
  refine st_go [1] S rfl (by kernel_rfl) ?_; clear S a; intro a S
  refine nxA ?_
  refine st_go [1, 1, 1, 3] S rfl (by kernel_rfl) ?_; clear S a; intro a S
  refine st_y S rfl rfl rfl (y_loadAgg S (by kernel_rfl) rfl rfl (show CellsAt _ _ _ (nmL o.nm) from (by rw [← ope_nm o]; exact ((M.readAll 1 rfl (by unfold maxLen; omega)).at_.row (i := i) (fm_get len_ope ho) rfl).sub (i := 2) (k := 3)))) ?_; clear S a; intro a S
  refine st_y S rfl rfl rfl (y_build (ps := [(0, (Operand.const (Value.int IntKind.i8 3))), (1, (Operand.tmp 16))]) (pl := [(0, 1), (1, 3), (4, 1), (5, 8), (13, 1)]) (z := [.int .i8 0, .int .i64 0, .int .i64 0, .int .i64 0, .int .i64 0, .int .u8 0, .int .u8 0, .int .u8 0, .int .u8 0, .int .u8 0, .int .u8 0, .int .u8 0, .int .u8 0, .int .i64 0]) (cs := Seen_.cellsL ⟨3, o.nm, 0, zV8, 0⟩) S (by kernel_rfl) rfl (by kernel_rfl)) ?_; clear S a; intro a S
  obtain ⟨E1, hE1, M2⟩ := Dsk.closeR (D := D) ⟨la, lc, llo, lhi⟩ ro rm ra rs rc re M
  clear M; have M := M2; clear M2
  refine st_call (xs := [(Operand.tmp 12), (Operand.tmp 17)]) S (enters_of Try.func34 (by decide) rfl) rfl rfl rfl (seen_anyR ⟨3, o.nm, 0, zV8, 0⟩ hE1 M hs.small) ?_
  rintro _ w1 ⟨rfl, E2, hE2, M1⟩; refine ⟨_, rfl, ?_⟩; clear S M a; intro a S; have M := M1; clear M1
  replace S := S.sub [(0, _), (1, _), (4, _)] rfl
  refine nxC ?_
  refine wp_block ?_
  refine wp_seq ?_
  unfold Dsk.commit
  have hse := hs.seen
  have hs2 : (D.seen ⟨3, o.nm, 0, zV8, 0⟩).small := ⟨hs.small.l, hs.small.over, hs.small.mail, hs.small.ans, by show (D.t.seen ++ [_]).length ≤ 1000; rw [List.length_append, List.length_singleton]; omega, hs.small.com, hs.small.ends⟩
  have hs3 : (D.seen ⟨3, o.nm, 0, zV8, 0⟩).t.seen.length ≤ 501 := by show (D.t.seen ++ [_]).length ≤ 501; rw [List.length_append, List.length_singleton]; omega
  have hs4 : (D.seen ⟨3, o.nm, 0, zV8, 0⟩).t.mail.length ≤ 500 := hs.mail
  have hs5 : (D.seen ⟨3, o.nm, 0, zV8, 0⟩).t.com.length ≤ 500 := hs.com
  have hs6 : (D.seen ⟨3, o.nm, 0, zV8, 0⟩).t.ends.length ≤ 500 := hs.ends
  have hs7 : (D.seen ⟨3, o.nm, 0, zV8, 0⟩).t.ans.length ≤ 500 := hs.ans
  have hs8 : (D.seen ⟨3, o.nm, 0, zV8, 0⟩).s.over.length ≤ 500 := hs.over
  have hs9 : (D.seen ⟨3, o.nm, 0, zV8, 0⟩).s.l.length = D.s.l.length := rfl
  have hoo : (D.seen ⟨3, o.nm, 0, zV8, 0⟩).s.l[i]? = some o := ho
  obtain ⟨D1, hD1⟩ : ∃ D1, D.seen ⟨3, o.nm, 0, zV8, 0⟩ = D1 := ⟨_, rfl⟩
  rw [hD1] at hE2 hs2 hs3 hs4 hs5 hs6 hs7 hs8 hs9 hoo ⊢
  rw [← hs9] at S
  obtain ⟨⟨la2, lc2, llo2, lhi2⟩, ro2, rm2, ra2, rs2, rc2, re2, hla, hlc, M1⟩ := Dsk.openR hE2 M
  obtain rfl : la2 = la := hla
  obtain rfl : lc2 = lc := hlc
  clear M; have M := M1; clear M1
  refine wp_region_lit ?_
  refine st_go [1, 1, 7] S rfl (by kernel_rfl) ?_; clear S a; intro a S
  refine st_y S rfl rfl rfl (y_load S (by kernel_rfl) rfl (((M.readAll 1 rfl (by unfold maxLen; omega)).at_.row (i := i) (fm_get len_ope hoo) rfl) 6 (by show 6 < 37; omega))) ?_; clear S a; intro a S
  refine st_go [1, 1] S rfl (by kernel_rfl) ?_; clear S a; intro a S
  refine nxC ?_
  refine st_if (t := 37) S rfl ?_ ?_
  · clear S; intro h37 S
    refine st_condT S rfl ?_
    refine wp_seq ?_
    refine wp_regionK [11, 15] #[false, false, false, false, false, false, false, false, false, false, false, false, false, false, false, false] rfl M (by kernel_rfl) ?_; clear M; intro w2 M
    refine k_pure 0 S rfl (fun w => y_move S rfl) ?_; clear S a; intro a S
    refine k_pure 1 S rfl (fun w => y_move S rfl) ?_; clear S a; intro a S
    refine k_pure 2 S rfl (fun w => y_nilCheck S rfl) ?_; clear S a; intro a S
    refine k_pure 3 S rfl (fun w => y_fieldAddr (k := 4) S (by kernel_rfl) rfl) ?_; clear S a; intro a S
    refine k_pure 4 S rfl (fun w => y_fieldAddr (k := 4) S (by kernel_rfl) rfl) ?_; clear S a; intro a S
    refine k_read 5 S rfl (fun w hW => have M := M.grow hW; y_load S (by kernel_rfl) rfl (M.cell 0 rfl rfl)) ?_; clear S a; intro a S
    refine k_pure 6 S rfl (fun w => y_move S rfl) ?_; clear S a; intro a S
    refine k_pure 7 S rfl (fun w => y_nilCheck S rfl) ?_; clear S a; intro a S
    refine k_pure 8 S rfl (fun w => y_fieldAddr (k := 2) S (by kernel_rfl) rfl) ?_; clear S a; intro a S
    refine k_read 9 S rfl (fun w hW => have M := M.grow hW; y_loadAgg S (by kernel_rfl) rfl rfl (show CellsAt _ _ _ (nmL o.nm) from (by rw [← ope_nm o]; exact ((M.readAll 1 rfl (by unfold maxLen; omega)).at_.row (i := i) (fm_get len_ope hoo) rfl).sub (i := 2) (k := 3)))) ?_; clear S a; intro a S
    refine k_one 10 rfl (by kernel_rfl) ?_
    refine st_lit (ps := [(0, (Operand.tmp 52))]) (e := 40) (sz := 3) (zl := [.int .i64 0, .int .i64 0, .int .i64 0]) (cs := [_, _, _]) S M rfl rfl (by kernel_rfl) rfl (rfl) ?_; clear S M a; intro a w3 bZ S M hB
    refine wpList_nil ?_; refine then_normal ?_; refine ⟨fun _ => hB, ?_⟩
    refine k_one 11 rfl (by kernel_rfl) ?_
    refine st_append (e := 40) (sz := 3) (by_ := 24) (zc := [.int .i64 0, .int .i64 0, .int .i64 0]) S M 8 rfl rfl (by kernel_rfl) rfl (by decide) rfl rfl rfl (show Rd _ _ _ 3 _ 1 (nmL o.nm) from M.sliceAt 0 rfl (M.cellsAt (k := 3) 0 rfl rfl) rfl (Nat.le_refl _) (by unfold maxLen; omega)) (rfl) (by omega) (by unfold maxLen; omega) ?_; clear S M a; intro a w4 vA loA hiA S M
    refine wpList_nil ?_; refine then_normal ?_; refine ⟨fun h => absurd h (by decide), ?_⟩
    refine k_pure 12 S rfl (fun w => y_nilCheck S rfl) ?_; clear S a; intro a S
    refine k_pure 13 S rfl (fun w => y_fieldAddr (k := 4) S (by kernel_rfl) rfl) ?_; clear S a; intro a S
    refine k_pure 14 S rfl (fun w => y_fieldAddr (k := 4) S (by kernel_rfl) rfl) ?_; clear S a; intro a S
    refine k_one 15 rfl (by kernel_rfl) ?_
    obtain ⟨aA, cA, rfl, -, -⟩ := (M.readAll 0 rfl (by unfold maxLen; omega)).form
    refine st_store (sz := 1) (us := [_]) S M 2 rfl (by kernel_rfl) rfl rfl rfl rfl rfl rfl (by first | decide | (simp; done) | (simp; omega)) ?_; clear M; intro w5 M
    simp only [putL, List.set_cons_zero, List.set_cons_succ, Nat.reduceAdd] at M
    refine wpList_nil ?_; refine then_normal ?_; refine ⟨fun h => absurd h (by decide), ?_⟩
    refine k_end (by kernel_rfl) ?_
    replace S := S.sub [(0, _), (1, _), (4, _), (37, _)] rfl
    refine nxE ?_
    refine st_go [1, 1, 1, 3] S rfl (by kernel_rfl) ?_; clear S a; intro a S
    refine st_y S rfl rfl rfl (y_loadAgg S (by kernel_rfl) rfl rfl (show CellsAt _ _ _ (nmL o.nm) from (by rw [← ope_nm o]; exact ((M.readAll 3 rfl (by unfold maxLen; omega)).at_.row (i := i) (fm_get len_ope hoo) rfl).sub (i := 2) (k := 3)))) ?_; clear S a; intro a S
    refine st_y S rfl rfl rfl (y_build (ps := [(0, (Operand.const (Value.int IntKind.i8 5))), (1, (Operand.tmp 62))]) (pl := [(0, 1), (1, 3), (4, 1), (5, 8), (13, 1)]) (z := [.int .i8 0, .int .i64 0, .int .i64 0, .int .i64 0, .int .i64 0, .int .u8 0, .int .u8 0, .int .u8 0, .int .u8 0, .int .u8 0, .int .u8 0, .int .u8 0, .int .u8 0, .int .i64 0]) (cs := Seen_.cellsL ⟨5, o.nm, 0, zV8, 0⟩) S (by kernel_rfl) rfl (by kernel_rfl)) ?_; clear S a; intro a S
    skip
    replace M := M.drop 1
    simp only [List.eraseIdx_cons_succ, List.eraseIdx_cons_zero] at M
    replace M := M.ord [7, 7, 7, 7, 7, 7, 7] (by simp only [ordO, oG, oS, oE, oZ, oB] <;> rfl)
    have q1 : (D1.end0 o.nm).t.ends.length = D1.t.ends.length + 1 := by simp
    have q2 : fm nmL (D1.end0 o.nm).t.ends = fm nmL D1.t.ends ++ nmL o.nm := fm_snoc _ _ _
    obtain ⟨E3, hE3, M2⟩ := Dsk.closeG (D1.end0 o.nm) ⟨la2, lc2, llo2, lhi2⟩ ro2 rm2 ra2 rs2 rc2 ⟨aA, cA, loA, hiA⟩ M (by unfold dskL Rw.v; rw [q1]) rfl rfl rfl rfl rfl rfl (by unfold Rw.ent Rw.v; rw [q1, q2])
    clear M; have M := M2; clear M2
    have hsq : (D1.end0 o.nm).small := ⟨hs2.l, hs2.over, hs2.mail, hs2.ans, hs2.seen, hs2.com, by rw [q1]; omega⟩
    refine st_call (xs := [(Operand.tmp 58), (Operand.tmp 63)]) S (enters_of Try.func34 (by decide) rfl) rfl rfl rfl (seen_any ⟨5, o.nm, 0, zV8, 0⟩ hE3 M hsq) ?_
    rintro _ w6 ⟨rfl, E4, hE4, M1⟩; refine ⟨_, rfl, ?_⟩; clear S M a; intro a S; have M := M1; clear M1
    refine nxC ?_
    obtain ⟨D2, hD2⟩ : ∃ D2, (D1.end0 o.nm).seen ⟨5, o.nm, 0, zV8, 0⟩ = D2 := ⟨_, rfl⟩
    have hsr : D2.mid := by
      rw [← hD2]
      exact ⟨by show D1.s.l.length ≤ 900; omega, by show D1.s.over.length ≤ 900; omega, by show D1.t.mail.length ≤ 900; omega, by show D1.t.ans.length ≤ 900; omega, by show (D1.t.seen ++ [_]).length ≤ 900; rw [List.length_append, List.length_singleton]; omega, by show D1.t.com.length ≤ 900; omega, by show (D1.end0 o.nm).t.ends.length ≤ 900; rw [q1]; omega⟩
    have ho2 : D2.s.l[i]? = some o := by rw [← hD2]; exact hoo
    rw [hD2] at hE4
    refine wp_region_lit ?_
    refine st_go [1, 1] S rfl (by kernel_rfl) ?_; clear S a; intro a S
    refine st_call (xs := [(Operand.tmp 65), (Operand.tmp 66), (Operand.const (Value.int IntKind.i8 3))]) S (enters_of Try.func24 (by decide) rfl) rfl rfl rfl (ending_any i o 3 hE4 M hsr ho2) ?_
    rintro _ w7 ⟨b3, b4, b5, b7, rfl, E5, hE5, M1⟩; refine ⟨_, rfl, ?_⟩; clear S M a; intro a S; have M := M1; clear M1
    refine st_callB (xs := [(Operand.const (Value.int IntKind.i64 0)), (Operand.const (Value.int IntKind.i64 0)), (Operand.const (Value.bool true))]) (fi := []) (ca := [.pointer (some ⟨b3, 0, none⟩), .pointer (some ⟨b7, 0, none⟩), .pointer (some ⟨b4, 0, none⟩), .pointer (some ⟨b5, 0, none⟩)]) S (enters_of Try.func48 (by decide) rfl) rfl rfl (rfl) rfl (ending1_any i o 3 0 0 true hE5 M hsr (List.getElem?_eq_some_iff.1 ho2).1) ?_
    rintro _ w8 ⟨rfl, E6, hE6, M1⟩; refine ⟨_, rfl, ?_⟩; clear S M a; intro a S; have M := M1; clear M1
    refine wpList_nil ?_
    refine block_normal ?_
    refine end_noneN S rfl ?_
    refine ⟨rfl, E6, ?_, M⟩
    unfold Dsk.commit0
    rw [if_pos (by omega), hD2]; exact hE6
  clear S; intro h37 S
  refine st_condF S rfl ?_
  refine wp_seq ?_
  have hil1 : i < D1.s.l.length := by rw [hs9]; exact hil
  have hgs : ∀ y : Ope, (D1.s.l.set i y)[i]? = some y := fun y => by simp [hil, hs9]
  have hfl : ∀ y : Ope, (fm Ope.cellsL (D1.s.l.set i y)).length = D1.s.l.length * 37 := fun y => by rw [fm_len len_ope, List.length_set]
  have hshb : 0 ≤ o.sh ∧ o.sh ≤ 30 := by
    obtain ⟨k, hk, h⟩ := hsh
    omega
  rw [show fm Ope.cellsL D1.s.l = fm Ope.cellsL (D1.s.l.set i o) by rw [set_self hoo]] at M
  refine wp_quiet M (by kernel_rfl) (by kernel_rfl) ?_
  refine qt_y S rfl rfl rfl (fun w M => y_move S rfl) ?_; clear S a; intro a S
  refine qt_y S rfl rfl rfl (fun w M => y_nilCheck S rfl) ?_; clear S a; intro a S
  refine qt_y S rfl rfl rfl (fun w M => y_fieldAddr (k := 6) S (by kernel_rfl) rfl) ?_; clear S a; intro a S
  refine qt_y S rfl rfl rfl (fun w M => y_load S (by kernel_rfl) rfl (((M.readAll 1 rfl (by unfold maxLen; omega)).at_.row (i := i) (fm_get len_ope (hgs o)) rfl) 6 (by show 6 < 37; omega))) ?_; clear S a; intro a S
  refine qt_y S rfl rfl rfl (fun w M => y_move S rfl) ?_; clear S a; intro a S
  refine qt_y S rfl rfl rfl (fun w M => y_nilCheck S rfl) ?_; clear S a; intro a S
  refine qt_y S rfl rfl rfl (fun w M => y_fieldAddr (k := 6) S (by kernel_rfl) rfl) ?_; clear S a; intro a S
  refine qt_y S rfl rfl rfl (fun w M => y_load S (by kernel_rfl) rfl (((M.readAll 1 rfl (by unfold maxLen; omega)).at_.row (i := i) (fm_get len_ope (hgs o)) rfl) 6 (by show 6 < 37; omega))) ?_; clear S a; intro a S
  (first | refine qt_y S rfl rfl rfl (fun w M => y_subN S rfl rfl (by omega)) ?_ | refine qt_y S rfl rfl rfl (fun w M => y_int S rfl rfl rfl) ?_); clear S a; intro a S
  refine qt_y S rfl rfl rfl (fun w M => y_int S rfl rfl rfl) ?_; clear S a; intro a S
  refine qt_y S rfl rfl rfl (fun w M => y_int S rfl rfl rfl) ?_; clear S a; intro a S
  refine qt_y S rfl rfl rfl (fun w M => y_assign S rfl) ?_; clear S a; intro a S
  refine wpQuiet_nil ?_; clear M; intro w9 M
  replace S := S.sub [(0, _), (1, _), (4, _), (37, _), (69, _)] rfl
  refine then_normal ?_
  refine st_fi (t := 69) S rfl ?_ ?_
  · clear S; intro h69 S
    refine st_condF S rfl ?_
    refine nxD ?_
    refine st_go [1, 1, 6] S rfl (by kernel_rfl) ?_; clear S a; intro a S
    refine st_storeRow (v := .slice la2 D1.s.l.length lc2) (sz := 37) (m := D1.s.l.length) (j := i * 37 + 5) (us := [.int .i8 3]) S M 1 rfl (by kernel_rfl) rfl rfl (by first | rfl | omega | (simp only [Int.toNat_natCast]; omega)) rfl rfl rfl rfl rfl (by omega) (hfl o) (by rw [hfl]; show i * 37 + 5 + 1 ≤ _; omega) ?_; clear M; intro wz lo9 hi9 M
    simp only [List.eraseIdx_cons_succ, List.eraseIdx_cons_zero] at M
    rw [fm_put (x' := { o with ph := 3 }) len_ope hil1 (by show 5 + 1 ≤ 37; omega) (rfl)] at M
    refine nxC ?_
    obtain ⟨o1, ho1⟩ : ∃ o1 : Ope, { o with ph := 3 } = o1 := ⟨_, rfl⟩
    rw [ho1] at M
    have hnm : o1.nm = o.nm := by rw [← ho1]
    refine wp_regionK [11, 15] #[false, false, false, false, false, false, false, false, false, false, false, false, false, false, false, false] rfl M (by kernel_rfl) ?_; clear M; intro w16 M
    refine k_pure 0 S rfl (fun w => y_move S rfl) ?_; clear S a; intro a S
    refine k_pure 1 S rfl (fun w => y_move S rfl) ?_; clear S a; intro a S
    refine k_pure 2 S rfl (fun w => y_nilCheck S rfl) ?_; clear S a; intro a S
    refine k_pure 3 S rfl (fun w => y_fieldAddr (k := 4) S (by kernel_rfl) rfl) ?_; clear S a; intro a S
    refine k_pure 4 S rfl (fun w => y_fieldAddr (k := 3) S (by kernel_rfl) rfl) ?_; clear S a; intro a S
    refine k_read 5 S rfl (fun w hW => have M := M.grow hW; y_load S (by kernel_rfl) rfl (M.cell 1 rfl rfl)) ?_; clear S a; intro a S
    refine k_pure 6 S rfl (fun w => y_move S rfl) ?_; clear S a; intro a S
    refine k_pure 7 S rfl (fun w => y_nilCheck S rfl) ?_; clear S a; intro a S
    refine k_pure 8 S rfl (fun w => y_fieldAddr (k := 2) S (by kernel_rfl) rfl) ?_; clear S a; intro a S
    refine k_read 9 S rfl (fun w hW => have M := M.grow hW; y_loadAgg S (by kernel_rfl) rfl rfl (show CellsAt _ _ _ (nmL o.nm) from (by rw [← hnm, ← ope_nm o1]; exact ((M.readAll 0 rfl (by unfold maxLen; omega)).at_.row (i := i) (fm_get len_ope (hgs o1)) rfl).sub (i := 2) (k := 3)))) ?_; clear S a; intro a S
    refine k_one 10 rfl (by kernel_rfl) ?_
    refine st_lit (ps := [(0, (Operand.tmp 31))]) (e := 40) (sz := 3) (zl := [.int .i64 0, .int .i64 0, .int .i64 0]) (cs := [_, _, _]) S M rfl rfl (by kernel_rfl) rfl (rfl) ?_; clear S M a; intro a w17 bZ3 S M hB
    refine wpList_nil ?_; refine then_normal ?_; refine ⟨fun _ => hB, ?_⟩
    refine k_one 11 rfl (by kernel_rfl) ?_
    refine st_append (e := 40) (sz := 3) (by_ := 24) (zc := [.int .i64 0, .int .i64 0, .int .i64 0]) S M 7 rfl rfl (by kernel_rfl) rfl (by decide) rfl rfl rfl (show Rd _ _ _ 3 _ 1 (nmL o.nm) from M.sliceAt 0 rfl (M.cellsAt (k := 3) 0 rfl rfl) rfl (Nat.le_refl _) (by unfold maxLen; omega)) (rfl) (by omega) (by unfold maxLen; omega) ?_; clear S M a; intro a w18 vA loA hiA S M
    refine wpList_nil ?_; refine then_normal ?_; refine ⟨fun h => absurd h (by decide), ?_⟩
    refine k_pure 12 S rfl (fun w => y_nilCheck S rfl) ?_; clear S a; intro a S
    refine k_pure 13 S rfl (fun w => y_fieldAddr (k := 4) S (by kernel_rfl) rfl) ?_; clear S a; intro a S
    refine k_pure 14 S rfl (fun w => y_fieldAddr (k := 3) S (by kernel_rfl) rfl) ?_; clear S a; intro a S
    refine k_one 15 rfl (by kernel_rfl) ?_
    obtain ⟨aM, cM, rfl, -, -⟩ := (M.readAll 0 rfl (by unfold maxLen; omega)).form
    refine st_store (sz := 1) (us := [_]) S M 3 rfl (by kernel_rfl) rfl rfl rfl rfl rfl rfl (by first | decide | (simp; done) | (simp; omega)) ?_; clear M; intro w19 M
    simp only [putL, List.set_cons_zero, List.set_cons_succ, Nat.reduceAdd] at M
    refine wpList_nil ?_; refine then_normal ?_; refine ⟨fun h => absurd h (by decide), ?_⟩
    refine k_end (by kernel_rfl) ?_
    replace S := S.sub [(0, _), (1, _), (4, _), (37, _), (69, _)] rfl
    refine block_normal ?_
    refine end_noneN S rfl ?_
    skip
    replace M := M.drop 1
    simp only [List.eraseIdx_cons_succ, List.eraseIdx_cons_zero] at M
    replace M := M.ord [6, 6, 6, 6, 5, 6] (by simp only [ordO, oG, oS, oE, oZ, oB] <;> rfl)
    have q1 : ((D1.setO i o1).com0 o.nm).s.l.length = D1.s.l.length := List.length_set
    have q2 : ((D1.setO i o1).com0 o.nm).t.com.length = D1.t.com.length + 1 := by simp
    have q3 : fm nmL ((D1.setO i o1).com0 o.nm).t.com = fm nmL D1.t.com ++ nmL o.nm := fm_snoc _ _ _
    obtain ⟨E3, hE3, M2⟩ := Dsk.closeG ((D1.setO i o1).com0 o.nm) ⟨la2, lc2, lo9, hi9⟩ ro2 rm2 ra2 rs2 ⟨aM, cM, loA, hiA⟩ re2 M (by unfold dskL; rw [q1, q2]) (by unfold Rw.ent Rw.v; rw [q1]) rfl rfl rfl rfl (by unfold Rw.ent Rw.v; rw [q2, q3]) rfl
    refine ⟨rfl, E3, ?_, M2⟩
    unfold Dsk.commit0
    rw [if_neg (by omega), if_neg (by first | omega | (unfold andV; omega)), ho1]; exact hE3
  clear S; intro h69 S
  refine st_condT S rfl ?_
  refine nxD ?_
  refine st_go [1, 1, 6] S rfl (by kernel_rfl) ?_; clear S a; intro a S
  refine st_storeRow (v := .slice la2 D1.s.l.length lc2) (sz := 37) (m := D1.s.l.length) (j := i * 37 + 5) (us := [.int .i8 2]) S M 1 rfl (by kernel_rfl) rfl rfl (by first | rfl | omega | (simp only [Int.toNat_natCast]; omega)) rfl rfl rfl rfl rfl (by omega) (hfl o) (by rw [hfl]; show i * 37 + 5 + 1 ≤ _; omega) ?_; clear M; intro wz lo9 hi9 M
  simp only [List.eraseIdx_cons_succ, List.eraseIdx_cons_zero] at M
  rw [fm_put (x' := { o with ph := 2 }) len_ope hil1 (by show 5 + 1 ≤ 37; omega) (rfl)] at M
  refine nxC ?_
  refine wp_seq ?_
  refine wp_seq ?_
  have hlo := lone_is hsh (by omega) (by first | omega | (unfold andV; omega))
  refine wp_region_lit ?_
  refine st_go [1, 1, 13] S rfl (by kernel_rfl) ?_; clear S a; intro a S
  refine st_storeRow (v := .slice la2 D1.s.l.length lc2) (sz := 37) (m := D1.s.l.length) (j := i * 37 + 12) (us := [.int .i64 1]) S M 0 rfl (by kernel_rfl) rfl rfl (by first | rfl | omega | (simp only [Int.toNat_natCast]; omega)) rfl rfl rfl rfl rfl (by omega) (hfl { o with ph := 2 }) (by rw [hfl]; show i * 37 + 12 + 1 ≤ _; omega) ?_; clear M; intro wz lo9 hi9 M
  simp only [List.eraseIdx_cons_succ, List.eraseIdx_cons_zero] at M
  rw [fm_put (x' := { o with ph := 2, at_ := ((1 : Nat) : Int) }) len_ope hil1 (by show 12 + 1 ≤ 37; omega) (rfl)] at M
  refine nxC ?_
  refine wp_block ?_
  refine wp_loop_g (fun m a w' => ∃ (j lo9 hi9 : Nat), 1 ≤ j ∧ j ≤ loneB o.sh ∧ m = loneB o.sh - j ∧ Sees 119 a [(0, .pointer (some ⟨b, 0, none⟩)), (1, .int .i64 (i : Int)), (4, .pointer (some ⟨(adr (.slice la2 D1.s.l.length lc2)).block, (adr (.slice la2 D1.s.l.length lc2)).off + (Int.toNat (i : Int)) * 37, none⟩))] ∧ Mem wc w' (rowE lo9 hi9 65 37 (.slice la2 D1.s.l.length lc2) D1.s.l.length (fm Ope.cellsL (D1.s.l.set i { o with ph := 2, at_ := (j : Int) })) :: .blk b (dskL D1 ⟨la2, lc2, llo2, lhi2⟩ ro2 rm2 ra2 rs2 rc2 re2).toArray 79 :: ro2.ent 91 5 D1.s.over.length (fm End_.cellsL D1.s.over) :: rm2.ent 45 24 D1.t.mail.length (fm msgL D1.t.mail) :: ra2.ent 69 13 D1.t.ans.length (fm Ans.cellsL D1.t.ans) :: rs2.ent 71 14 D1.t.seen.length (fm Seen_.cellsL D1.t.seen) :: rc2.ent 40 3 D1.t.com.length (fm nmL D1.t.com) :: re2.ent 40 3 D1.t.ends.length (fm nmL D1.t.ends) :: A)) (loneB o.sh - 1) ?_ ?_
  · skip
    exact ⟨1, _, _, Nat.le_refl _, hlo.1, rfl, S.sub _ rfl, M⟩
  clear S M a; intro m a wl
  rintro ⟨j, lo9, hi9, hj1, hj2, rfl, S, M⟩
  refine wp_seq ?_
  refine wp_seq ?_
  refine wp_quiet M (by kernel_rfl) (by kernel_rfl) ?_
  refine qt_y S rfl rfl rfl (fun w M => y_move S rfl) ?_; clear S a; intro a S
  refine qt_y S rfl rfl rfl (fun w M => y_nilCheck S rfl) ?_; clear S a; intro a S
  refine qt_y S rfl rfl rfl (fun w M => y_fieldAddr (k := 6) S (by kernel_rfl) rfl) ?_; clear S a; intro a S
  refine qt_y S rfl rfl rfl (fun w M => y_load S (by kernel_rfl) rfl ((((M.readAll 0 rfl (by unfold maxLen; omega)).at_.row (i := i) (fm_get len_ope (hgs { o with ph := 2, at_ := (j : Int) })) rfl) 6 (by show 6 < 37; omega)).trans (show _ = some (Value.int .i64 o.sh) from rfl))) ?_; clear S a; intro a S
  refine qt_y S rfl rfl rfl (fun w M => y_move S rfl) ?_; clear S a; intro a S
  refine qt_y S rfl rfl rfl (fun w M => y_nilCheck S rfl) ?_; clear S a; intro a S
  refine qt_y S rfl rfl rfl (fun w M => y_fieldAddr (k := 12) S (by kernel_rfl) rfl) ?_; clear S a; intro a S
  refine qt_y S rfl rfl rfl (fun w M => y_load S (by kernel_rfl) rfl ((((M.readAll 0 rfl (by unfold maxLen; omega)).at_.row (i := i) (fm_get len_ope (hgs { o with ph := 2, at_ := (j : Int) })) rfl) 12 (by show 12 < 37; omega)).trans (show _ = some (Value.int .i64 (j : Int)) from rfl))) ?_; clear S a; intro a S
  (first | refine qt_y S rfl rfl rfl (fun w M => y_shlN S rfl rfl (by omega) (by first | exact shl_bd (by omega) | (rw [Int.toNat_natCast]; exact shl_bd (by omega)))) ?_ | refine qt_y S rfl rfl rfl (fun w M => y_shl S rfl rfl (by omega)) ?_); clear S a; intro a S
  refine qt_y S rfl rfl rfl (fun w M => y_int S rfl rfl rfl) ?_; clear S a; intro a S
  refine wpQuiet_nil ?_; clear M; intro w10 M
  refine then_normal ?_
  refine st_split (t := 96) S rfl ?_ ?_
  · clear S; intro h96 S
    refine st_condT S rfl ?_
    refine wp_skip ?_
    refine then_normal ?_
    refine wp_seq ?_
    refine wp_block ?_
    refine wp_skip ?_
    refine block_normal ?_
    refine nxF ?_
    refine st_go [1, 1, 13] S rfl (by kernel_rfl) ?_; clear S a; intro a S
    refine st_y S rfl rfl rfl (y_load S (by kernel_rfl) rfl ((((M.readAll 0 rfl (by unfold maxLen; omega)).at_.row (i := i) (fm_get len_ope (hgs { o with ph := 2, at_ := (j : Int) })) rfl) 12 (by show 12 < 37; omega)).trans (show _ = some (Value.int .i64 (j : Int)) from rfl))) ?_; clear S a; intro a S
    (first | refine st_y S rfl rfl rfl (y_addN S rfl rfl (by omega)) ?_ | refine st_y S rfl rfl rfl (y_int S rfl rfl rfl) ?_); clear S a; intro a S
    refine st_go [1, 13] S rfl (by kernel_rfl) ?_; clear S a; intro a S
    refine st_storeRow (v := .slice la2 D1.s.l.length lc2) (sz := 37) (m := D1.s.l.length) (j := i * 37 + 12) (us := [.int .i64 ((j : Int) + 1)]) S M 0 rfl (by kernel_rfl) rfl rfl (by first | rfl | omega | (simp only [Int.toNat_natCast]; omega)) rfl rfl rfl rfl rfl (by omega) (hfl { o with ph := 2, at_ := (j : Int) }) (by rw [hfl]; show i * 37 + 12 + 1 ≤ _; omega) ?_; clear M; intro wz lo9 hi9 M
    simp only [List.eraseIdx_cons_succ, List.eraseIdx_cons_zero] at M
    rw [fm_put (x' := { o with ph := 2, at_ := ((j + 1 : Nat) : Int) }) len_ope hil1 (by show 12 + 1 ≤ 37; omega) (rfl)] at M
    replace S := S.sub [(0, _), (1, _), (4, _), (96, _)] rfl
    refine nxC ?_
    have hne : j ≠ loneB o.sh := fun h => by
      rw [h, Int.toNat_natCast, ← hlo.2.2] at h96; simp at h96
    exact ⟨loneB o.sh - (j + 1), by omega, j + 1, lo9, hi9, by omega, by omega, rfl, S.sub _ rfl, M⟩
  clear S; intro h96 S
  refine st_condF S rfl ?_
  refine wp_exit ?_
  refine then_exit ?_
  refine then_exit ?_
  refine block_hit ?_
  refine then_normal ?_
  have hje : j = loneB o.sh := by
    have h9 : (o.sh != 1 * (2 : Int) ^ j) = false := by rw [← h96, Int.toNat_natCast]
    have h8 : o.sh = 1 * (2 : Int) ^ j := by simpa using h9
    exact pow_eq (by omega) (by omega) (h8.symm.trans hlo.2.2)
  obtain ⟨o1, ho1⟩ : ∃ o1 : Ope, { o with ph := 2, at_ := (j : Int) } = o1 := ⟨_, rfl⟩
  rw [ho1] at M
  refine wp_regionK [11, 15] #[false, false, false, false, false, false, false, false, false, false, false, false, false, false, false, false] rfl M (by kernel_rfl) ?_; clear M; intro w11 M
  refine k_pure 0 S rfl (fun w => y_move S rfl) ?_; clear S a; intro a S
  refine k_pure 1 S rfl (fun w => y_move S rfl) ?_; clear S a; intro a S
  refine k_pure 2 S rfl (fun w => y_nilCheck S rfl) ?_; clear S a; intro a S
  refine k_pure 3 S rfl (fun w => y_fieldAddr (k := 4) S (by kernel_rfl) rfl) ?_; clear S a; intro a S
  refine k_pure 4 S rfl (fun w => y_fieldAddr (k := 0) S (by kernel_rfl) rfl) ?_; clear S a; intro a S
  refine k_read 5 S rfl (fun w hW => have M := M.grow hW; y_load S (by kernel_rfl) rfl (M.cell 1 rfl rfl)) ?_; clear S a; intro a S
  refine k_pure 6 S rfl (fun w => y_move S rfl) ?_; clear S a; intro a S
  refine k_pure 7 S rfl (fun w => y_nilCheck S rfl) ?_; clear S a; intro a S
  refine k_read 8 S rfl (fun w hW => have M := M.grow hW; y_loadAgg S (by kernel_rfl) rfl rfl ((M.readAll 0 rfl (by unfold maxLen; omega)).at_.row (i := i) (fm_get len_ope (hgs o1)) rfl)) ?_; clear S a; intro a S
  refine k_one 9 rfl (by kernel_rfl) ?_
  refine st_call (xs := [(Operand.tmp 112)]) S (enters_of Try.func26 (by decide) rfl) rfl rfl rfl (fast_any o1 _) ?_
  rintro _ w12 ⟨rfl, hK⟩; refine ⟨_, rfl, ?_⟩; clear S a; intro a S; replace M := M.grow hK
  refine wpList_nil ?_; refine then_normal ?_; refine ⟨fun _ => hK, ?_⟩
  refine k_one 10 rfl (by kernel_rfl) ?_
  refine st_lit (ps := [(0, (Operand.tmp 113))]) (e := 45) (sz := 24) (zl := [.int .i8 0, .int .i64 0, .int .i64 0, .int .i64 0, .int .i64 0, .int .i64 0, .int .i64 0, .int .i64 0, .int .i64 0, .int .i8 0, .int .i64 0, .int .u8 0, .int .u8 0, .int .u8 0, .int .u8 0, .int .u8 0, .int .u8 0, .int .u8 0, .int .u8 0, .int .i64 0, .bool false, .int .i64 0, .int .i64 0, .slice none 0 0]) (cs := msgL o1.fast) S M rfl rfl (by kernel_rfl) rfl (by kernel_rfl) ?_; clear S M a; intro a w13 bZ2 S M hB
  refine wpList_nil ?_; refine then_normal ?_; refine ⟨fun _ => hB, ?_⟩
  refine k_one 11 rfl (by kernel_rfl) ?_
  refine st_append (e := 45) (sz := 24) (by_ := 152) (zc := [.int .i8 0, .int .i64 0, .int .i64 0, .int .i64 0, .int .i64 0, .int .i64 0, .int .i64 0, .int .i64 0, .int .i64 0, .int .i8 0, .int .i64 0, .int .u8 0, .int .u8 0, .int .u8 0, .int .u8 0, .int .u8 0, .int .u8 0, .int .u8 0, .int .u8 0, .int .i64 0, .bool false, .int .i64 0, .int .i64 0, .slice none 0 0]) S M 4 rfl rfl (by kernel_rfl) rfl (by decide) rfl rfl rfl (show Rd _ _ _ 24 _ 1 (msgL o1.fast) from M.sliceAt 0 rfl (M.cellsAt (k := 24) 0 rfl rfl) rfl (Nat.le_refl _) (by unfold maxLen; omega)) (rfl) (by omega) (by unfold maxLen; omega) ?_; clear S M a; intro a w14 vA loA hiA S M
  refine wpList_nil ?_; refine then_normal ?_; refine ⟨fun h => absurd h (by decide), ?_⟩
  refine k_pure 12 S rfl (fun w => y_nilCheck S rfl) ?_; clear S a; intro a S
  refine k_pure 13 S rfl (fun w => y_fieldAddr (k := 4) S (by kernel_rfl) rfl) ?_; clear S a; intro a S
  refine k_pure 14 S rfl (fun w => y_fieldAddr (k := 0) S (by kernel_rfl) rfl) ?_; clear S a; intro a S
  refine k_one 15 rfl (by kernel_rfl) ?_
  obtain ⟨aM, cM, rfl, -, -⟩ := (M.readAll 0 rfl (by unfold maxLen; omega)).form
  refine st_store (sz := 1) (us := [_]) S M 3 rfl (by kernel_rfl) rfl rfl rfl rfl rfl rfl (by first | decide | (simp; done) | (simp; omega)) ?_; clear M; intro w15 M
  simp only [putL, List.set_cons_zero, List.set_cons_succ, Nat.reduceAdd] at M
  refine wpList_nil ?_; refine then_normal ?_; refine ⟨fun h => absurd h (by decide), ?_⟩
  refine k_end (by kernel_rfl) ?_
  replace S := S.sub [(0, _), (1, _), (4, _), (96, _)] rfl
  refine block_normal ?_
  refine end_noneN S rfl ?_
  skip
  replace M := M.drop 1
  simp only [List.eraseIdx_cons_succ, List.eraseIdx_cons_zero] at M
  replace M := M.ord [3, 2, 3] (by simp only [ordO, oG, oS, oE, oZ, oB] <;> rfl)
  have q1 : ((D1.setO i o1).mail o1.fast).s.l.length = D1.s.l.length := List.length_set
  have q2 : ((D1.setO i o1).mail o1.fast).t.mail.length = D1.t.mail.length + 1 := by simp
  have q3 : fm msgL ((D1.setO i o1).mail o1.fast).t.mail = fm msgL D1.t.mail ++ msgL o1.fast := fm_snoc _ _ _
  obtain ⟨E3, hE3, M2⟩ := Dsk.closeG ((D1.setO i o1).mail o1.fast) ⟨la2, lc2, lo9, hi9⟩ ro2 ⟨aM, cM, loA, hiA⟩ ra2 rs2 rc2 re2 M (by unfold dskL; rw [q1, q2]) (by unfold Rw.ent Rw.v; rw [q1]) rfl (by unfold Rw.ent Rw.v; rw [q2, q3]) rfl rfl rfl rfl
  refine ⟨rfl, E3, ?_, M2⟩
  unfold Dsk.commit0
  rw [if_neg (by omega), if_pos (by first | omega | (unfold andV; omega)), ← hje, ho1]; exact hE3
end Go.Proofs.Ytniijiipkfhjgaa

