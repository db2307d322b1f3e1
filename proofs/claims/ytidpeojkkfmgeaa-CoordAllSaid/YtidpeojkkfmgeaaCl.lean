/-
  Package coord: Phase, Same; the document's Great and SameSaid.
-/
import Derived.Test.YtidpeojkkfmgeaaCk
import Derived.Test.YtidpeojkkfmgeaaFa
namespace Go.Proofs.Ytidpeojkkfmgeaa
open Go.RowKit Go.Sort

theorem phase1_any (d : Dr) (lv : Value) (nm : Nm) (b : Nat) (w : World) (hN : Blk w b nm.cells 26) :
    Calls Try.prog 37 #[.agg (d.cells lv), .pointer (some ⟨b, 0, none⟩)] w fun e w' => e = .returned (.bool (d.name.eqb nm)) ∧ Below w.heap.size w w' := by
  have M := Mem.start w
  refine calls_enter Try.func37 rfl 8 rfl rfl ?_; intro a S
  refine nxD ?_
  refine st_box S M rfl rfl rfl #[_, _, _, _, _, _, _, _, _, _] rfl ?_; clear S M a; intro a w1 bD S M hB
  refine st_go [1] S rfl (by kernel_rfl) ?_; clear S a; intro a S
  refine nxA ?_
  refine st_go [1] S rfl (by kernel_rfl) ?_; clear S a; intro a S
  refine st_y S rfl rfl rfl (y_loadAgg (cs := [_, _, _]) S (by kernel_rfl) rfl rfl (M.cellsAt (k := 3) 0 rfl rfl)) ?_; clear S a; intro a S
  refine st_y S rfl rfl rfl (y_loadAgg S (by kernel_rfl) rfl rfl (show CellsAt _ b 0 [.int .i64 nm.stamp, .int .i64 nm.inc, .int .i64 nm.try_] from Blk.cellsAt (o := 0) (k := 3) ((M.below.block b hN.lt).trans hN) rfl)) ?_; clear S a; intro a S
  refine st_y S rfl rfl rfl (y_eqlG (by kernel_rfl) S rfl rfl (fun w => equalNm 9998 d.name nm w)) ?_; clear S a; intro a S
  refine st_go [1] S rfl (by kernel_rfl) ?_; clear S a; intro a S
  refine nxC ?_
  refine wp_ret ?_
  refine end_one S rfl (res_tmp rfl) ?_
  exact ⟨rfl, M.below⟩
/-- the first that the question takes, or none -/
def FirstP (ds : Dl) (p : Dr × List Wr → Bool) (j : Int) : Prop :=
  (∃ (k : Nat) (q : Dr × List Wr), j = (k : Int) ∧ ds[k]? = some q ∧ p q = true) ∨ (j = -1 ∧ ∀ (i : Nat) (q : Dr × List Wr), ds[i]? = some q → p q = false)
set_option maxHeartbeats 400000 in
theorem indexFunc_any {f : FuncId} {fi ca : List Value} (hE : Enters Try.prog f) (va : Option Addr) (vc : Nat) (cs : List Value) (ds : Dl) (p : Dr × List Wr → Bool) (w : World) (hv : RowC drS cs 0 w.heap.size w (.slice va ds.length vc) ds)
    (hstep : ∀ (q : Dr × List Wr) (lv : Value) (w' : World), Below w.heap.size w w' → Calls Try.prog f (fi ++ ([Value.agg (q.1.cells lv)] ++ ca)).toArray w' (fun e w'' => e = .returned (.bool (p q)) ∧ Below w'.heap.size w' w'')) :
    Calls Try.prog 36 #[.slice va ds.length vc, .func (.func f) fi.toArray ca.toArray] w (fun e w' => ∃ j, e = .returned (.int .i64 j) ∧ Below w.heap.size w w' ∧ FirstP ds p j) := by
  have M := Mem.start w
  have hl := hv.1.2.1
  unfold maxLen at hl
  refine calls_enter Try.func36 rfl 19 rfl rfl ?_; intro a S
  refine nxD ?_
  refine st_go [1] S rfl (by kernel_rfl) ?_; clear S a; intro a S
  refine nxC ?_
  refine wp_seq ?_
  refine nxD ?_
  refine st_go [1] S rfl (by kernel_rfl) ?_; clear S a; intro a S
  refine st_y S rfl rfl rfl (y_lenS (E := 59) S rfl (by kernel_rfl)) ?_; clear S a; intro a S
  refine st_go [1] S rfl (by kernel_rfl) ?_; clear S a; intro a S
  refine nxC ?_
  refine wp_block ?_
  refine wp_loop_g (fun m a w' => ∃ (k : Nat), k ≤ ds.length ∧ m = ds.length - k ∧ Sees 19 a [(0, .slice va ds.length vc), (1, .func (.func f) fi.toArray ca.toArray), (7, .int .i64 (ds.length : Int)), (8, .int .i64 (k : Int))] ∧ Mem w w' [] ∧ ∀ (i : Nat) (q : Dr × List Wr), i < k → ds[i]? = some q → p q = false) (ds.length) ?_ ?_
  · skip
    exact ⟨0, Nat.zero_le _, rfl, S.sub _ rfl, M, fun i q h => absurd h (by omega)⟩
  clear S M a; intro m a wl
  rintro ⟨k, hk, rfl, S, M, hpre⟩
  refine nxD ?_
  refine st_go [1] S rfl (by kernel_rfl) ?_; clear S a; intro a S
  refine nxC ?_
  refine wp_seq ?_
  refine st_fi (t := 9) S rfl ?_ ?_
  · clear S; intro h9 S
    refine st_condF S rfl ?_
    refine wp_exit ?_
    refine then_exit ?_
    refine then_exit ?_
    refine block_hit ?_
    refine nxE ?_
    refine st_go [1] S rfl (by kernel_rfl) ?_; clear S a; intro a S
    refine nxC ?_
    refine wp_ret ?_
    refine end_one S rfl (res_tmp rfl) ?_
    obtain rfl : k = ds.length := by omega
    exact ⟨-1, rfl, M.below, .inr ⟨rfl, fun i q hq => hpre i q (List.getElem?_eq_some_iff.1 hq).1 hq⟩⟩
  clear S; intro h9 S
  refine st_condT S rfl ?_
  refine wp_skip ?_
  refine then_normal ?_
  refine wp_seq ?_
  refine wp_block ?_
  refine nxD ?_
  refine st_go [1, 1] S rfl (by kernel_rfl) ?_; clear S a; intro a S
  refine nxC ?_
  refine wp_seq ?_
  have hk' : k < ds.length := by omega
  obtain ⟨q, hq⟩ : ∃ q, ds[k]? = some q := ⟨_, List.getElem?_eq_getElem hk'⟩
  obtain ⟨xa, xc, hrow, hws⟩ := hv.sl hq
  refine wp_region_lit ?_
  refine st_go [1, 1, 1] S rfl (by kernel_rfl) ?_; clear S a; intro a S
  refine st_y S rfl rfl rfl (y_indexR (e := 59) (sz := 10) S (by kernel_rfl) rfl ((M.rows hv).1) rfl (by first | omega | (simp; done) | (simp; omega))) ?_; clear S a; intro a S
  try simp only [Int.toNat_natCast, Nat.mul_one, Nat.zero_add] at S
  refine st_y S rfl rfl rfl (y_loadAgg S (by kernel_rfl) rfl rfl ((M.rows hv).1.at_.row (i := k) hrow rfl)) ?_; clear S a; intro a S
  refine st_callB (xs := [(Operand.tmp 15)]) (fi := fi) (ca := ca) S (hE) rfl rfl (rfl) rfl (hstep q _ _ M.below) ?_
  rintro _ w1 ⟨rfl, hK⟩; refine ⟨_, rfl, ?_⟩; clear S a; intro a S; replace M := M.grow hK
  refine nxC ?_
  refine st_split (t := 16) S rfl ?_ ?_
  · clear S; intro h16 S
    refine st_condT S rfl ?_
    refine nxD ?_
    refine st_go [1, 1] S rfl (by kernel_rfl) ?_; clear S a; intro a S
    refine nxC ?_
    refine wp_ret ?_
    refine block_ret ?_
    refine then_ret ?_
    refine then_ret ?_
    refine block_ret ?_
    refine then_ret ?_
    refine end_one S rfl (res_tmp rfl) ?_
    exact ⟨(k : Int), rfl, M.below, .inl ⟨k, q, rfl, hq, h16⟩⟩
  clear S; intro h16 S
  refine st_condF S rfl ?_
  refine wp_skip ?_
  refine block_normal ?_
  refine nxF ?_
  (first | refine st_y S rfl rfl rfl (y_addN S rfl rfl (by omega)) ?_ | refine st_y S rfl rfl rfl (y_int S rfl rfl rfl) ?_); clear S a; intro a S
  refine st_go [1] S rfl (by kernel_rfl) ?_; clear S a; intro a S
  refine nxC ?_
  refine ⟨ds.length - (k + 1), by omega, k + 1, by omega, rfl, S.sub _ rfl, M, fun i q' hi hq' => ?_⟩
  rcases Nat.lt_or_ge i k with h | h
  · exact hpre i q' h hq'
  · obtain rfl : i = k := by omega
    rw [hq] at hq'; obtain rfl := Option.some.inj hq'; exact h16
/-- the phase of a name -/
def PhaseP (ds : Dl) (nm : Nm) (ph : Int) : Prop :=
  (∃ (k : Nat) (q : Dr × List Wr), ds[k]? = some q ∧ q.1.name = nm ∧ ph = q.1.phase) ∨ (ph = 0 ∧ ∀ (i : Nat) (q : Dr × List Wr), ds[i]? = some q → q.1.name ≠ nm)
theorem phase_any (va : Option Addr) (vc : Nat) (cs : List Value) (ds : Dl) (nm : Nm) (w : World) (hv : RowC drS cs 0 w.heap.size w (.slice va ds.length vc) ds) :
    Calls Try.prog 12 #[.agg #[.slice va ds.length vc], .agg nm.cells] w (fun e w' => ∃ ph, e = .returned (.int .i8 ph) ∧ Below w.heap.size w w' ∧ PhaseP ds nm ph) := by
  have M := Mem.start w
  refine calls_enter Try.func12 rfl 18 rfl rfl ?_; intro a S
  refine nxD ?_
  refine st_box S M rfl rfl rfl #[_] rfl ?_; clear S M a; intro a w1 bC S M hB
  refine st_box S M rfl rfl rfl #[_, _, _] rfl ?_; clear S M a; intro a w2 bX S M hB
  refine st_go [1] S rfl (by kernel_rfl) ?_; clear S a; intro a S
  refine nxA ?_
  refine st_run [1, 2] S M rfl (by kernel_rfl) ?_; clear S a; intro a S
  refine st_y S rfl rfl rfl (y_makeFunc (fs := []) (cs := [(Operand.tmp 3)]) S rfl rfl) ?_; clear S a; intro a S
  refine st_call (xs := [(Operand.tmp 7), (Operand.tmp 8)]) S (enters_of Try.func36 (by decide) rfl) rfl rfl rfl (indexFunc_any (fi := []) (ca := [.pointer (some ⟨bX, 0, none⟩)]) (enters_of Try.func37 (by decide) rfl) va vc cs ds (fun q => q.1.name.eqb nm) _ (M.rowsW hv) (fun q lv w' hb => phase1_any q.1 lv nm bX w' ((hb.block bX (M.blk 0 rfl).lt).trans (M.blk 0 rfl)))) ?_
  rintro _ w3 ⟨j, rfl, hK, hj⟩; refine ⟨_, rfl, ?_⟩; clear S a; intro a S; replace M := M.grow hK
  refine st_go [1] S rfl (by kernel_rfl) ?_; clear S a; intro a S
  refine nxC ?_
  refine wp_seq ?_
  refine nxD ?_
  refine st_go [1, 1] S rfl (by kernel_rfl) ?_; clear S a; intro a S
  refine nxC ?_
  refine st_if (t := 11) S rfl ?_ ?_
  · clear S; intro h11 S
    refine st_condT S rfl ?_
    refine nxD ?_
    refine st_go [1] S rfl (by kernel_rfl) ?_; clear S a; intro a S
    refine nxC ?_
    refine wp_ret ?_
    refine then_ret ?_
    refine end_one S rfl (res_tmp rfl) ?_
    refine ⟨0, rfl, M.below, .inr ⟨rfl, fun i q hq hn => ?_⟩⟩
    rcases hj with ⟨k, q', rfl, -, -⟩ | ⟨-, h⟩
    · omega
    · have : q.1.name.eqb nm = false := h i q hq
      rw [Nm.eqb_iff.2 hn] at this; cases this
  clear S; intro h11 S
  refine st_condF S rfl ?_
  refine wp_skip ?_
  refine then_normal ?_
  refine wp_seq ?_
  obtain ⟨k, q, rfl, hq, hqn⟩ : ∃ (k : Nat) (q : Dr × List Wr), j = (k : Int) ∧ ds[k]? = some q ∧ q.1.name = nm := by
    rcases hj with ⟨k, q, h1, h2, h3⟩ | ⟨h, -⟩
    · exact ⟨k, q, h1, h2, Nm.eqb_iff.1 h3⟩
    · exfalso; omega
  have hkl := (List.getElem?_eq_some_iff.1 hq).1
  obtain ⟨xa, xc, hrow0, hws⟩ := hv.sl hq
  have hrow : (cs.drop (k * 10)).take 10 = (q.1.cells (.slice xa q.2.length xc)).toList := hrow0
  refine wp_region_lit ?_
  refine st_run [1, 2, 1] S M rfl (by kernel_rfl) ?_; clear S a; intro a S
  refine st_y S rfl rfl rfl (y_indexR (e := 59) (sz := 10) S (by kernel_rfl) rfl ((M.rows hv).1) rfl (by first | omega | (simp; done) | (simp; omega))) ?_; clear S a; intro a S
  try simp only [Int.toNat_natCast, Nat.mul_one, Nat.zero_add] at S
  refine st_go [4] S rfl (by kernel_rfl) ?_; clear S a; intro a S
  refine st_y S rfl rfl rfl (y_load S (by kernel_rfl) rfl ((M.rows hv).1.at_.row (i := k) hrow rfl 3 (by show 3 < 10; omega))) ?_; clear S a; intro a S
  refine st_go [1] S rfl (by kernel_rfl) ?_; clear S a; intro a S
  refine nxC ?_
  refine wp_ret ?_
  refine end_one S rfl (res_tmp rfl) ?_
  exact ⟨_, rfl, M.below, .inl ⟨k, q, hq, hqn, rfl⟩⟩

def Dr.same (p q : Dr) (x y : List Wr) : Bool := p.name.eqb q.name && p.phase == q.phase && p.shards == q.shards && p.yes == q.yes && p.acks == q.acks && (p.cs == q.cs && p.ct == q.ct) && eqWs x y
theorem Dr.same_iff {p q : Dr} {x y : List Wr} : p.same q x y = true ↔ p = q ∧ x = y := by
  unfold Dr.same
  simp only [Bool.and_eq_true, beq_iff_eq, Nm.eqb_iff, eqWs_iff]
  cases p; cases q; simp [and_assoc]
set_option maxHeartbeats 400000 in
theorem same1_any (p q : Dr) (va vb : Value) (x y : List Wr) (w : World) (hx : Ws 0 w.heap.size w va x) (hy : Ws 0 w.heap.size w vb y) :
    Calls Try.prog 34 #[.agg (p.cells va), .agg (q.cells vb)] w fun e w' => e = .returned (.bool (p.same q x y)) ∧ Below w.heap.size w w' := by
  obtain ⟨aa, ca, rfl, -, -⟩ := hx.form
  obtain ⟨ab, cb, rfl, -, -⟩ := hy.form
  have M := Mem.start w
  generalize hr : p.same q x y = R
  refine calls_enter Try.func34 rfl 52 rfl rfl ?_; intro a S
  refine nxD ?_
  refine st_box S M rfl rfl rfl #[_, _, _, _, _, _, _, _, _, _] rfl ?_; clear S M a; intro a w1 b1 S M hB
  refine st_box S M rfl rfl rfl #[_, _, _, _, _, _, _, _, _, _] rfl ?_; clear S M a; intro a w2 b2 S M hB
  refine st_go [1] S rfl (by kernel_rfl) ?_; clear S a; intro a S
  refine nxA ?_
  refine st_go [1] S rfl (by kernel_rfl) ?_; clear S a; intro a S
  refine st_y S rfl rfl rfl (y_loadAgg (cs := [_, _, _]) S (by kernel_rfl) rfl rfl (M.cellsAt (k := 3) 1 rfl rfl)) ?_; clear S a; intro a S
  refine st_go [1] S rfl (by kernel_rfl) ?_; clear S a; intro a S
  refine st_y S rfl rfl rfl (y_loadAgg (cs := [_, _, _]) S (by kernel_rfl) rfl rfl (M.cellsAt (k := 3) 0 rfl rfl)) ?_; clear S a; intro a S
  refine st_y S rfl rfl rfl (y_eqlG (by kernel_rfl) S rfl rfl (fun w => equalNm 9998 p.name q.name w)) ?_; clear S a; intro a S
  refine st_go [1] S rfl (by kernel_rfl) ?_; clear S a; intro a S
  refine st_tils (t := 10) S rfl ?_ ?_
  · clear S; intro h10 S
    refine st_go [0, 0, 0, 0, 0, 1, 1, 0, 0, 0, 0, 0, 1, 1, 0, 0, 0, 0, 0, 1, 1, 0, 0, 0, 0, 0, 1, 1, 0, 0, 0, 0, 0, 1, 1, 0, 0, 0, 0, 0, 1, 1] S rfl (by kernel_rfl) ?_; clear S a; intro a S
    replace S := S.sub [(0, _), (1, _), (2, _), (3, _), (4, _)] rfl
    refine nxC ?_
    refine wp_ret ?_
    refine end_one S rfl (res_tmp rfl) ?_
    refine ⟨ret_bool ?_, M.below⟩; rw [← hr]; clear S M; simp [Dr.same, *]
  clear S; intro h10 S
  refine st_run [4, 2, 4, 1, 1, 1, 1] S M rfl (by kernel_rfl) ?_; clear S a; intro a S
  refine st_tils (t := 17) S rfl ?_ ?_
  · clear S; intro h17 S
    refine st_go [0, 0, 0, 0, 0, 1, 1, 0, 0, 0, 0, 0, 1, 1, 0, 0, 0, 0, 0, 1, 1, 0, 0, 0, 0, 0, 1, 1, 0, 0, 0, 0, 0, 1, 1] S rfl (by kernel_rfl) ?_; clear S a; intro a S
    replace S := S.sub [(0, _), (1, _), (2, _), (3, _), (4, _)] rfl
    refine nxC ?_
    refine wp_ret ?_
    refine end_one S rfl (res_tmp rfl) ?_
    refine ⟨ret_bool ?_, M.below⟩; rw [← hr]; clear S M; simp [Dr.same, *]
  clear S; intro h17 S
  refine st_run [5, 2, 5, 1, 1, 1, 1] S M rfl (by kernel_rfl) ?_; clear S a; intro a S
  refine st_tils (t := 24) S rfl ?_ ?_
  · clear S; intro h24 S
    refine st_go [0, 0, 0, 0, 0, 1, 1, 0, 0, 0, 0, 0, 1, 1, 0, 0, 0, 0, 0, 1, 1, 0, 0, 0, 0, 0, 1, 1] S rfl (by kernel_rfl) ?_; clear S a; intro a S
    replace S := S.sub [(0, _), (1, _), (2, _), (3, _), (4, _)] rfl
    refine nxC ?_
    refine wp_ret ?_
    refine end_one S rfl (res_tmp rfl) ?_
    refine ⟨ret_bool ?_, M.below⟩; rw [← hr]; clear S M; simp [Dr.same, *]
  clear S; intro h24 S
  refine st_run [6, 2, 6, 1, 1, 1, 1] S M rfl (by kernel_rfl) ?_; clear S a; intro a S
  refine st_tils (t := 31) S rfl ?_ ?_
  · clear S; intro h31 S
    refine st_go [0, 0, 0, 0, 0, 1, 1, 0, 0, 0, 0, 0, 1, 1, 0, 0, 0, 0, 0, 1, 1] S rfl (by kernel_rfl) ?_; clear S a; intro a S
    replace S := S.sub [(0, _), (1, _), (2, _), (3, _), (4, _)] rfl
    refine nxC ?_
    refine wp_ret ?_
    refine end_one S rfl (res_tmp rfl) ?_
    refine ⟨ret_bool ?_, M.below⟩; rw [← hr]; clear S M; simp [Dr.same, *]
  clear S; intro h31 S
  refine st_run [7, 2, 7, 1, 1, 1, 1] S M rfl (by kernel_rfl) ?_; clear S a; intro a S
  refine st_tils (t := 38) S rfl ?_ ?_
  · clear S; intro h38 S
    refine st_go [0, 0, 0, 0, 0, 1, 1, 0, 0, 0, 0, 0, 1, 1] S rfl (by kernel_rfl) ?_; clear S a; intro a S
    replace S := S.sub [(0, _), (1, _), (2, _), (3, _), (4, _)] rfl
    refine nxC ?_
    refine wp_ret ?_
    refine end_one S rfl (res_tmp rfl) ?_
    refine ⟨ret_bool ?_, M.below⟩; rw [← hr]; clear S M; simp [Dr.same, *]
  clear S; intro h38 S
  refine st_go [8] S rfl (by kernel_rfl) ?_; clear S a; intro a S
  refine st_y S rfl rfl rfl (y_loadAgg (cs := [_, _]) S (by kernel_rfl) rfl rfl (M.cellsAt (k := 2) 1 rfl rfl)) ?_; clear S a; intro a S
  refine st_go [8] S rfl (by kernel_rfl) ?_; clear S a; intro a S
  refine st_y S rfl rfl rfl (y_loadAgg (cs := [_, _]) S (by kernel_rfl) rfl rfl (M.cellsAt (k := 2) 0 rfl rfl)) ?_; clear S a; intro a S
  refine st_y S rfl rfl rfl (y_eqlG (by kernel_rfl) S rfl rfl (fun w => equalCh 9998 _ _ _ _ w)) ?_; clear S a; intro a S
  refine st_go [1, 1] S rfl (by kernel_rfl) ?_; clear S a; intro a S
  refine st_tils (t := 45) S rfl ?_ ?_
  · clear S; intro h45 S
    refine st_go [0, 0, 0, 0, 0, 1, 1] S rfl (by kernel_rfl) ?_; clear S a; intro a S
    replace S := S.sub [(0, _), (1, _), (2, _), (3, _), (4, _)] rfl
    refine nxC ?_
    refine wp_ret ?_
    refine end_one S rfl (res_tmp rfl) ?_
    refine ⟨ret_bool ?_, M.below⟩; rw [← hr]; clear S M; simp [Dr.same, *]
  clear S; intro h45 S
  refine st_run [10, 2, 10, 1] S M rfl (by kernel_rfl) ?_; clear S a; intro a S
  refine st_call (xs := [(Operand.tmp 47), (Operand.tmp 49)]) S (enters_of Try.func35 (by decide) rfl) rfl rfl rfl (equalW_any _ _ x y _ (M.argW hx) (M.argW hy)) ?_
  rintro _ w3 ⟨rfl, hK⟩; refine ⟨_, rfl, ?_⟩; clear S a; intro a S; replace M := M.grow hK
  refine st_go [1, 1] S rfl (by kernel_rfl) ?_; clear S a; intro a S
  replace S := S.sub [(0, _), (1, _), (2, _), (3, _), (4, _)] rfl
  refine nxC ?_
  refine wp_ret ?_
  refine end_one S rfl (res_tmp rfl) ?_
  refine ⟨ret_bool ?_, M.below⟩; rw [← hr]; clear S M; simp [Dr.same, *]
set_option maxHeartbeats 400000 in
theorem equalFuncD_any (va vb : Option Addr) (vc vd : Nat) (cs ct : List Value) (ds es : Dl) (w : World) (hv : RowC drS cs 0 w.heap.size w (.slice va ds.length vc) ds) (hu : RowC drS ct 0 w.heap.size w (.slice vb es.length vd) es) :
    Calls Try.prog 33 #[.slice va ds.length vc, .slice vb es.length vd, .func (.func 34) #[] #[]] w (fun e w' => ∃ b, e = .returned (.bool b) ∧ Below w.heap.size w w' ∧ (b = true ↔ ds = es)) := by
  have M := Mem.start w
  have hl := hv.1.2.1
  unfold maxLen at hl
  refine calls_enter Try.func33 rfl 32 rfl rfl ?_; intro a S
  refine nxD ?_
  refine st_go [1] S rfl (by kernel_rfl) ?_; clear S a; intro a S
  refine nxC ?_
  refine wp_seq ?_
  refine nxD ?_
  refine st_go [1] S rfl (by kernel_rfl) ?_; clear S a; intro a S
  refine st_y S rfl rfl rfl (y_lenS (E := 59) S rfl (by kernel_rfl)) ?_; clear S a; intro a S
  refine st_go [1] S rfl (by kernel_rfl) ?_; clear S a; intro a S
  refine st_y S rfl rfl rfl (y_lenS (E := 59) S rfl (by kernel_rfl)) ?_; clear S a; intro a S
  refine st_go [1] S rfl (by kernel_rfl) ?_; clear S a; intro a S
  refine nxC ?_
  refine st_if (t := 14) S rfl ?_ ?_
  · clear S; intro h14 S
    refine st_condT S rfl ?_
    refine nxD ?_
    refine st_go [1] S rfl (by kernel_rfl) ?_; clear S a; intro a S
    refine nxC ?_
    refine wp_ret ?_
    refine then_ret ?_
    refine end_one S rfl (res_tmp rfl) ?_
    exact ⟨false, rfl, M.below, (fun h => by cases h), fun h => by subst h; omega⟩
  clear S; intro h14 S
  refine st_condF S rfl ?_
  refine wp_skip ?_
  refine then_normal ?_
  refine wp_seq ?_
  refine nxD ?_
  refine st_go [1] S rfl (by kernel_rfl) ?_; clear S a; intro a S
  refine st_y S rfl rfl rfl (y_lenS (E := 59) S rfl (by kernel_rfl)) ?_; clear S a; intro a S
  refine st_go [1] S rfl (by kernel_rfl) ?_; clear S a; intro a S
  refine nxC ?_
  refine wp_block ?_
  refine wp_loop_g (fun m a w' => ∃ (k : Nat), k ≤ ds.length ∧ m = ds.length - k ∧ Sees 32 a [(1, .slice vb es.length vd), (2, .func (.func 34) #[] #[]), (15, .slice va ds.length vc), (16, .int .i64 (ds.length : Int)), (17, .int .i64 (k : Int))] ∧ Mem w w' [] ∧ ∀ j, j < k → ds[j]? = es[j]?) (ds.length) ?_ ?_
  · skip
    exact ⟨0, Nat.zero_le _, rfl, S.sub _ rfl, M, fun j h => absurd h (by omega)⟩
  clear S M a; intro m a wl
  rintro ⟨k, hk, rfl, S, M, hpre⟩
  refine nxD ?_
  refine st_go [1] S rfl (by kernel_rfl) ?_; clear S a; intro a S
  refine nxC ?_
  refine wp_seq ?_
  refine st_fi (t := 18) S rfl ?_ ?_
  · clear S; intro h18 S
    refine st_condF S rfl ?_
    refine wp_exit ?_
    refine then_exit ?_
    refine then_exit ?_
    refine block_hit ?_
    refine nxE ?_
    refine st_go [1] S rfl (by kernel_rfl) ?_; clear S a; intro a S
    refine nxC ?_
    refine wp_ret ?_
    refine end_one S rfl (res_tmp rfl) ?_
    obtain rfl : k = ds.length := by omega
    refine ⟨true, rfl, M.below, fun _ => List.ext_getElem? fun j => ?_, fun _ => rfl⟩
    by_cases hj : j < ds.length
    · exact hpre j hj
    · rw [List.getElem?_eq_none (by omega), List.getElem?_eq_none (by omega)]
  clear S; intro h18 S
  refine st_condT S rfl ?_
  refine wp_skip ?_
  refine then_normal ?_
  refine wp_seq ?_
  refine wp_block ?_
  refine wp_seq ?_
  obtain ⟨p, hp⟩ : ∃ p, ds[k]? = some p := ⟨_, List.getElem?_eq_getElem (by omega)⟩
  obtain ⟨q, hq⟩ : ∃ q, es[k]? = some q := ⟨_, List.getElem?_eq_getElem (by omega)⟩
  obtain ⟨xa, xc, hrowp, hwp⟩ := hv.sl hp
  obtain ⟨ya, yc, hrowq, hwq⟩ := hu.sl hq
  refine wp_region_lit ?_
  refine st_go [1] S rfl (by kernel_rfl) ?_; clear S a; intro a S
  refine st_y S rfl rfl rfl (y_indexR (e := 59) (sz := 10) S (by kernel_rfl) rfl ((M.rows hv).1) rfl (by first | omega | (simp; done) | (simp; omega))) ?_; clear S a; intro a S
  try simp only [Int.toNat_natCast, Nat.mul_one, Nat.zero_add] at S
  refine st_y S rfl rfl rfl (y_loadAgg S (by kernel_rfl) rfl rfl ((M.rows hv).1.at_.row (i := k) hrowp rfl)) ?_; clear S a; intro a S
  refine st_alloc S M rfl rfl #[.int .i64 0, .int .i64 0, .int .i64 0, .int .i8 0, .int .i64 0, .int .i64 0, .int .i64 0, .int .i64 0, .int .i64 0, .slice none 0 0] (by kernel_rfl) ?_; clear S M a; intro a w1 bA S M hB
  refine st_go [1] S rfl (by kernel_rfl) ?_; clear S a; intro a S
  refine st_store (sz := 10) (us := [_, _, _, _, _, _, _, _, _, _]) S M 0 rfl (by kernel_rfl) rfl rfl rfl rfl rfl rfl (by first | decide | (simp; done) | (simp; omega)) ?_; clear M; intro w2 M
  simp only [putL, List.set_cons_zero, List.set_cons_succ, Nat.reduceAdd] at M
  refine nxA ?_
  refine st_go [1, 1] S rfl (by kernel_rfl) ?_; clear S a; intro a S
  refine st_y S rfl rfl rfl (y_indexR (e := 59) (sz := 10) S (by kernel_rfl) rfl ((M.rows hu).1) rfl (by first | omega | (simp; done) | (simp; omega))) ?_; clear S a; intro a S
  try simp only [Int.toNat_natCast, Nat.mul_one, Nat.zero_add] at S
  refine st_y S rfl rfl rfl (y_loadAgg S (by kernel_rfl) rfl rfl ((M.rows hu).1.at_.row (i := k) hrowq rfl)) ?_; clear S a; intro a S
  refine st_alloc S M rfl rfl #[.int .i64 0, .int .i64 0, .int .i64 0, .int .i8 0, .int .i64 0, .int .i64 0, .int .i64 0, .int .i64 0, .int .i64 0, .slice none 0 0] (by kernel_rfl) ?_; clear S M a; intro a w3 bB S M hB
  refine st_store (sz := 10) (us := [_, _, _, _, _, _, _, _, _, _]) S M 0 rfl (by kernel_rfl) rfl rfl rfl rfl rfl rfl (by first | decide | (simp; done) | (simp; omega)) ?_; clear M; intro w4 M
  simp only [putL, List.set_cons_zero, List.set_cons_succ, Nat.reduceAdd] at M
  refine nxA ?_
  refine st_go [1] S rfl (by kernel_rfl) ?_; clear S a; intro a S
  refine st_y S rfl rfl rfl (y_loadAgg (cs := [_, _, _, _, _, _, _, _, _, _]) S (by kernel_rfl) rfl rfl (M.cellsAt (k := 10) 1 rfl rfl)) ?_; clear S a; intro a S
  refine st_y S rfl rfl rfl (y_loadAgg (cs := [_, _, _, _, _, _, _, _, _, _]) S (by kernel_rfl) rfl rfl (M.cellsAt (k := 10) 0 rfl rfl)) ?_; clear S a; intro a S
  refine st_callB (xs := [(Operand.tmp 27), (Operand.tmp 28)]) (fi := []) (ca := []) S (enters_of Try.func34 (by decide) rfl) rfl rfl (rfl) rfl (same1_any p.1 q.1 _ _ p.2 q.2 _ (M.argW hwp) (M.argW hwq)) ?_
  rintro _ w5 ⟨rfl, hK⟩; refine ⟨_, rfl, ?_⟩; clear S a; intro a S; replace M := M.grow hK
  refine st_go [1] S rfl (by kernel_rfl) ?_; clear S a; intro a S
  refine nxC ?_
  refine st_split (t := 30) S rfl ?_ ?_
  · clear S; intro h30 S
    refine st_condT S rfl ?_
    refine nxD ?_
    refine st_go [1] S rfl (by kernel_rfl) ?_; clear S a; intro a S
    refine nxC ?_
    refine wp_ret ?_
    refine block_ret ?_
    refine then_ret ?_
    refine then_ret ?_
    refine block_ret ?_
    refine then_ret ?_
    refine end_one S rfl (res_tmp rfl) ?_
    refine ⟨false, rfl, M.below, (fun h => by cases h), fun h => ?_⟩
    subst h
    rw [hq] at hp; obtain rfl := Option.some.inj hp
    rw [Dr.same_iff.2 ⟨rfl, rfl⟩] at h30
    cases h30
  clear S; intro h30 S
  refine st_condF S rfl ?_
  refine wp_skip ?_
  refine block_normal ?_
  refine nxF ?_
  (first | refine st_y S rfl rfl rfl (y_addN S rfl rfl (by omega)) ?_ | refine st_y S rfl rfl rfl (y_int S rfl rfl rfl) ?_); clear S a; intro a S
  refine st_go [1] S rfl (by kernel_rfl) ?_; clear S a; intro a S
  refine nxC ?_
  replace M := M.drop 1
  simp only [List.eraseIdx_cons_succ, List.eraseIdx_cons_zero] at M
  replace M := M.drop 0
  simp only [List.eraseIdx_cons_succ, List.eraseIdx_cons_zero] at M
  refine ⟨ds.length - (k + 1), by omega, k + 1, by omega, rfl, S.sub _ rfl, M, fun j hj => ?_⟩
  rcases Nat.lt_or_ge j k with h | h
  · exact hpre j h
  · obtain rfl : j = k := by omega
    obtain ⟨h1, h2⟩ := Dr.same_iff.1 (show p.1.same q.1 p.2 q.2 = true by simpa using h30)
    rw [hp, hq, Prod.ext h1 h2]
theorem sameC_any (va vb : Option Addr) (vc vd : Nat) (cs ct : List Value) (ds es : Dl) (w : World) (hv : RowC drS cs 0 w.heap.size w (.slice va ds.length vc) ds) (hu : RowC drS ct 0 w.heap.size w (.slice vb es.length vd) es) :
    Calls Try.prog 11 #[.agg #[.slice va ds.length vc], .agg #[.slice vb es.length vd]] w (fun e w' => ∃ b, e = .returned (.bool b) ∧ Below w.heap.size w w' ∧ (b = true ↔ ds = es)) := by
  have M := Mem.start w
  refine calls_enter Try.func11 rfl 10 rfl rfl ?_; intro a S
  refine nxD ?_
  refine st_box S M rfl rfl rfl #[_] rfl ?_; clear S M a; intro a w1 b1 S M hB
  refine st_box S M rfl rfl rfl #[_] rfl ?_; clear S M a; intro a w2 b2 S M hB
  refine st_go [1] S rfl (by kernel_rfl) ?_; clear S a; intro a S
  refine nxA ?_
  refine st_run [1, 2, 1, 1] S M rfl (by kernel_rfl) ?_; clear S a; intro a S
  refine st_call (xs := [(Operand.tmp 6), (Operand.tmp 8), (Operand.func 34)]) S (enters_of Try.func33 (by decide) rfl) rfl rfl rfl (equalFuncD_any va vb vc vd cs ct ds es _ (M.rowsW hv) (M.rowsW hu)) ?_
  rintro _ w3 ⟨b, rfl, hK, hb⟩; refine ⟨_, rfl, ?_⟩; clear S a; intro a S; replace M := M.grow hK
  refine st_go [1] S rfl (by kernel_rfl) ?_; clear S a; intro a S
  refine nxC ?_
  refine wp_ret ?_
  refine end_one S rfl (res_tmp rfl) ?_
  exact ⟨b, rfl, M.below, hb⟩
theorem great21_any (va : Option Addr) (vc : Nat) (cs : List Value) (ds : Dl) (w : World) (hv : RowC drS cs 0 w.heap.size w (.slice va ds.length vc) ds) :
    Calls Try.prog 6 #[.agg #[.slice va ds.length vc]] w (fun e w' => ∃ b, e = .returned (.bool b) ∧ Below w.heap.size w w') := by
  have M := Mem.start w
  have hl := hv.1.2.1
  unfold maxLen at hl
  refine calls_enter Try.func6 rfl 23 rfl rfl ?_; intro a S
  refine nxD ?_
  refine st_box S M rfl rfl rfl #[_] rfl ?_; clear S M a; intro a w1 bC S M hB
  refine st_go [1] S rfl (by kernel_rfl) ?_; clear S a; intro a S
  refine nxC ?_
  refine wp_seq ?_
  refine nxD ?_
  refine st_go [1] S rfl (by kernel_rfl) ?_; clear S a; intro a S
  refine nxC ?_
  refine wp_block ?_
  refine wp_loop_g (fun m a w' => ∃ (k : Nat), k ≤ ds.length ∧ m = ds.length - k ∧ Sees 23 a [(1, .pointer (some ⟨bC, 0, none⟩)), (3, .int .i64 (k : Int))] ∧ Mem w w' [.blk bC #[.slice va ds.length vc] 24]) (ds.length) ?_ ?_
  · skip
    exact ⟨0, Nat.zero_le _, rfl, S.sub _ rfl, M⟩
  clear S M a; intro m a wl
  rintro ⟨k, hk, rfl, S, M⟩
  refine wp_seq ?_
  refine nxD ?_
  refine st_run [1, 1, 1] S M rfl (by kernel_rfl) ?_; clear S a; intro a S
  refine st_y S rfl rfl rfl (y_lenS (E := 59) S rfl (by kernel_rfl)) ?_; clear S a; intro a S
  refine st_go [1] S rfl (by kernel_rfl) ?_; clear S a; intro a S
  refine nxC ?_
  refine st_fi (t := 8) S rfl ?_ ?_
  · clear S; intro h8 S
    refine st_condF S rfl ?_
    refine wp_exit ?_
    refine then_exit ?_
    refine then_exit ?_
    refine block_hit ?_
    refine nxE ?_
    refine st_go [1] S rfl (by kernel_rfl) ?_; clear S a; intro a S
    refine nxC ?_
    refine wp_ret ?_
    refine end_one S rfl (res_tmp rfl) ?_
    exact ⟨_, rfl, M.below⟩
  clear S; intro h8 S
  refine st_condT S rfl ?_
  refine wp_skip ?_
  refine then_normal ?_
  refine wp_seq ?_
  refine wp_block ?_
  refine wp_seq ?_
  obtain ⟨q, hq⟩ : ∃ q, ds[k]? = some q := ⟨_, List.getElem?_eq_getElem (by omega)⟩
  obtain ⟨xa, xc, hrow0, hws⟩ := hv.sl hq
  have hrow : (cs.drop (k * 10)).take 10 = (q.1.cells (.slice xa q.2.length xc)).toList := hrow0
  refine wp_region_lit ?_
  refine st_go [1, 1, 1] S rfl (by kernel_rfl) ?_; clear S a; intro a S
  refine st_if (t := 13) S rfl ?_ ?_
  · clear S; intro h13 S
    refine st_go [0, 0, 0, 0, 0, 0, 0, 0, 1] S rfl (by kernel_rfl) ?_; clear S a; intro a S
    replace S := S.sub [(1, _), (3, _), (8, _), (22, _)] rfl
    refine nxC ?_
    refine st_condT S rfl ?_
    refine nxD ?_
    refine st_go [1] S rfl (by kernel_rfl) ?_; clear S a; intro a S
    refine nxC ?_
    refine wp_ret ?_
    refine block_ret ?_
    refine then_ret ?_
    refine then_ret ?_
    refine block_ret ?_
    refine then_ret ?_
    refine end_one S rfl (res_tmp rfl) ?_
    exact ⟨_, rfl, M.below⟩
  clear S; intro h13 S
  refine st_run [1, 1, 1] S M rfl (by kernel_rfl) ?_; clear S a; intro a S
  refine st_y S rfl rfl rfl (y_indexR (e := 59) (sz := 10) S (by kernel_rfl) rfl ((M.rows hv).1) rfl (by first | omega | (simp; done) | (simp; omega))) ?_; clear S a; intro a S
  try simp only [Int.toNat_natCast, Nat.mul_one, Nat.zero_add] at S
  refine st_go [10] S rfl (by kernel_rfl) ?_; clear S a; intro a S
  refine st_y S rfl rfl rfl (y_load S (by kernel_rfl) rfl ((M.rows hv).1.at_.row (i := k) hrow rfl 9 (by show 9 < 10; omega))) ?_; clear S a; intro a S
  refine st_y S rfl rfl rfl (y_lenS (E := 80) S rfl (by kernel_rfl)) ?_; clear S a; intro a S
  refine st_go [1, 1] S rfl (by kernel_rfl) ?_; clear S a; intro a S
  replace S := S.sub [(1, _), (3, _), (8, _), (22, _)] rfl
  refine nxC ?_
  refine st_if (t := 22) S rfl ?_ ?_
  · clear S; intro h22 S
    refine st_condT S rfl ?_
    refine nxD ?_
    refine st_go [1] S rfl (by kernel_rfl) ?_; clear S a; intro a S
    refine nxC ?_
    refine wp_ret ?_
    refine block_ret ?_
    refine then_ret ?_
    refine then_ret ?_
    refine block_ret ?_
    refine then_ret ?_
    refine end_one S rfl (res_tmp rfl) ?_
    exact ⟨_, rfl, M.below⟩
  clear S; intro h22 S
  refine st_condF S rfl ?_
  refine wp_skip ?_
  refine block_normal ?_
  refine nxF ?_
  refine st_go [1] S rfl (by kernel_rfl) ?_; clear S a; intro a S
  (first | refine st_y S rfl rfl rfl (y_addN S rfl rfl (by omega)) ?_ | refine st_y S rfl rfl rfl (y_int S rfl rfl rfl) ?_); clear S a; intro a S
  refine st_go [1] S rfl (by kernel_rfl) ?_; clear S a; intro a S
  refine nxC ?_
  exact ⟨ds.length - (k + 1), by omega, k + 1, by omega, rfl, S.sub _ rfl, M⟩

end Go.Proofs.Ytidpeojkkfmgeaa
