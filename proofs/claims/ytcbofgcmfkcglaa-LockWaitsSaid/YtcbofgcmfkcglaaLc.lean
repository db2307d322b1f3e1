/-
  Package lock: Holds; the library's IndexFunc, ContainsFunc over locks; settled.
-/
import Derived.Test.YtcbofgcmfkcglaaLb
namespace Go.Proofs.Ytcbofgcmfkcglaa
open Go.RowKit Go.Sort

theorem Lk.pl_iff {x : Lk} {n : Nm} {k : Int} : x.pl = (n, k) ↔ x.name.eqb n = true ∧ x.block = k := by
  rw [Nm.eqb_iff]; exact Prod.ext_iff
theorem holds_snoc (l : List Lk) (x : Lk) (p : Pl) : holdsV (l ++ [x]) p = if x.pl = p then max (holdsV l p) x.mode else holdsV l p := by
  unfold holdsV; rw [List.foldl_append]; rfl
theorem mode_bd (x : Lk) : 1 ≤ x.mode ∧ x.mode ≤ 2 := by unfold Lk.mode; split <;> decide
theorem holds_bd (l : List Lk) (p : Pl) : 0 ≤ holdsV l p ∧ holdsV l p ≤ 2 := by
  unfold holdsV
  have key : ∀ (l : List Lk) (a : Int), 0 ≤ a ∧ a ≤ 2 → 0 ≤ l.foldl (fun a x => if x.pl = p then max a x.mode else a) a ∧ l.foldl (fun a x => if x.pl = p then max a x.mode else a) a ≤ 2 := by
    intro l
    induction l with
    | nil => exact fun a h => h
    | cons x l ih =>
      intro a h
      rw [List.foldl_cons]
      refine ih _ ?_
      have := mode_bd x
      split
      · omega
      · exact h
  exact key l 0 (by decide)
/-- a table that is handed in: its two rows of locks -/
abbrev tabV (ha wa : Option Addr) (hn hc wn wc : Nat) : Value := .agg #[.slice ha hn hc, .slice wa wn wc]
set_option maxHeartbeats 1000000 in
theorem holds_any (ha wa : Option Addr) (hc wn wc : Nat) (l : List Lk) (n : Nm) (k : Int) (w : World) (hv : Ls 0 w.heap.size w (.slice ha l.length hc) l) :
    Calls Try.prog 8 #[tabV ha wa l.length hc wn wc, .agg n.cells, .int .i64 k] w fun e w' => e = .returned (.int .i8 (holdsV l (n, k))) ∧ Below w.heap.size w w' := by
  have M := Mem.start w
  have hl := hv.2.1
  unfold maxLen at hl
  refine calls_enter Try.func8 rfl 33 rfl rfl ?_; intro a S
  refine nxD ?_
  refine st_box S M rfl rfl rfl #[_, _] rfl ?_; clear S M a; intro a w1 bT S M hB
  refine st_box S M rfl rfl rfl #[_, _, _] rfl ?_; clear S M a; intro a w2 bN S M hB
  refine st_go [1] S rfl (by kernel_rfl) ?_; clear S a; intro a S
  refine nxA ?_
  refine st_go [1] S rfl (by kernel_rfl) ?_; clear S a; intro a S
  refine nxC ?_
  refine wp_seq ?_
  refine nxD ?_
  refine st_run [1, 2] S M rfl (by kernel_rfl) ?_; clear S a; intro a S
  refine st_y S rfl rfl rfl (y_lenS (E := 37) S rfl (by kernel_rfl)) ?_; clear S a; intro a S
  refine st_go [1] S rfl (by kernel_rfl) ?_; clear S a; intro a S
  refine nxC ?_
  refine wp_block ?_
  refine wp_loop_g (fun m a w' => ∃ (i : Nat), i ≤ l.length ∧ m = l.length - i ∧ Sees 33 a [(2, .int .i64 k), (4, .pointer (some ⟨bN, 0, none⟩)), (7, .int .i8 (holdsV (l.take i) (n, k))), (11, .slice ha l.length hc), (12, .int .i64 (l.length : Int)), (13, .int .i64 (i : Int))] ∧ Mem w w' [.blk bN n.cells 23]) (l.length) ?_ ?_
  · skip
    replace M := M.drop 1
    simp only [List.eraseIdx_cons_succ, List.eraseIdx_cons_zero] at M
    exact ⟨0, Nat.zero_le _, rfl, S.sub _ rfl, M⟩
  clear S M a; intro m a wl
  rintro ⟨i, hi', rfl, S, M⟩
  refine nxD ?_
  refine st_go [1] S rfl (by kernel_rfl) ?_; clear S a; intro a S
  refine nxC ?_
  refine wp_seq ?_
  refine st_fi (t := 14) S rfl ?_ ?_
  · clear S; intro h14 S
    refine st_condF S rfl ?_
    refine wp_exit ?_
    refine then_exit ?_
    refine then_exit ?_
    refine block_hit ?_
    refine nxE ?_
    refine st_go [1, 1] S rfl (by kernel_rfl) ?_; clear S a; intro a S
    refine nxC ?_
    refine wp_ret ?_
    refine end_one S rfl (res_tmp rfl) ?_
    obtain rfl : i = l.length := by omega
    exact ⟨by rw [List.take_length], M.below⟩
  clear S; intro h14 S
  refine st_condT S rfl ?_
  refine wp_skip ?_
  refine then_normal ?_
  refine wp_seq ?_
  refine wp_block ?_
  refine wp_seq ?_
  obtain ⟨x, hx⟩ : ∃ x, l[i]? = some x := ⟨_, List.getElem?_eq_getElem (by omega)⟩
  refine wp_region_lit ?_
  refine st_y S rfl rfl rfl (y_indexR (e := 37) (sz := 5) S (by kernel_rfl) rfl ((M.arg hv)) rfl (by first | omega | (simp; done) | (simp; omega))) ?_; clear S a; intro a S
  try simp only [Int.toNat_natCast, Nat.mul_one, Nat.zero_add] at S
  refine st_y S rfl rfl rfl (y_loadAgg S (by kernel_rfl) rfl rfl ((M.arg hv).at_.row (i := i) (lcells_get hx) rfl)) ?_; clear S a; intro a S
  refine st_alloc S M rfl rfl #[.int .i64 0, .int .i64 0, .int .i64 0, .int .i64 0, .bool false] (by kernel_rfl) ?_; clear S M a; intro a w3 bX S M hB
  refine st_store (sz := 5) (us := [_, _, _, _, _]) S M 0 rfl (by kernel_rfl) rfl rfl rfl rfl rfl rfl (by first | decide | (simp; done) | (simp; omega)) ?_; clear M; intro w4 M
  simp only [putL, List.set_cons_zero, List.set_cons_succ, Nat.reduceAdd] at M
  refine nxA ?_
  refine st_go [1] S rfl (by kernel_rfl) ?_; clear S a; intro a S
  refine st_y S rfl rfl rfl (y_loadAgg (cs := [_, _, _]) S (by kernel_rfl) rfl rfl (M.cellsAt (k := 3) 0 rfl rfl)) ?_; clear S a; intro a S
  refine st_y S rfl rfl rfl (y_loadAgg (cs := [_, _, _]) S (by kernel_rfl) rfl rfl (M.cellsAt (k := 3) 1 rfl rfl)) ?_; clear S a; intro a S
  refine st_y S rfl rfl rfl (y_eqlG (by kernel_rfl) S rfl rfl (fun w => equalNm 9998 x.name n w)) ?_; clear S a; intro a S
  refine st_go [1] S rfl (by kernel_rfl) ?_; clear S a; intro a S
  refine st_tils (t := 21) S rfl ?_ ?_
  · clear S; intro h21 S
    refine st_go [0, 0, 0, 0, 1] S rfl (by kernel_rfl) ?_; clear S a; intro a S
    refine nxC ?_
    refine st_condF S rfl ?_
    refine wp_skip ?_
    refine block_normal ?_
    refine nxF ?_
    (first | refine st_y S rfl rfl rfl (y_addN S rfl rfl (by omega)) ?_ | refine st_y S rfl rfl rfl (y_int S rfl rfl rfl) ?_); clear S a; intro a S
    refine st_go [1] S rfl (by kernel_rfl) ?_; clear S a; intro a S
    refine nxC ?_
    skip
    replace M := M.drop 0
    simp only [List.eraseIdx_cons_succ, List.eraseIdx_cons_zero] at M
    have e : holdsV (l.take (i + 1)) (n, k) = if x.pl = (n, k) then max (holdsV (l.take i) (n, k)) x.mode else holdsV (l.take i) (n, k) := by
      rw [List.take_add_one, hx]; exact holds_snoc _ _ _
    refine ⟨l.length - (i + 1), by omega, i + 1, by omega, rfl, ?_, M⟩
    rw [e]
    first
      | (rw [if_pos (Lk.pl_iff.2 ⟨h21, h26⟩)]; exact S.sub _ rfl)
      | (rw [if_neg (fun h => by have := Lk.pl_iff.1 h; first | omega | simp_all)]; exact S.sub _ rfl)
  clear S; intro h21 S
  refine st_run [4, 1, 1, 1, 1] S M rfl (by kernel_rfl) ?_; clear S a; intro a S
  refine nxC ?_
  refine st_fi (t := 26) S rfl ?_ ?_
  · clear S; intro h26 S
    refine st_condF S rfl ?_
    refine wp_skip ?_
    refine block_normal ?_
    refine nxF ?_
    (first | refine st_y S rfl rfl rfl (y_addN S rfl rfl (by omega)) ?_ | refine st_y S rfl rfl rfl (y_int S rfl rfl rfl) ?_); clear S a; intro a S
    refine st_go [1] S rfl (by kernel_rfl) ?_; clear S a; intro a S
    refine nxC ?_
    skip
    replace M := M.drop 0
    simp only [List.eraseIdx_cons_succ, List.eraseIdx_cons_zero] at M
    have e : holdsV (l.take (i + 1)) (n, k) = if x.pl = (n, k) then max (holdsV (l.take i) (n, k)) x.mode else holdsV (l.take i) (n, k) := by
      rw [List.take_add_one, hx]; exact holds_snoc _ _ _
    refine ⟨l.length - (i + 1), by omega, i + 1, by omega, rfl, ?_, M⟩
    rw [e]
    first
      | (rw [if_pos (Lk.pl_iff.2 ⟨h21, h26⟩)]; exact S.sub _ rfl)
      | (rw [if_neg (fun h => by have := Lk.pl_iff.1 h; first | omega | simp_all)]; exact S.sub _ rfl)
  clear S; intro h26 S
  refine st_condT S rfl ?_
  refine wp_region_lit ?_
  refine st_go [1] S rfl (by kernel_rfl) ?_; clear S a; intro a S
  refine st_y S rfl rfl rfl (y_loadAgg (cs := [_, _, _, _, _]) S (by kernel_rfl) rfl rfl (M.cellsAt (k := 5) 0 rfl rfl)) ?_; clear S a; intro a S
  refine st_call (xs := [(Operand.tmp 28)]) S (enters_of Try.func26 (by decide) rfl) rfl rfl rfl (mode_any x _) ?_
  rintro _ w5 ⟨rfl, hK⟩; refine ⟨_, rfl, ?_⟩; clear S a; intro a S; replace M := M.grow hK
  refine st_y S rfl rfl rfl (y_max S rfl rfl) ?_; clear S a; intro a S
  refine st_go [1] S rfl (by kernel_rfl) ?_; clear S a; intro a S
  replace S := S.sub [(2, _), (4, _), (11, _), (12, _), (13, _), (14, _), (9, _), (26, _), (7, _)] rfl
  refine wpList_nil ?_
  refine block_normal ?_
  refine nxF ?_
  (first | refine st_y S rfl rfl rfl (y_addN S rfl rfl (by omega)) ?_ | refine st_y S rfl rfl rfl (y_int S rfl rfl rfl) ?_); clear S a; intro a S
  refine st_go [1] S rfl (by kernel_rfl) ?_; clear S a; intro a S
  refine nxC ?_
  skip
  replace M := M.drop 0
  simp only [List.eraseIdx_cons_succ, List.eraseIdx_cons_zero] at M
  have e : holdsV (l.take (i + 1)) (n, k) = if x.pl = (n, k) then max (holdsV (l.take i) (n, k)) x.mode else holdsV (l.take i) (n, k) := by
    rw [List.take_add_one, hx]; exact holds_snoc _ _ _
  refine ⟨l.length - (i + 1), by omega, i + 1, by omega, rfl, ?_, M⟩
  rw [e]
  first
    | (rw [if_pos (Lk.pl_iff.2 ⟨h21, h26⟩)]; exact S.sub _ rfl)
    | (rw [if_neg (fun h => by have := Lk.pl_iff.1 h; first | omega | simp_all)]; exact S.sub _ rfl)
/-- the first that the question takes, or none -/
def FirstL (l : List Lk) (p : Lk → Bool) (j : Int) : Prop :=
  (∃ (k : Nat) (q : Lk), j = (k : Int) ∧ l[k]? = some q ∧ p q = true ∧ ∀ (i : Nat) (q : Lk), i < k → l[i]? = some q → p q = false) ∨ (j = -1 ∧ ∀ q ∈ l, p q = false)
set_option maxHeartbeats 400000 in
theorem indexFuncL_any {f : FuncId} {fi ca : List Value} (hE : Enters Try.prog f) (va : Option Addr) (vc : Nat) (l : List Lk) (p : Lk → Bool) (w : World) (hv : Ls 0 w.heap.size w (.slice va l.length vc) l)
    (hstep : ∀ (x : Lk) (w' : World), Below w.heap.size w w' → Calls Try.prog f (fi ++ ([Value.agg x.cellsL.toArray] ++ ca)).toArray w' (fun e w'' => e = .returned (.bool (p x)) ∧ Below w'.heap.size w' w'')) :
    Calls Try.prog 20 #[.slice va l.length vc, .func (.func f) fi.toArray ca.toArray] w (fun e w' => ∃ j, e = .returned (.int .i64 j) ∧ Below w.heap.size w w' ∧ FirstL l p j) := by
  have M := Mem.start w
  have hl := hv.2.1
  unfold maxLen at hl
  refine calls_enter Try.func20 rfl 19 rfl rfl ?_; intro a S
  refine nxD ?_
  refine st_go [1] S rfl (by kernel_rfl) ?_; clear S a; intro a S
  refine nxC ?_
  refine wp_seq ?_
  refine nxD ?_
  refine st_go [1] S rfl (by kernel_rfl) ?_; clear S a; intro a S
  refine st_y S rfl rfl rfl (y_lenS (E := 37) S rfl (by kernel_rfl)) ?_; clear S a; intro a S
  refine st_go [1] S rfl (by kernel_rfl) ?_; clear S a; intro a S
  refine nxC ?_
  refine wp_block ?_
  refine wp_loop_g (fun m a w' => ∃ (k : Nat), k ≤ l.length ∧ m = l.length - k ∧ Sees 19 a [(0, .slice va l.length vc), (1, .func (.func f) fi.toArray ca.toArray), (7, .int .i64 (l.length : Int)), (8, .int .i64 (k : Int))] ∧ Mem w w' [] ∧ ∀ (i : Nat) (q : Lk), i < k → l[i]? = some q → p q = false) (l.length) ?_ ?_
  · skip
    exact ⟨0, Nat.zero_le _, rfl, S.sub _ rfl, M, fun i q h => absurd h (by omega)⟩
  clear S M a; intro m a wl
  rintro ⟨k, hk, rfl, S, M, hpre⟩
  refine nxD ?_
  refine st_go [1] S rfl (by kernel_rfl) ?_; clear S a; intro a S
  refine nxC ?_
  refine wp_seq ?_
  refine st_fi (t := 9) S rfl ?_ ?_
  · clear S; intro h9 S
    refine st_condF S rfl ?_
    refine wp_exit ?_
    refine then_exit ?_
    refine then_exit ?_
    refine block_hit ?_
    refine nxE ?_
    refine st_go [1] S rfl (by kernel_rfl) ?_; clear S a; intro a S
    refine nxC ?_
    refine wp_ret ?_
    refine end_one S rfl (res_tmp rfl) ?_
    obtain rfl : k = l.length := by omega
    refine ⟨-1, rfl, M.below, .inr ⟨rfl, fun q hq => ?_⟩⟩
    obtain ⟨i, hi⟩ := List.getElem?_of_mem hq
    exact hpre i q (List.getElem?_eq_some_iff.1 hi).1 hi
  clear S; intro h9 S
  refine st_condT S rfl ?_
  refine wp_skip ?_
  refine then_normal ?_
  refine wp_seq ?_
  refine wp_block ?_
  refine nxD ?_
  refine st_go [1, 1] S rfl (by kernel_rfl) ?_; clear S a; intro a S
  refine nxC ?_
  refine wp_seq ?_
  obtain ⟨q, hq⟩ : ∃ q, l[k]? = some q := ⟨_, List.getElem?_eq_getElem (by omega)⟩
  refine wp_region_lit ?_
  refine st_go [1, 1, 1] S rfl (by kernel_rfl) ?_; clear S a; intro a S
  refine st_y S rfl rfl rfl (y_indexR (e := 37) (sz := 5) S (by kernel_rfl) rfl ((M.arg hv)) rfl (by first | omega | (simp; done) | (simp; omega))) ?_; clear S a; intro a S
  try simp only [Int.toNat_natCast, Nat.mul_one, Nat.zero_add] at S
  refine st_y S rfl rfl rfl (y_loadAgg S (by kernel_rfl) rfl rfl ((M.arg hv).at_.row (i := k) (lcells_get hq) rfl)) ?_; clear S a; intro a S
  refine st_callB (xs := [(Operand.tmp 15)]) (fi := fi) (ca := ca) S (hE) rfl rfl (rfl) rfl (hstep q _ M.below) ?_
  rintro _ w1 ⟨rfl, hK⟩; refine ⟨_, rfl, ?_⟩; clear S a; intro a S; replace M := M.grow hK
  refine nxC ?_
  refine st_split (t := 16) S rfl ?_ ?_
  · clear S; intro h16 S
    refine st_condT S rfl ?_
    refine nxD ?_
    refine st_go [1, 1] S rfl (by kernel_rfl) ?_; clear S a; intro a S
    refine nxC ?_
    refine wp_ret ?_
    refine block_ret ?_
    refine then_ret ?_
    refine then_ret ?_
    refine block_ret ?_
    refine then_ret ?_
    refine end_one S rfl (res_tmp rfl) ?_
    exact ⟨(k : Int), rfl, M.below, .inl ⟨k, q, rfl, hq, h16, hpre⟩⟩
  clear S; intro h16 S
  refine st_condF S rfl ?_
  refine wp_skip ?_
  refine block_normal ?_
  refine nxF ?_
  (first | refine st_y S rfl rfl rfl (y_addN S rfl rfl (by omega)) ?_ | refine st_y S rfl rfl rfl (y_int S rfl rfl rfl) ?_); clear S a; intro a S
  refine st_go [1] S rfl (by kernel_rfl) ?_; clear S a; intro a S
  refine nxC ?_
  refine ⟨l.length - (k + 1), by omega, k + 1, by omega, rfl, S.sub _ rfl, M, fun i q' hi hq' => ?_⟩
  rcases Nat.lt_or_ge i k with h | h
  · exact hpre i q' h hq'
  · obtain rfl : i = k := by omega
    rw [hq] at hq'; obtain rfl := Option.some.inj hq'; exact h16
theorem first_any {l : List Lk} {p : Lk → Bool} {j : Int} (h : FirstL l p j) : decide (0 ≤ j) = l.any p := by
  rw [Bool.eq_iff_iff, decide_eq_true_eq, List.any_eq_true]
  rcases h with ⟨k, q, rfl, hq, hp, -⟩ | ⟨rfl, h⟩
  · exact ⟨fun _ => ⟨q, List.mem_of_getElem? hq, hp⟩, fun _ => Int.natCast_nonneg k⟩
  · refine ⟨fun h => absurd h (by decide), fun ⟨q, hq, hp⟩ => ?_⟩
    rw [h q hq] at hp; cases hp
theorem containsFuncL_any {f : FuncId} {fi ca : List Value} (hE : Enters Try.prog f) (va : Option Addr) (vc : Nat) (l : List Lk) (p : Lk → Bool) (w : World) (hv : Ls 0 w.heap.size w (.slice va l.length vc) l)
    (hstep : ∀ (x : Lk) (w' : World), Below w.heap.size w w' → Calls Try.prog f (fi ++ ([Value.agg x.cellsL.toArray] ++ ca)).toArray w' (fun e w'' => e = .returned (.bool (p x)) ∧ Below w'.heap.size w' w'')) :
    Calls Try.prog 37 #[.slice va l.length vc, .func (.func f) fi.toArray ca.toArray] w (fun e w' => e = .returned (.bool (l.any p)) ∧ Below w.heap.size w w') := by
  have M := Mem.start w
  refine calls_enter Try.func37 rfl 9 rfl rfl ?_; intro a S
  refine nxD ?_
  refine st_go [1] S rfl (by kernel_rfl) ?_; clear S a; intro a S
  refine nxA ?_
  refine st_go [1, 1] S rfl (by kernel_rfl) ?_; clear S a; intro a S
  refine st_call (xs := [(Operand.tmp 5), (Operand.tmp 6)]) S (enters_of Try.func20 (by decide) rfl) rfl rfl rfl (indexFuncL_any hE va vc l p _ (M.argW hv) (fun x w' hw => hstep x w' (M.below.trans (hw.mono M.below.size)))) ?_
  rintro _ w1 ⟨j, rfl, hK, hj⟩; refine ⟨_, rfl, ?_⟩; clear S a; intro a S; replace M := M.grow hK
  refine st_go [1, 1] S rfl (by kernel_rfl) ?_; clear S a; intro a S
  refine nxC ?_
  refine wp_ret ?_
  refine end_one S rfl (res_tmp rfl) ?_
  refine ⟨ret_bool ?_, M.below⟩; clear S M; exact first_any hj
theorem settled1_any (x y : Lk) (b : Nat) (w : World) (hN : Blk w b y.cellsL.toArray 37) :
    Calls Try.prog 38 #[.agg x.cellsL.toArray, .pointer (some ⟨b, 0, none⟩)] w fun e w' => e = .returned (.bool (decide (x.pl = y.pl))) ∧ Below w.heap.size w w' := by
  have M := Mem.start w
  refine calls_enter Try.func38 rfl 9 rfl rfl ?_; intro a S
  refine nxD ?_
  refine st_box S M rfl rfl rfl #[_, _, _, _, _] rfl ?_; clear S M a; intro a w1 bD S M hB
  refine st_go [1] S rfl (by kernel_rfl) ?_; clear S a; intro a S
  refine nxC ?_
  refine wp_seq ?_
  refine wp_quiet M (by kernel_rfl) (by kernel_rfl) ?_
  refine qt_y S rfl rfl rfl (fun w M => y_loadAgg (cs := [_, _, _, _, _]) S (by kernel_rfl) rfl rfl (M.cellsAt (k := 5) 0 rfl rfl)) ?_; clear S a; intro a S
  refine qt_call (xs := [(Operand.tmp 4)]) S (enters_of Try.func19 (by decide) rfl) rfl rfl rfl (quiet_of fun w M => at_any x _) ?_; clear S a; intro a S
  refine qt_y S rfl rfl rfl (fun w M => y_loadAgg S (by kernel_rfl) rfl rfl (show CellsAt _ b 0 y.cellsL from Blk.cellsAt (o := 0) (k := 5) ((M.below.block b hN.lt).trans hN) rfl)) ?_; clear S a; intro a S
  refine qt_call (xs := [(Operand.tmp 6)]) S (enters_of Try.func19 (by decide) rfl) rfl rfl rfl (quiet_of fun w M => at_any y _) ?_; clear S a; intro a S
  refine qt_y S rfl rfl rfl (fun w M => y_eqlG (by kernel_rfl) S rfl rfl (fun w => equalPl 9997 x.pl y.pl w)) ?_; clear S a; intro a S
  refine qt_y S rfl rfl rfl (fun w M => y_assign S rfl) ?_; clear S a; intro a S
  refine wpQuiet_nil ?_; clear M; intro w4 M
  refine then_normal ?_
  refine wp_ret ?_
  refine end_one S rfl (res_tmp rfl) ?_
  exact ⟨rfl, M.below⟩
def settledR (h wl : List Lk) (x : Lk) : Bool × Int := if x.mode ≤ holdsV h x.pl then (true, 0) else if wl.any (fun y => decide (y.pl = x.pl)) = true then (true, 1) else (false, 0)
set_option maxHeartbeats 400000 in
theorem settled_any (ha wa : Option Addr) (hc wc : Nat) (h wl : List Lk) (x : Lk) (w : World) (hv : Ls 0 w.heap.size w (.slice ha h.length hc) h) (hu : Ls 0 w.heap.size w (.slice wa wl.length wc) wl) :
    Calls Try.prog 17 #[tabV ha wa h.length hc wl.length wc, .agg x.cellsL.toArray] w fun e w' => e = .returned (.tuple #[.bool (settledR h wl x).1, .int .i8 (settledR h wl x).2]) ∧ Below w.heap.size w w' := by
  have M := Mem.start w
  refine calls_enter Try.func17 rfl 21 rfl rfl ?_; intro a S
  refine nxD ?_
  refine st_box S M rfl rfl rfl #[_, _] rfl ?_; clear S M a; intro a w1 bT S M hB
  refine st_box S M rfl rfl rfl #[_, _, _, _, _] rfl ?_; clear S M a; intro a w2 bX S M hB
  refine st_go [1, 1] S rfl (by kernel_rfl) ?_; clear S a; intro a S
  refine nxC ?_
  refine wp_seq ?_
  refine nxD ?_
  refine st_y S rfl rfl rfl (y_loadAgg (cs := [_, _]) S (by kernel_rfl) rfl rfl (M.cellsAt (k := 2) 1 rfl rfl)) ?_; clear S a; intro a S
  refine st_go [1] S rfl (by kernel_rfl) ?_; clear S a; intro a S
  refine st_y S rfl rfl rfl (y_loadAgg (cs := [_, _, _]) S (by kernel_rfl) rfl rfl (M.cellsAt (k := 3) 0 rfl rfl)) ?_; clear S a; intro a S
  refine st_run [4, 1] S M rfl (by kernel_rfl) ?_; clear S a; intro a S
  refine st_call (xs := [(Operand.tmp 7), (Operand.tmp 9), (Operand.tmp 11)]) S (enters_of Try.func8 (by decide) rfl) rfl rfl rfl (holds_any ha wa hc _ wc h x.name x.block _ (M.argW hv)) ?_
  rintro _ w3 ⟨rfl, hK⟩; refine ⟨_, rfl, ?_⟩; clear S a; intro a S; replace M := M.grow hK
  refine st_go [1] S rfl (by kernel_rfl) ?_; clear S a; intro a S
  refine nxA ?_
  refine st_go [1] S rfl (by kernel_rfl) ?_; clear S a; intro a S
  refine st_y S rfl rfl rfl (y_loadAgg (cs := [_, _, _, _, _]) S (by kernel_rfl) rfl rfl (M.cellsAt (k := 5) 0 rfl rfl)) ?_; clear S a; intro a S
  refine st_call (xs := [(Operand.tmp 14)]) S (enters_of Try.func26 (by decide) rfl) rfl rfl rfl (mode_any x _) ?_
  rintro _ w4 ⟨rfl, hK⟩; refine ⟨_, rfl, ?_⟩; clear S a; intro a S; replace M := M.grow hK
  refine st_go [1] S rfl (by kernel_rfl) ?_; clear S a; intro a S
  refine nxC ?_
  refine st_if (t := 16) S rfl ?_ ?_
  · clear S; intro h16 S
    refine st_condT S rfl ?_
    refine nxD ?_
    refine st_go [1, 1] S rfl (by kernel_rfl) ?_; clear S a; intro a S
    refine nxC ?_
    refine wp_ret ?_
    refine then_ret ?_
    refine end_two S rfl (res_tmp rfl) (res_tmp rfl) ?_
    refine ⟨?_, M.below⟩; clear S M; unfold settledR; first
      | (rw [if_pos (show x.mode ≤ holdsV h x.pl from h16)])
      | (rw [if_neg (show ¬ x.mode ≤ holdsV h x.pl from Int.not_le.2 h16), if_pos h20])
      | (rw [if_neg (show ¬ x.mode ≤ holdsV h x.pl from Int.not_le.2 h16), if_neg (by rw [h20]; decide)])
  clear S; intro h16 S
  refine st_condF S rfl ?_
  refine wp_skip ?_
  refine then_normal ?_
  refine wp_seq ?_
  refine nxD ?_
  refine st_run [2, 2] S M rfl (by kernel_rfl) ?_; clear S a; intro a S
  refine st_y S rfl rfl rfl (y_makeFunc (fs := []) (cs := [(Operand.tmp 3)]) S rfl rfl) ?_; clear S a; intro a S
  refine st_call (xs := [(Operand.tmp 18), (Operand.tmp 19)]) S (enters_of Try.func37 (by decide) rfl) rfl rfl rfl (containsFuncL_any (fi := []) (ca := [.pointer (some ⟨bX, 0, none⟩)]) (enters_of Try.func38 (by decide) rfl) wa wc wl (fun y => decide (y.pl = x.pl)) _ (M.argW hu) (fun y w' hb => settled1_any y x bX w' ((hb.block bX (M.blk 0 rfl).lt).trans (M.blk 0 rfl)))) ?_
  rintro _ w5 ⟨rfl, hK⟩; refine ⟨_, rfl, ?_⟩; clear S a; intro a S; replace M := M.grow hK
  refine nxC ?_
  refine st_split (t := 20) S rfl ?_ ?_
  · clear S; intro h20 S
    refine st_condT S rfl ?_
    refine nxD ?_
    refine st_go [1, 1] S rfl (by kernel_rfl) ?_; clear S a; intro a S
    replace S := S.sub [(0, _), (1, _), (2, _), (3, _), (6, _), (16, _), (20, _), (4, _), (5, _)] rfl
    refine nxC ?_
    refine wp_ret ?_
    refine then_ret ?_
    refine end_two S rfl (res_tmp rfl) (res_tmp rfl) ?_
    refine ⟨?_, M.below⟩; clear S M; unfold settledR; first
      | (rw [if_pos (show x.mode ≤ holdsV h x.pl from h16)])
      | (rw [if_neg (show ¬ x.mode ≤ holdsV h x.pl from Int.not_le.2 h16), if_pos h20])
      | (rw [if_neg (show ¬ x.mode ≤ holdsV h x.pl from Int.not_le.2 h16), if_neg (by rw [h20]; decide)])
  clear S; intro h20 S
  refine st_condF S rfl ?_
  refine wp_skip ?_
  refine nxE ?_
  refine st_go [1, 1] S rfl (by kernel_rfl) ?_; clear S a; intro a S
  replace S := S.sub [(0, _), (1, _), (2, _), (3, _), (6, _), (16, _), (20, _), (4, _), (5, _)] rfl
  refine nxC ?_
  refine wp_ret ?_
  refine end_two S rfl (res_tmp rfl) (res_tmp rfl) ?_
  refine ⟨?_, M.below⟩; clear S M; unfold settledR; first
    | (rw [if_pos (show x.mode ≤ holdsV h x.pl from h16)])
    | (rw [if_neg (show ¬ x.mode ≤ holdsV h x.pl from Int.not_le.2 h16), if_pos h20])
    | (rw [if_neg (show ¬ x.mode ≤ holdsV h x.pl from Int.not_le.2 h16), if_neg (by rw [h20]; decide)])

end Go.Proofs.Ytcbofgcmfkcglaa
