/-
  Package lock: copied, the questions of Ask. Package age: Waits.
-/
import Derived.Test.YtcbofgcmfkcglaaLd
namespace Go.Proofs.Ytcbofgcmfkcglaa
open Go.RowKit Go.Sort

theorem cloneL_any (v : Value) (l : List Lk) (w : World) (hv : Ls 0 w.heap.size w v l) (hl : l.length ≤ 1000000) : Calls Try.prog 36 #[v] w fun e w' => ∃ v', e = .returned v' ∧ Fresh w w' 37 5 v' l.length (lcells l) := by
  have M := Mem.start w
  refine calls_enter Try.func36 rfl 8 rfl rfl ?_; intro a S
  refine nxD ?_
  refine st_go [1] S rfl (by kernel_rfl) ?_; clear S a; intro a S
  refine nxC ?_
  refine wp_seq ?_
  refine nxD ?_
  refine st_go [1] S rfl (by kernel_rfl) ?_; clear S a; intro a S
  refine st_y S rfl rfl rfl (y_eqlNil (e := 37) S rfl (M.arg hv) (by kernel_rfl)) ?_; clear S a; intro a S
  refine nxC ?_
  refine st_split (t := 4) S rfl ?_ ?_
  · clear S; intro h4 S
    refine st_condT S rfl ?_
    refine nxD ?_
    refine st_go [1] S rfl (by kernel_rfl) ?_; clear S a; intro a S
    refine nxC ?_
    refine wp_ret ?_
    refine then_ret ?_
    refine end_one S rfl (res_tmp rfl) ?_
    obtain ⟨rfl, h0, h1⟩ := hv.nilV h4
    exact ⟨_, rfl, by rw [h1, h0]; exact M.freshNil _ _⟩
  clear S; intro h4 S
  refine st_condF S rfl ?_
  refine wp_skip ?_
  refine nxE ?_
  refine st_lit0 (e := 37) (sz := 5) (by_ := 40) (zc := [.int .i64 0, .int .i64 0, .int .i64 0, .int .i64 0, .bool false]) S M rfl rfl (by kernel_rfl) ?_; clear S M a; intro a w1 b1 S M hB
  refine st_go [1] S rfl (by kernel_rfl) ?_; clear S a; intro a S
  replace M := M.toRow (sz := 5) (m := 0) (cap := 0) (xs := []) 0 rfl rfl (Nat.le_refl _) (Nat.zero_le _) rfl rfl
  refine st_append (e := 37) (sz := 5) (by_ := 40) (zc := [.int .i64 0, .int .i64 0, .int .i64 0, .int .i64 0, .bool false]) S M 0 rfl rfl (by kernel_rfl) rfl (by decide) rfl rfl rfl (M.arg hv) (allOne_lcells _) (by omega) (by unfold maxLen; omega) ?_; clear S M a; intro a w2 vA loA hiA S M
  refine st_go [1] S rfl (by kernel_rfl) ?_; clear S a; intro a S
  refine nxC ?_
  refine wp_ret ?_
  refine end_one S rfl (res_tmp rfl) ?_
  exact ⟨_, rfl, by have := M.fresh 0 rfl; rwa [Nat.zero_add, List.nil_append] at this⟩
/-- a table in new memory -/
def NewT (h wt : List Lk) (w w' : World) (v : Value) : Prop :=
  ∃ ha wa hc wc lo1 hi1 lo2 hi2, v = tabV ha wa h.length hc wt.length wc ∧ Mem w w' [rowE lo1 hi1 37 5 (.slice ha h.length hc) h.length (lcells h), rowE lo2 hi2 37 5 (.slice wa wt.length wc) wt.length (lcells wt)]
theorem copied_any (ha wa : Option Addr) (hc wc : Nat) (h wt : List Lk) (w : World) (hv : Ls 0 w.heap.size w (.slice ha h.length hc) h) (hu : Ls 0 w.heap.size w (.slice wa wt.length wc) wt) (hl : h.length ≤ 1000000) (hl2 : wt.length ≤ 1000000) :
    Calls Try.prog 16 #[tabV ha wa h.length hc wt.length wc] w fun e w' => ∃ v, e = .returned v ∧ NewT h wt w w' v := by
  have M := Mem.start w
  refine calls_enter Try.func16 rfl 10 rfl rfl ?_; intro a S
  refine nxD ?_
  refine st_box S M rfl rfl rfl #[_, _] rfl ?_; clear S M a; intro a w1 bT S M hB
  refine st_alloc S M rfl rfl #[.slice none 0 0, .slice none 0 0] (by kernel_rfl) ?_; clear S M a; intro a w2 bR S M hB
  refine nxC ?_
  refine wp_seq ?_
  refine wp_regionK [7] #[false, false, false, false, false, false, false, false] rfl M (by kernel_rfl) ?_; clear M; intro w3 M
  refine k_pure (listed' := #[true, false, false, false, false, false, false, false]) 0 S rfl rfl rfl rfl (by kernel_rfl) rfl (fun _ d _ _ _ h => by cases d <;> exact h) (fun w => y_fieldAddr (k := 0) S (by kernel_rfl) rfl) ?_; clear S a; intro a S
  refine k_read (listed' := #[true, true, false, false, false, false, false, false]) 1 S rfl rfl rfl rfl (by kernel_rfl) rfl (fun _ d _ _ _ h => by cases d <;> exact h) (fun w hW => have M := M.grow hW; y_load S (by kernel_rfl) rfl (M.cell 1 rfl rfl)) ?_; clear S a; intro a S
  refine k_pure (listed' := #[true, true, false, true, false, false, false, false]) 3 S rfl rfl rfl rfl (by kernel_rfl) rfl (fun _ d _ _ _ h => by cases d <;> exact h) (fun w => y_fieldAddr (k := 1) S (by kernel_rfl) rfl) ?_; clear S a; intro a S
  refine k_read (listed' := #[true, true, false, true, true, false, false, false]) 4 S rfl rfl rfl rfl (by kernel_rfl) rfl (fun _ d _ _ _ h => by cases d <;> exact h) (fun w hW => have M := M.grow hW; y_load S (by kernel_rfl) rfl (M.cell 1 rfl rfl)) ?_; clear S a; intro a S
  refine k_one (listed' := #[true, true, true, true, true, false, false, false]) 2 rfl (by kernel_rfl) rfl ?_
  refine st_call (xs := [(Operand.tmp 4)]) S (enters_of Try.func36 (by decide) rfl) rfl rfl rfl (cloneL_any _ h _ (M.argW hv) hl) ?_
  rintro _ w4 ⟨v1, rfl, hF⟩; refine ⟨_, rfl, ?_⟩; clear S a; intro a S
  have hK := hF.below
  obtain ⟨lo1, hi1, -, M⟩ := M.pushFresh hF
  obtain ⟨ha2, hc2, rfl, -, -⟩ := (M.readAll 0 rfl (by unfold maxLen; omega)).form
  refine wpList_nil ?_; refine then_normal ?_; refine ⟨fun _ => hK, ?_⟩
  refine k_one (listed' := #[true, true, true, true, true, true, false, false]) 5 rfl (by kernel_rfl) rfl ?_
  refine st_call (xs := [(Operand.tmp 7)]) S (enters_of Try.func36 (by decide) rfl) rfl rfl rfl (cloneL_any _ wt _ (M.argW hu) hl2) ?_
  rintro _ w5 ⟨v2, rfl, hF⟩; refine ⟨_, rfl, ?_⟩; clear S a; intro a S
  have hK := hF.below
  obtain ⟨lo2, hi2, -, M⟩ := M.pushFresh hF
  obtain ⟨wa2, wc2, rfl, -, -⟩ := (M.readAll 0 rfl (by unfold maxLen; omega)).form
  refine wpList_nil ?_; refine then_normal ?_; refine ⟨fun _ => hK, ?_⟩
  refine k_pure (listed' := #[true, true, true, true, true, true, true, false]) 6 S rfl rfl rfl rfl (by kernel_rfl) rfl (fun _ d _ _ _ h => by cases d <;> exact h) (fun w => y_build (ps := [(0, (Operand.tmp 5)), (1, (Operand.tmp 8))]) (pl := [(0, 1), (1, 1)]) (z := [.slice none 0 0, .slice none 0 0]) (cs := [_, _]) S (by kernel_rfl) rfl (rfl)) ?_; clear S a; intro a S
  refine k_one (listed' := #[true, true, true, true, true, true, true, true]) 7 rfl (by kernel_rfl) rfl ?_
  refine st_store (sz := 2) (us := [_, _]) S M 2 rfl (by kernel_rfl) rfl rfl rfl rfl rfl rfl (by first | decide | (simp; done) | (simp; omega)) ?_; clear M; intro w6 M
  simp only [putL, List.set_cons_zero, List.set_cons_succ, Nat.reduceAdd] at M
  refine wpList_nil ?_; refine then_normal ?_; refine ⟨fun h => absurd h (by decide), ?_⟩
  refine k_end (by kernel_rfl) ?_
  refine then_normal ?_
  refine wp_ret ?_
  refine end_one S rfl (res_agg (cs := [_, _]) (by kernel_rfl) rfl rfl (M.cellsAt (k := 2) 2 rfl rfl)) ?_
  skip
  replace M := M.front 1 rfl
  simp only [List.eraseIdx_cons_succ, List.eraseIdx_cons_zero] at M
  replace M := M.drop 3
  simp only [List.eraseIdx_cons_succ, List.eraseIdx_cons_zero] at M
  replace M := M.drop 2
  simp only [List.eraseIdx_cons_succ, List.eraseIdx_cons_zero] at M
  exact ⟨_, rfl, ha2, wa2, hc2, wc2, lo1, hi1, lo2, hi2, rfl, M⟩
theorem ask1_any (x y : Lk) (b : Nat) (w : World) (hN : Blk w b y.cellsL.toArray 37) :
    Calls Try.prog 18 #[.agg x.cellsL.toArray, .pointer (some ⟨b, 0, none⟩)] w fun e w' => e = .returned (.bool (decide (x.pl = y.pl))) ∧ Below w.heap.size w w' := by
  have M := Mem.start w
  refine calls_enter Try.func18 rfl 9 rfl rfl ?_; intro a S
  refine nxD ?_
  refine st_box S M rfl rfl rfl #[_, _, _, _, _] rfl ?_; clear S M a; intro a w1 bD S M hB
  refine st_go [1] S rfl (by kernel_rfl) ?_; clear S a; intro a S
  refine nxC ?_
  refine wp_seq ?_
  refine wp_quiet M (by kernel_rfl) (by kernel_rfl) ?_
  refine qt_y S rfl rfl rfl (fun w M => y_loadAgg (cs := [_, _, _, _, _]) S (by kernel_rfl) rfl rfl (M.cellsAt (k := 5) 0 rfl rfl)) ?_; clear S a; intro a S
  refine qt_call (xs := [(Operand.tmp 4)]) S (enters_of Try.func19 (by decide) rfl) rfl rfl rfl (quiet_of fun w M => at_any x _) ?_; clear S a; intro a S
  refine qt_y S rfl rfl rfl (fun w M => y_loadAgg S (by kernel_rfl) rfl rfl (show CellsAt _ b 0 y.cellsL from Blk.cellsAt (o := 0) (k := 5) ((M.below.block b hN.lt).trans hN) rfl)) ?_; clear S a; intro a S
  refine qt_call (xs := [(Operand.tmp 6)]) S (enters_of Try.func19 (by decide) rfl) rfl rfl rfl (quiet_of fun w M => at_any y _) ?_; clear S a; intro a S
  refine qt_y S rfl rfl rfl (fun w M => y_eqlG (by kernel_rfl) S rfl rfl (fun w => equalPl 9997 x.pl y.pl w)) ?_; clear S a; intro a S
  refine qt_y S rfl rfl rfl (fun w M => y_assign S rfl) ?_; clear S a; intro a S
  refine wpQuiet_nil ?_; clear M; intro w4 M
  refine then_normal ?_
  refine wp_ret ?_
  refine end_one S rfl (res_tmp rfl) ?_
  exact ⟨rfl, M.below⟩
theorem ask2_any (x y : Lk) (b : Nat) (w : World) (hN : Blk w b y.cellsL.toArray 37) :
    Calls Try.prog 24 #[.agg x.cellsL.toArray, .pointer (some ⟨b, 0, none⟩)] w fun e w' => e = .returned (.bool (x.block == y.block)) ∧ Below w.heap.size w w' := by
  have M := Mem.start w
  refine calls_enter Try.func24 rfl 9 rfl rfl ?_; intro a S
  refine nxD ?_
  refine st_box S M rfl rfl rfl #[_, _, _, _, _] rfl ?_; clear S M a; intro a w1 bD S M hB
  refine st_go [1] S rfl (by kernel_rfl) ?_; clear S a; intro a S
  refine nxA ?_
  refine st_run [4, 1, 4] S M rfl (by kernel_rfl) ?_; clear S a; intro a S
  refine st_y S rfl rfl rfl (y_load S (by kernel_rfl) rfl (show World.cell? _ ⟨b, 3, none⟩ = some (.int .i64 y.block) from Blk.cells (show Blk _ b y.cellsL.toArray 37 from (M.below.block b hN.lt).trans hN) 3
)) ?_; clear S a; intro a S
  refine st_go [1, 1] S rfl (by kernel_rfl) ?_; clear S a; intro a S
  refine nxC ?_
  refine wp_ret ?_
  refine end_one S rfl (res_tmp rfl) ?_
  exact ⟨rfl, M.below⟩
theorem older_any (n m : Nm) (w : World) : Calls Try.prog 14 #[.agg n.cells, .agg m.cells] w fun e w' => e = .returned (.bool (decide (n.stamp < m.stamp))) ∧ Below w.heap.size w w' := by
  have M := Mem.start w
  refine calls_enter Try.func14 rfl 10 rfl rfl ?_; intro a S
  refine nxD ?_
  refine st_box S M rfl rfl rfl #[_, _, _] rfl ?_; clear S M a; intro a w1 bX S M hB
  refine st_box S M rfl rfl rfl #[_, _, _] rfl ?_; clear S M a; intro a w2 bY S M hB
  refine st_go [1] S rfl (by kernel_rfl) ?_; clear S a; intro a S
  refine nxA ?_
  refine st_run [1, 2, 1, 1, 1, 1] S M rfl (by kernel_rfl) ?_; clear S a; intro a S
  refine nxC ?_
  refine wp_ret ?_
  refine end_one S rfl (res_tmp rfl) ?_
  exact ⟨rfl, M.below⟩
def nmcells (l : List Nm) : List Value := l.flatMap fun n => n.cells.toList
theorem nmcells_length : ∀ l, (nmcells l).length = l.length * 3
  | [] => rfl
  | x :: l => by
    show (x.cells.toList ++ nmcells l).length = _
    rw [List.length_append, nmcells_length l]; simp; omega
theorem nmcells_get {l : List Nm} {i : Nat} {x : Nm} (hx : l[i]? = some x) : ((nmcells l).drop (i * 3)).take 3 = x.cells.toList := by
  obtain ⟨hlt, he⟩ := List.getElem?_eq_some_iff.1 hx
  have e : nmcells l = nmcells (l.take i) ++ (x.cells.toList ++ nmcells (l.drop (i + 1))) := by
    conv => lhs; rw [← List.take_append_drop i l, List.drop_eq_getElem_cons hlt, he]
    simp [nmcells]
  rw [e, show i * 3 = (nmcells (l.take i)).length by rw [nmcells_length, List.length_take]; omega, List.drop_left]
  rfl
theorem waits_any (n : Nm) (va : Option Addr) (vc : Nat) (l : List Nm) (w : World) (hv : Rd 0 w.heap.size w 3 (.slice va l.length vc) l.length (nmcells l)) :
    Calls Try.prog 23 #[.agg n.cells, .slice va l.length vc] w fun e w' => ∃ b, e = .returned (.bool b) ∧ Below w.heap.size w w' ∧ (b = true ↔ ∀ q ∈ l, n.stamp < q.stamp) := by
  have M := Mem.start w
  have hl := hv.2.1
  unfold maxLen at hl
  refine calls_enter Try.func23 rfl 18 rfl rfl ?_; intro a S
  refine nxD ?_
  refine st_box S M rfl rfl rfl #[_, _, _] rfl ?_; clear S M a; intro a w1 bN S M hB
  refine st_go [1] S rfl (by kernel_rfl) ?_; clear S a; intro a S
  refine nxC ?_
  refine wp_seq ?_
  refine nxD ?_
  refine st_go [1] S rfl (by kernel_rfl) ?_; clear S a; intro a S
  refine st_y S rfl rfl rfl (y_lenS (E := 23) S rfl (by kernel_rfl)) ?_; clear S a; intro a S
  refine st_go [1] S rfl (by kernel_rfl) ?_; clear S a; intro a S
  refine nxC ?_
  refine wp_block ?_
  refine wp_loop_g (fun m a w' => ∃ (i : Nat), i ≤ l.length ∧ m = l.length - i ∧ (∀ q ∈ l.take i, n.stamp < q.stamp) ∧ Sees 18 a [(2, .pointer (some ⟨bN, 0, none⟩)), (7, .slice va l.length vc), (8, .int .i64 (l.length : Int)), (9, .int .i64 (i : Int))] ∧ Mem w w' [.blk bN n.cells 23]) (l.length) ?_ ?_
  · skip
    exact ⟨0, Nat.zero_le _, rfl, fun q hq => (by simp at hq), S.sub _ rfl, M⟩
  clear S M a; intro m a wl
  rintro ⟨i, hi', rfl, hpre, S, M⟩
  refine nxD ?_
  refine st_go [1] S rfl (by kernel_rfl) ?_; clear S a; intro a S
  refine nxC ?_
  refine wp_seq ?_
  refine st_fi (t := 10) S rfl ?_ ?_
  · clear S; intro h10 S
    refine st_condF S rfl ?_
    refine wp_exit ?_
    refine then_exit ?_
    refine then_exit ?_
    refine block_hit ?_
    refine nxE ?_
    refine st_go [1] S rfl (by kernel_rfl) ?_; clear S a; intro a S
    refine nxC ?_
    refine wp_ret ?_
    refine end_one S rfl (res_tmp rfl) ?_
    obtain rfl : i = l.length := by omega
    rw [List.take_length] at hpre
    exact ⟨true, rfl, M.below, fun _ => hpre, fun _ => rfl⟩
  clear S; intro h10 S
  refine st_condT S rfl ?_
  refine wp_skip ?_
  refine then_normal ?_
  refine wp_seq ?_
  refine wp_block ?_
  refine wp_seq ?_
  obtain ⟨q, hq⟩ : ∃ q, l[i]? = some q := ⟨_, List.getElem?_eq_getElem (by omega)⟩
  have hqm := List.mem_of_getElem? hq
  refine wp_region_lit ?_
  refine st_y S rfl rfl rfl (y_indexR (e := 23) (sz := 3) S (by kernel_rfl) rfl ((M.arg hv)) rfl (by first | omega | (simp; done) | (simp; omega))) ?_; clear S a; intro a S
  try simp only [Int.toNat_natCast, Nat.mul_one, Nat.zero_add] at S
  refine st_y S rfl rfl rfl (y_loadAgg S (by kernel_rfl) rfl rfl ((M.arg hv).at_.row (i := i) (nmcells_get hq) rfl)) ?_; clear S a; intro a S
  refine st_alloc S M rfl rfl #[.int .i64 0, .int .i64 0, .int .i64 0] (by kernel_rfl) ?_; clear S M a; intro a w2 bQ S M hB
  refine st_store (sz := 3) (us := [_, _, _]) S M 0 rfl (by kernel_rfl) rfl rfl rfl rfl rfl rfl (by first | decide | (simp; done) | (simp; omega)) ?_; clear M; intro w3 M
  simp only [putL, List.set_cons_zero, List.set_cons_succ, Nat.reduceAdd] at M
  refine nxA ?_
  refine st_y S rfl rfl rfl (y_loadAgg (cs := [_, _, _]) S (by kernel_rfl) rfl rfl (M.cellsAt (k := 3) 1 rfl rfl)) ?_; clear S a; intro a S
  refine st_y S rfl rfl rfl (y_loadAgg (cs := [_, _, _]) S (by kernel_rfl) rfl rfl (M.cellsAt (k := 3) 0 rfl rfl)) ?_; clear S a; intro a S
  refine st_call (xs := [(Operand.tmp 13), (Operand.tmp 14)]) S (enters_of Try.func14 (by decide) rfl) rfl rfl rfl (older_any n q _) ?_
  rintro _ w4 ⟨rfl, hK⟩; refine ⟨_, rfl, ?_⟩; clear S a; intro a S; replace M := M.grow hK
  refine st_go [1] S rfl (by kernel_rfl) ?_; clear S a; intro a S
  refine nxC ?_
  refine st_if (t := 16) S rfl ?_ ?_
  · clear S; intro h16 S
    refine st_condT S rfl ?_
    refine nxD ?_
    refine st_go [1] S rfl (by kernel_rfl) ?_; clear S a; intro a S
    refine nxC ?_
    refine wp_ret ?_
    refine block_ret ?_
    refine then_ret ?_
    refine then_ret ?_
    refine block_ret ?_
    refine then_ret ?_
    refine end_one S rfl (res_tmp rfl) ?_
    exact ⟨false, rfl, M.below, fun h => absurd h (by decide), fun h => by have := h q hqm; omega⟩
  clear S; intro h16 S
  refine st_condF S rfl ?_
  refine wp_skip ?_
  refine block_normal ?_
  refine nxF ?_
  (first | refine st_y S rfl rfl rfl (y_addN S rfl rfl (by omega)) ?_ | refine st_y S rfl rfl rfl (y_int S rfl rfl rfl) ?_); clear S a; intro a S
  refine st_go [1] S rfl (by kernel_rfl) ?_; clear S a; intro a S
  refine nxC ?_
  skip
  replace M := M.drop 0
  simp only [List.eraseIdx_cons_succ, List.eraseIdx_cons_zero] at M
  refine ⟨l.length - (i + 1), by omega, i + 1, by omega, rfl, fun y hy => ?_, S.sub _ rfl, M⟩
  rw [List.take_add_one, hq] at hy
  rcases List.mem_append.1 hy with hy | hy
  · exact hpre y hy
  · obtain rfl := List.mem_singleton.1 hy; simp_all

end Go.Proofs.Ytcbofgcmfkcglaa
