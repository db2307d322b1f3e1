/-
  Package ring: May, Place, Take, by the second walk.
-/
import Derived.Test.YtafejnbfgkkjkaaVN
import Derived.Test.YtafejnbfgkkjkaaGX
namespace Go.Proofs.Ytafejnbfgkkjkaa
open Go.RowKit Go.Sort

theorem haveJ (a b n : Int) (w : World) : Calls Try.prog 28 #[.agg #[.int .i64 a, .int .i64 b], .int .i64 n] w fun e w' => e = .returned (.bool (decide (a ≤ n ∧ n ≤ b))) ∧ Below w.heap.size w w' := by
  have M := Mem.start w
  refine calls_enter Try.func28 rfl 15 rfl rfl ?_; intro a S
  refine nxD ?_
  refine st_box S M rfl rfl rfl #[_, _] rfl ?_; clear S M a; intro a w1 b1 S M hB
  refine st_go [1] S rfl (by kernel_rfl) ?_; clear S a; intro a S
  refine nxA ?_
  refine st_run [1, 1, 1, 1, 1] S M rfl (by kernel_rfl) ?_; clear S a; intro a S
  refine st_fi (t := 9) S rfl ?_ ?_
  · clear S; intro h9 S
    refine st_go [0, 0, 0, 0, 1, 1] S rfl (by kernel_rfl) ?_; clear S a; intro a S
    refine nxC ?_
    refine wp_ret ?_
    refine end_one S rfl (res_tmp rfl) ?_
    refine ⟨ret_bool ?_, M.below⟩; clear S M; rw [Bool.eq_iff_iff]; simp only [decide_eq_true_eq]; first | omega | (simp; omega)
  clear S; intro h9 S
  refine st_run [1, 2, 1, 1, 1, 1] S M rfl (by kernel_rfl) ?_; clear S a; intro a S
  refine nxC ?_
  refine wp_ret ?_
  refine end_one S rfl (res_tmp rfl) ?_
  refine ⟨ret_bool ?_, M.below⟩; clear S M; rw [Bool.eq_iff_iff]; simp only [decide_eq_true_eq]; first | omega | (simp; omega)
theorem sequencesJ (w : World) : Calls Try.prog 27 #[] w fun e w' => e = .returned (.agg #[.int .i64 1, .int .i64 1099511627776]) ∧ Below w.heap.size w w' := by
  have M := Mem.start w
  refine calls_enter Try.func27 rfl 2 rfl rfl ?_; intro a S
  refine nxD ?_
  refine st_alloc S M rfl rfl #[.int .i64 0, .int .i64 0] (by kernel_rfl) ?_; clear S M a; intro a w1 b1 S M hB
  refine nxA ?_
  refine st_y S rfl rfl rfl (y_build (ps := [(0, (Operand.const (Value.int IntKind.i64 1))), (1, (Operand.const (Value.int IntKind.i64 1099511627776)))]) (pl := [(0, 1), (1, 1)]) (z := [.int .i64 0, .int .i64 0]) (cs := [_, _]) S (by kernel_rfl) rfl (rfl)) ?_; clear S a; intro a S
  refine st_store (sz := 2) (us := [_, _]) S M 0 rfl (by kernel_rfl) rfl rfl rfl rfl rfl rfl (by first | decide | (simp; done) | (simp; omega)) ?_; clear M; intro w2 M
  simp only [putL, List.set_cons_zero, List.set_cons_succ, Nat.reduceAdd] at M
  refine nxC ?_
  refine wp_ret ?_
  refine end_one S rfl (res_agg (cs := [_, _]) (by kernel_rfl) rfl rfl (M.cellsAt (k := 2) 0 rfl rfl)) ?_
  exact ⟨rfl, M.below⟩
theorem placeJ (n : Int) (w : World) (h : 1 ≤ n ∧ n ≤ 1099511627776) : Calls Try.prog 48 #[.int .i64 n] w fun e w' => e = .returned (.int .i64 (2 + n % 24)) ∧ Below w.heap.size w w' := by
  have M := Mem.start w
  refine calls_enter Try.func48 rfl 6 rfl rfl ?_; intro a S
  refine nxD ?_
  refine st_go [1] S rfl (by kernel_rfl) ?_; clear S a; intro a S
  refine nxA ?_
  refine st_go [1] S rfl (by kernel_rfl) ?_; clear S a; intro a S
  (first | refine st_y S rfl rfl rfl (y_remN S rfl rfl (by omega)) ?_ | refine st_y S rfl rfl rfl (y_remZ S rfl rfl (by omega)) ?_); clear S a; intro a S
  (first | refine st_y S rfl rfl rfl (y_addN S rfl rfl (by omega)) ?_ | refine st_y S rfl rfl rfl (y_int S rfl rfl rfl) ?_); clear S a; intro a S
  refine st_go [1] S rfl (by kernel_rfl) ?_; clear S a; intro a S
  refine nxC ?_
  refine wp_ret ?_
  refine end_one S rfl (res_tmp rfl) ?_
  exact ⟨rfl, M.below⟩
def plE (n : Int) : Int := if 1 ≤ n ∧ n ≤ 1099511627776 then 0 else 2
def plV (n : Int) : Int := if 1 ≤ n ∧ n ≤ 1099511627776 then 2 + n % 24 else 0
theorem PlaceJ (n : Int) (w : World) : Calls Try.prog 35 #[.int .i64 n] w fun e w' => e = .returned (.tuple #[.int .i64 (plV n), .int .i64 (plE n)]) ∧ Below w.heap.size w w' := by
  have M := Mem.start w
  refine calls_enter Try.func35 rfl 10 rfl rfl ?_; intro a S
  refine nxD ?_
  refine st_go [1, 1] S rfl (by kernel_rfl) ?_; clear S a; intro a S
  refine nxC ?_
  refine wp_seq ?_
  refine nxD ?_
  refine st_call (xs := []) S (enters_of Try.func27 (by decide) rfl) rfl rfl rfl (sequencesJ _) ?_
  rintro _ w1 ⟨rfl, hK⟩; refine ⟨_, rfl, ?_⟩; clear S a; intro a S; replace M := M.grow hK
  refine st_go [1] S rfl (by kernel_rfl) ?_; clear S a; intro a S
  refine st_call (xs := [(Operand.tmp 4), (Operand.tmp 5)]) S (enters_of Try.func28 (by decide) rfl) rfl rfl rfl (haveJ _ _ _ _) ?_
  rintro _ w2 ⟨rfl, hK⟩; refine ⟨_, rfl, ?_⟩; clear S a; intro a S; replace M := M.grow hK
  refine st_go [1] S rfl (by kernel_rfl) ?_; clear S a; intro a S
  refine nxC ?_
  refine st_if (t := 7) S rfl ?_ ?_
  · clear S; intro h7 S
    refine st_condT S rfl ?_
    refine nxD ?_
    refine st_go [1, 1] S rfl (by kernel_rfl) ?_; clear S a; intro a S
    refine nxC ?_
    refine wp_ret ?_
    refine then_ret ?_
    refine end_two S rfl (res_tmp rfl) (res_tmp rfl) ?_
    unfold plV plE; rw [if_neg (by omega), if_neg (by omega)]; exact ⟨rfl, M.below⟩
  clear S; intro h7 S
  refine st_condF S rfl ?_
  refine wp_skip ?_
  refine nxE ?_
  refine st_go [1] S rfl (by kernel_rfl) ?_; clear S a; intro a S
  refine st_call (xs := [(Operand.tmp 8)]) S (enters_of Try.func48 (by decide) rfl) rfl rfl rfl (placeJ _ _ (by omega)) ?_
  rintro _ w3 ⟨rfl, hK⟩; refine ⟨_, rfl, ?_⟩; clear S a; intro a S; replace M := M.grow hK
  refine st_go [1, 1] S rfl (by kernel_rfl) ?_; clear S a; intro a S
  refine nxC ?_
  refine wp_ret ?_
  refine end_two S rfl (res_tmp rfl) (res_tmp rfl) ?_
  unfold plV plE; rw [if_pos (by omega), if_pos (by omega)]; exact ⟨rfl, M.below⟩
abbrev mayL (t n : Int) : Prop := (1 ≤ t ∧ t ≤ 1099511627776) ∧ t ≤ n ∧ n ≤ t + 24
theorem MayJ (t n : Int) (w : World) : Calls Try.prog 19 #[.agg #[.int .i64 t, .int .i64 n]] w fun e w' => e = .returned (.bool (decide (mayL t n))) ∧ Below w.heap.size w w' := by
  have M := Mem.start w
  refine calls_enter Try.func19 rfl 18 rfl rfl ?_; intro a S
  refine nxD ?_
  refine st_box S M rfl rfl rfl #[_, _] rfl ?_; clear S M a; intro a w1 b1 S M hB
  refine st_go [1] S rfl (by kernel_rfl) ?_; clear S a; intro a S
  refine nxC ?_
  refine wp_seq ?_
  refine wp_quiet M (by kernel_rfl) (by kernel_rfl) ?_
  refine qt_call (xs := []) S (enters_of Try.func27 (by decide) rfl) rfl rfl rfl (quiet_of fun w M => sequencesJ w) ?_; clear S a; intro a S
  refine qt_y S rfl rfl rfl (fun w M => y_fieldAddr (k := 0) S (by kernel_rfl) rfl) ?_; clear S a; intro a S
  refine qt_y S rfl rfl rfl (fun w M => y_load S (by kernel_rfl) rfl (M.cell 0 rfl rfl)) ?_; clear S a; intro a S
  refine qt_call (xs := [(Operand.tmp 3), (Operand.tmp 5)]) S (enters_of Try.func28 (by decide) rfl) rfl rfl rfl (quiet_of fun w M => haveJ _ _ _ w) ?_; clear S a; intro a S
  refine qt_y S rfl rfl rfl (fun w M => y_move S rfl) ?_; clear S a; intro a S
  refine st_fi (t := 7) S rfl ?_ ?_
  · clear S; intro h7 S
    refine qt_skip 9 S rfl ?_; clear S a; intro a S
    refine qt_y S rfl rfl rfl (fun w M => y_pickF S rfl rfl) ?_; clear S a; intro a S
    refine qt_y S rfl rfl rfl (fun w M => y_assign S rfl) ?_; clear S a; intro a S
    refine wpQuiet_nil ?_; clear M; intro w6 M
    refine then_normal ?_
    refine wp_ret ?_
    refine end_one S rfl (res_tmp rfl) ?_
    refine ⟨ret_bool ?_, M.below⟩; clear S M; rw [Bool.eq_iff_iff, decide_eq_true_iff]; first | omega | (simp; omega)
  clear S; intro h7 S
  refine qt_y S rfl rfl rfl (fun w M => y_fieldAddr (k := 0) S (by kernel_rfl) rfl) ?_; clear S a; intro a S
  refine qt_y S rfl rfl rfl (fun w M => y_load S (by kernel_rfl) rfl (M.cell 0 rfl rfl)) ?_; clear S a; intro a S
  refine qt_y S rfl rfl rfl (fun w M => y_fieldAddr (k := 0) S (by kernel_rfl) rfl) ?_; clear S a; intro a S
  refine qt_y S rfl rfl rfl (fun w M => y_load S (by kernel_rfl) rfl (M.cell 0 rfl rfl)) ?_; clear S a; intro a S
  (first | refine qt_y S rfl rfl rfl (fun w M => y_addN S rfl rfl (by omega)) ?_ | refine qt_y S rfl rfl rfl (fun w M => y_int S rfl rfl rfl) ?_); clear S a; intro a S
  refine qt_y S rfl rfl rfl (fun w M => y_build (ps := [(0, (Operand.tmp 9)), (1, (Operand.tmp 12))]) (pl := [(0, 1), (1, 1)]) (z := [.int .i64 0, .int .i64 0]) (cs := [_, _]) S (by kernel_rfl) rfl (rfl)) ?_; clear S a; intro a S
  refine qt_y S rfl rfl rfl (fun w M => y_fieldAddr (k := 1) S (by kernel_rfl) rfl) ?_; clear S a; intro a S
  refine qt_y S rfl rfl rfl (fun w M => y_load S (by kernel_rfl) rfl (M.cell 0 rfl rfl)) ?_; clear S a; intro a S
  refine qt_call (xs := [(Operand.tmp 13), (Operand.tmp 15)]) S (enters_of Try.func28 (by decide) rfl) rfl rfl rfl (quiet_of fun w M => haveJ _ _ _ w) ?_; clear S a; intro a S
  refine qt_y S rfl rfl rfl (fun w M => y_pickT S rfl rfl) ?_; clear S a; intro a S
  refine qt_y S rfl rfl rfl (fun w M => y_assign S rfl) ?_; clear S a; intro a S
  refine wpQuiet_nil ?_; clear M; intro w5 M
  replace S := S.sub [(0, _), (1, _), (2, _)] rfl
  refine then_normal ?_
  refine wp_ret ?_
  refine end_one S rfl (res_tmp rfl) ?_
  refine ⟨ret_bool ?_, M.below⟩; clear S M; rw [Bool.eq_iff_iff, decide_eq_true_iff]; first | omega | (simp; omega)
theorem UsedJ (t n : Int) (w : World) (h : mayL t n) : Calls Try.prog 46 #[.agg #[.int .i64 t, .int .i64 n]] w fun e w' => e = .returned (.int .i64 (n - t)) ∧ Below w.heap.size w w' := by
  have M := Mem.start w
  have h' := h
  unfold mayL at h'
  refine calls_enter Try.func46 rfl 11 rfl rfl ?_; intro a S
  refine nxD ?_
  refine st_box S M rfl rfl rfl #[_, _] rfl ?_; clear S M a; intro a w1 b1 S M hB
  refine st_go [1] S rfl (by kernel_rfl) ?_; clear S a; intro a S
  refine nxC ?_
  refine wp_seq ?_
  refine nxD ?_
  refine st_y S rfl rfl rfl (y_loadAgg (cs := [_, _]) S (by kernel_rfl) rfl rfl (M.cellsAt (k := 2) 0 rfl rfl)) ?_; clear S a; intro a S
  refine st_call (xs := [(Operand.tmp 3)]) S (enters_of Try.func19 (by decide) rfl) rfl rfl rfl (MayJ _ _ _) ?_
  rintro _ w2 ⟨rfl, hK⟩; refine ⟨_, rfl, ?_⟩; clear S a; intro a S; replace M := M.grow hK
  refine st_go [1] S rfl (by kernel_rfl) ?_; clear S a; intro a S
  refine nxC ?_
  refine st_if (t := 5) S rfl ?_ ?_
  · clear S; intro h5 S
    exfalso; omega
  clear S; intro h5 S
  refine st_condF S rfl ?_
  refine wp_skip ?_
  refine nxE ?_
  refine st_run [2, 1, 1, 1] S M rfl (by kernel_rfl) ?_; clear S a; intro a S
  (first | refine st_y S rfl rfl rfl (y_subN S rfl rfl (by omega)) ?_ | refine st_y S rfl rfl rfl (y_int S rfl rfl rfl) ?_); clear S a; intro a S
  refine st_go [1] S rfl (by kernel_rfl) ?_; clear S a; intro a S
  refine nxC ?_
  refine wp_ret ?_
  refine end_one S rfl (res_tmp rfl) ?_
  exact ⟨rfl, M.below⟩
theorem FreeJ (t n : Int) (w : World) (h : mayL t n) : Calls Try.prog 33 #[.agg #[.int .i64 t, .int .i64 n]] w fun e w' => e = .returned (.int .i64 (24 - (n - t))) ∧ Below w.heap.size w w' := by
  have M := Mem.start w
  have h' := h
  unfold mayL at h'
  refine calls_enter Try.func33 rfl 9 rfl rfl ?_; intro a S
  refine nxD ?_
  refine st_box S M rfl rfl rfl #[_, _] rfl ?_; clear S M a; intro a w1 b1 S M hB
  refine st_go [1] S rfl (by kernel_rfl) ?_; clear S a; intro a S
  refine nxC ?_
  refine wp_seq ?_
  refine nxD ?_
  refine st_y S rfl rfl rfl (y_loadAgg (cs := [_, _]) S (by kernel_rfl) rfl rfl (M.cellsAt (k := 2) 0 rfl rfl)) ?_; clear S a; intro a S
  refine st_call (xs := [(Operand.tmp 3)]) S (enters_of Try.func19 (by decide) rfl) rfl rfl rfl (MayJ _ _ _) ?_
  rintro _ w2 ⟨rfl, hK⟩; refine ⟨_, rfl, ?_⟩; clear S a; intro a S; replace M := M.grow hK
  refine st_go [1] S rfl (by kernel_rfl) ?_; clear S a; intro a S
  refine nxC ?_
  refine st_if (t := 5) S rfl ?_ ?_
  · clear S; intro h5 S
    exfalso; omega
  clear S; intro h5 S
  refine st_condF S rfl ?_
  refine wp_skip ?_
  refine nxE ?_
  refine st_y S rfl rfl rfl (y_loadAgg (cs := [_, _]) S (by kernel_rfl) rfl rfl (M.cellsAt (k := 2) 0 rfl rfl)) ?_; clear S a; intro a S
  refine st_call (xs := [(Operand.tmp 6)]) S (enters_of Try.func46 (by decide) rfl) rfl rfl rfl (UsedJ _ _ _ h) ?_
  rintro _ w3 ⟨rfl, hK⟩; refine ⟨_, rfl, ?_⟩; clear S a; intro a S; replace M := M.grow hK
  (first | refine st_y S rfl rfl rfl (y_subN S rfl rfl (by omega)) ?_ | refine st_y S rfl rfl rfl (y_int S rfl rfl rfl) ?_); clear S a; intro a S
  refine st_go [1] S rfl (by kernel_rfl) ?_; clear S a; intro a S
  refine nxC ?_
  refine wp_ret ?_
  refine end_one S rfl (res_tmp rfl) ?_
  exact ⟨rfl, M.below⟩
/-! following -/
def seqsJ (f : Int) (k : Nat) : List Int := (List.range k).map fun i : Nat => f + (i : Int)
theorem seqsJ_succ (f : Int) (k : Nat) : seqsJ f (k + 1) = seqsJ f k ++ [f + (k : Int)] := by simp [seqsJ, List.range_succ]
theorem seqsJ_at (f : Int) {k n : Nat} (h : k < n) : ∃ t, seqsJ f n = seqsJ f k ++ (f + (k : Int)) :: t := by
  refine ⟨(seqsJ f n).drop (k + 1), ?_⟩
  have hl : (seqsJ f n).length = n := by simp [seqsJ]
  have ht : (seqsJ f n).take k = seqsJ f k := by
    unfold seqsJ
    rw [← List.map_take, List.take_range, Nat.min_eq_left (by omega)]
  conv => lhs; rw [← List.take_append_drop k (seqsJ f n), List.drop_eq_getElem_cons (by omega), ht]
  congr 2
  simp [seqsJ]
abbrev encJ (x : Int) : List Value := [.int .i64 x]
structure FolC (bn bf : Nat) (f n : Int) (W : World) : Prop where
  n : Blk W bn #[.int .i64 n] 3
  f : Blk W bf #[.int .i64 f] 3
set_option maxHeartbeats 1000000 in
theorem following1_gen (bn bf : Nat) (f : Int) (n : Nat) (hf : -1099511627776 ≤ f ∧ f ≤ 2199023255552) (hn : n ≤ 1000) : Gen Try.prog 47 [.pointer (some ⟨bn, 0, none⟩), .pointer (some ⟨bf, 0, none⟩)] encJ (seqsJ f n) (FolC bn bf f n) := by
  intro ll I w hC hg hY h0
  have M := Mem.start w
  refine calls_enterG Try.func47 rfl 16 rfl rfl ?_; intro a S
  refine wpIn_seq ?_
  refine wpI_region (by kernel_rfl) (by rintro _ _ ⟨⟨_, h⟩, -⟩; cases h) ?_
  refine st_y S rfl rfl rfl (y_load S (by kernel_rfl) rfl ((hC _ _ h0).n.cells 0)) ?_; clear S a; intro a S
  refine st_go [1] S rfl (by kernel_rfl) ?_; clear S a; intro a S
  refine nxC ?_
  refine wpIn_block ?_
  refine wpI_loop_g (fun m a w' => ∃ (k : Nat), k ≤ n ∧ m = n - k ∧ Sees 16 a [(0, .func (.yield ll) #[] #[]), (1, .pointer (some ⟨bn, 0, none⟩)), (2, .pointer (some ⟨bf, 0, none⟩)), (5, .int .i64 (n : Int)), (6, .int .i64 (k : Int))] ∧ I (seqsJ f k) w') (n) ?_ ?_
  · skip
    exact ⟨0, Nat.zero_le _, rfl, S.sub _ rfl, h0⟩
  clear S M a; intro m a wl
  rintro ⟨k, hk, rfl, S, hI⟩
  have M := Mem.start wl
  refine wpIn_seq ?_
  refine wpI_region (by kernel_rfl) (by rintro _ _ ⟨⟨_, h⟩, -⟩; cases h) ?_
  refine st_go [1] S rfl (by kernel_rfl) ?_; clear S a; intro a S
  refine nxC ?_
  refine wpIn_seq ?_
  refine st_fi (t := 7) S rfl ?_ ?_
  · clear S; intro h7 S
    refine stI_condF S rfl ?_
    refine wpIn_exit ?_
    refine then_exit ?_
    refine then_exit ?_
    refine block_hit ?_
    refine end_noneN S rfl ?_
    obtain rfl : k = n := by omega
    exact ⟨⟨_, rfl⟩, hI⟩
  clear S; intro h7 S
  refine stI_condT S rfl ?_
  refine wpIn_skip ?_
  refine then_normal ?_
  refine wpIn_seq ?_
  refine wpIn_block ?_
  refine wpIn_seq ?_
  refine wpI_region (by kernel_rfl) (by rintro _ _ ⟨⟨_, h⟩, -⟩; cases h) ?_
  refine st_go [1, 1] S rfl (by kernel_rfl) ?_; clear S a; intro a S
  refine nxC ?_
  refine wpIn_seq ?_
  refine wpI_preK 4 (by kernel_rfl) (by rintro _ _ ⟨⟨_, h⟩, -⟩; cases h) ?_; simp only [List.take_succ_cons, List.take_zero, List.drop_succ_cons, List.drop_zero]
  refine st_go [1] S rfl (by kernel_rfl) ?_; clear S a; intro a S
  refine st_y S rfl rfl rfl (y_load S (by kernel_rfl) rfl ((hC _ _ hI).f.cells 0)) ?_; clear S a; intro a S
  refine st_go [1] S rfl (by kernel_rfl) ?_; clear S a; intro a S
  (first | refine st_y S rfl rfl rfl (y_addN S rfl rfl (by omega)) ?_ | refine st_y S rfl rfl rfl (y_int S rfl rfl rfl) ?_); clear S a; intro a S
  refine wpList_nil ?_; refine then_normal ?_
  refine stI_yield (xs := [(Operand.tmp 12)]) S rfl (by kernel_rfl) rfl rfl (hY (seqsJ f k) (f + (k : Int)) _ _ (seqsJ_at f (n := n) (by omega)).choose_spec (hg _ _ _ hI M.below)) ?_
  rintro _ w1 ⟨rfl, hI2⟩; refine ⟨_, rfl, ?_⟩; clear S M a; intro a S; have M := Mem.start w1
  refine list_in (by kernel_rfl) (by rintro _ _ ⟨⟨_, h⟩, -⟩; cases h) ?_
  refine st_go [1] S rfl (by kernel_rfl) ?_; clear S a; intro a S
  refine nxC ?_
  refine st_if (t := 14) S rfl ?_ ?_
  · clear S; intro h14 S
    cases h14
  clear S; intro h14 S
  refine stI_condF S rfl ?_
  refine wpIn_skip ?_
  refine block_normal ?_
  refine then_normal ?_
  refine wpI_region (by kernel_rfl) (by rintro _ _ ⟨⟨_, h⟩, -⟩; cases h) ?_
  (first | refine st_y S rfl rfl rfl (y_addN S rfl rfl (by omega)) ?_ | refine st_y S rfl rfl rfl (y_int S rfl rfl rfl) ?_); clear S a; intro a S
  refine st_go [1] S rfl (by kernel_rfl) ?_; clear S a; intro a S
  refine nxC ?_
  exact ⟨n - (k + 1), by omega, k + 1, by omega, rfl, S.sub _ rfl, by rw [seqsJ_succ]; exact hg _ _ _ hI2 M.below⟩
theorem followingJ (f n : Int) (w : World) : Calls Try.prog 34 #[.int .i64 f, .int .i64 n] w fun e w' => ∃ bn bf, e = .returned (.func (.func 47) #[] #[.pointer (some ⟨bn, 0, none⟩), .pointer (some ⟨bf, 0, none⟩)]) ∧ Mem w w' [.blk bn #[.int .i64 n] 3, .blk bf #[.int .i64 f] 3] := by
  have M := Mem.start w
  refine calls_enter Try.func34 rfl 6 rfl rfl ?_; intro a S
  refine nxD ?_
  refine st_box S M rfl rfl rfl #[_] rfl ?_; clear S M a; intro a w1 bF S M hB
  refine st_box S M rfl rfl rfl #[_] rfl ?_; clear S M a; intro a w2 bN S M hB
  refine st_go [1] S rfl (by kernel_rfl) ?_; clear S a; intro a S
  refine nxA ?_
  refine st_y S rfl rfl rfl (y_makeFunc (fs := []) (cs := [(Operand.tmp 3), (Operand.tmp 2)]) S rfl rfl) ?_; clear S a; intro a S
  refine st_go [1] S rfl (by kernel_rfl) ?_; clear S a; intro a S
  refine nxC ?_
  refine wp_ret ?_
  refine end_one S rfl (res_tmp rfl) ?_
  exact ⟨bN, bF, rfl, M⟩
def fitsL (t n k : Int) : Prop := k ≤ 24 - (n - t) ∧ n + k ≤ 1099511627776
def TakeP (t n k : Int) (w : World) (e : Ending) (w' : World) : Prop := ∃ (er x y : Int) (v : Value), e = .returned (.tuple #[.agg #[.int .i64 x, .int .i64 y], v, .int .i64 er]) ∧ Below w.heap.size w w' ∧ ((er = 0 ∧ fitsL t n k ∧ t = x ∧ n + k = y) ∨ (er = 50 ∧ ¬ fitsL t n k))
set_option maxHeartbeats 1000000 in
theorem TakeJ (t n : Int) (k : Nat) (w : World) (h : mayL t n) (hk : k ≤ 24) : Calls Try.prog 21 #[.agg #[.int .i64 t, .int .i64 n], .int .i64 (k : Int)] w (TakeP t n k w) := by
  have M := Mem.start w
  have h' := h
  unfold mayL at h'
  refine calls_enterM Try.func21 rfl 50 rfl rfl ?_; intro a S
  refine nxD ?_
  refine st_box S M rfl rfl rfl #[_, _] rfl ?_; clear S M a; intro a w1 bL S M hB
  refine st_alloc S M rfl rfl #[.int .i64 0, .int .i64 0] (by kernel_rfl) ?_; clear S M a; intro a w2 bR S M hB
  refine st_go [1, 1] S rfl (by kernel_rfl) ?_; clear S a; intro a S
  refine nxC ?_
  refine wp_seq ?_
  refine nxD ?_
  refine st_y S rfl rfl rfl (y_loadAgg (cs := [_, _]) S (by kernel_rfl) rfl rfl (M.cellsAt (k := 2) 1 rfl rfl)) ?_; clear S a; intro a S
  refine st_call (xs := [(Operand.tmp 9)]) S (enters_of Try.func19 (by decide) rfl) rfl rfl rfl (MayJ _ _ _) ?_
  rintro _ w3 ⟨rfl, hK⟩; refine ⟨_, rfl, ?_⟩; clear S a; intro a S; replace M := M.grow hK
  refine st_go [1, 1] S rfl (by kernel_rfl) ?_; clear S a; intro a S
  refine st_if (t := 12) S rfl ?_ ?_
  · clear S; intro h12 S
    exfalso; omega
  clear S; intro h12 S
  refine st_y S rfl rfl rfl (y_build (ps := [(0, (Operand.const (Value.int IntKind.i64 0))), (1, (Operand.const (Value.int IntKind.i64 24)))]) (pl := [(0, 1), (1, 1)]) (z := [.int .i64 0, .int .i64 0]) (cs := [_, _]) S (by kernel_rfl) rfl (rfl)) ?_; clear S a; intro a S
  refine st_go [1] S rfl (by kernel_rfl) ?_; clear S a; intro a S
  refine st_call (xs := [(Operand.tmp 13), (Operand.tmp 14)]) S (enters_of Try.func28 (by decide) rfl) rfl rfl rfl (haveJ _ _ _ _) ?_
  rintro _ w4 ⟨rfl, hK⟩; refine ⟨_, rfl, ?_⟩; clear S a; intro a S; replace M := M.grow hK
  refine st_go [1, 1] S rfl (by kernel_rfl) ?_; clear S a; intro a S
  refine nxC ?_
  refine st_if (t := 17) S rfl ?_ ?_
  · clear S; intro h17 S
    exfalso; omega
  clear S; intro h17 S
  refine st_condF S rfl ?_
  refine wp_skip ?_
  refine then_normal ?_
  refine wp_seq ?_
  refine nxD ?_
  refine st_y S rfl rfl rfl (y_loadAgg (cs := [_, _]) S (by kernel_rfl) rfl rfl (M.cellsAt (k := 2) 1 rfl rfl)) ?_; clear S a; intro a S
  refine st_call (xs := [(Operand.tmp 19)]) S (enters_of Try.func33 (by decide) rfl) rfl rfl rfl (FreeJ _ _ _ h) ?_
  rintro _ w5 ⟨rfl, hK⟩; refine ⟨_, rfl, ?_⟩; clear S a; intro a S; replace M := M.grow hK
  refine st_go [1, 1, 1] S rfl (by kernel_rfl) ?_; clear S a; intro a S
  refine st_if (t := 23) S rfl ?_ ?_
  · clear S; intro h23 S
    refine st_go [0, 0, 0, 0, 0, 1] S rfl (by kernel_rfl) ?_; clear S a; intro a S
    replace S := S.sub [(0, _), (1, _), (2, _), (4, _), (5, _), (6, _), (17, _), (29, _)] rfl
    refine nxC ?_
    refine st_condT S rfl ?_
    refine nxD ?_
    refine st_y S rfl rfl rfl (y_build (ps := []) (pl := [(0, 1), (1, 1)]) (z := [.int .i64 0, .int .i64 0]) (cs := [_, _]) S (by kernel_rfl) rfl (rfl)) ?_; clear S a; intro a S
    refine st_store (sz := 2) (us := [_, _]) S M 0 rfl (by kernel_rfl) rfl rfl rfl rfl rfl rfl (by first | decide | (simp; done) | (simp; omega)) ?_; clear M; intro w6 M
    simp only [putL, List.set_cons_zero, List.set_cons_succ, Nat.reduceAdd] at M
    refine st_go [1, 1] S rfl (by kernel_rfl) ?_; clear S a; intro a S
    refine nxC ?_
    refine wp_ret ?_
    refine then_ret ?_
    refine end_plain ?_
    refine end_three S rfl (res_agg (cs := [_, _]) (by kernel_rfl) rfl rfl (M.cellsAt (k := 2) 0 rfl rfl)) (res_tmp rfl) (res_tmp rfl) ?_
    exact ⟨50, _, _, _, rfl, M.below, .inr ⟨rfl, by unfold fitsL; omega⟩⟩
  clear S; intro h23 S
  refine st_run [2, 2, 1] S M rfl (by kernel_rfl) ?_; clear S a; intro a S
  (first | refine st_y S rfl rfl rfl (y_addN S rfl rfl (by omega)) ?_ | refine st_y S rfl rfl rfl (y_int S rfl rfl rfl) ?_); clear S a; intro a S
  refine st_go [1, 1] S rfl (by kernel_rfl) ?_; clear S a; intro a S
  replace S := S.sub [(0, _), (1, _), (2, _), (4, _), (5, _), (6, _), (17, _), (29, _)] rfl
  refine nxC ?_
  refine st_if (t := 29) S rfl ?_ ?_
  · clear S; intro h29 S
    refine st_condT S rfl ?_
    refine nxD ?_
    refine st_y S rfl rfl rfl (y_build (ps := []) (pl := [(0, 1), (1, 1)]) (z := [.int .i64 0, .int .i64 0]) (cs := [_, _]) S (by kernel_rfl) rfl (rfl)) ?_; clear S a; intro a S
    refine st_store (sz := 2) (us := [_, _]) S M 0 rfl (by kernel_rfl) rfl rfl rfl rfl rfl rfl (by first | decide | (simp; done) | (simp; omega)) ?_; clear M; intro w7 M
    simp only [putL, List.set_cons_zero, List.set_cons_succ, Nat.reduceAdd] at M
    refine st_go [1, 1] S rfl (by kernel_rfl) ?_; clear S a; intro a S
    refine nxC ?_
    refine wp_ret ?_
    refine then_ret ?_
    refine end_plain ?_
    refine end_three S rfl (res_agg (cs := [_, _]) (by kernel_rfl) rfl rfl (M.cellsAt (k := 2) 0 rfl rfl)) (res_tmp rfl) (res_tmp rfl) ?_
    exact ⟨50, _, _, _, rfl, M.below, .inr ⟨rfl, by unfold fitsL; omega⟩⟩
  clear S; intro h29 S
  refine st_condF S rfl ?_
  refine wp_skip ?_
  refine nxE ?_
  refine st_go [1] S rfl (by kernel_rfl) ?_; clear S a; intro a S
  refine st_make (e := 3) (sz := 1) (by_ := 8) (zc := [.int .i64 0]) S M rfl rfl (by kernel_rfl) rfl rfl (by omega) (by omega) (by omega) (by omega) ?_; clear S M a; intro a w8 b1 S M hB
  try simp only [Int.toNat_natCast, Int.reduceToNat, Nat.reduceMul] at S M
  refine st_alloc S M rfl rfl #[.slice none 0 0] (by kernel_rfl) ?_; clear S M a; intro a w9 bO S M hB
  refine st_store (sz := 1) (us := [_]) S M 0 rfl (by kernel_rfl) rfl rfl rfl rfl rfl rfl (by first | decide | (simp; done) | (simp; omega)) ?_; clear M; intro w10 M
  simp only [putL, List.set_cons_zero, List.set_cons_succ, Nat.reduceAdd] at M
  refine nxC ?_
  refine wp_seq ?_
  refine nxD ?_
  refine st_run [2, 4, 1] S M rfl (by kernel_rfl) ?_; clear S a; intro a S
  refine st_call (xs := [(Operand.tmp 34), (Operand.tmp 35)]) S (enters_of Try.func34 (by decide) rfl) rfl rfl rfl (followingJ n (k : Int) _) ?_
  rintro _ w11 ⟨bN, bF, rfl, M1⟩; refine ⟨_, rfl, ?_⟩; clear S a; intro a S; replace M := M.join M1; clear M1
  simp only [List.cons_append, List.nil_append] at M
  refine nxC ?_
  refine wp_block ?_
  replace M := M.toRow (sz := 1) (m := 0) (cap := k) (xs := []) 3 rfl rfl (Nat.zero_le _) (by unfold maxLen; omega) (by rw [List.size_toArray, madeL_length]) rfl
  simp only [List.eraseIdx_cons_succ, List.eraseIdx_cons_zero] at M
  replace M := M.front 3 rfl
  simp only [List.eraseIdx_cons_succ, List.eraseIdx_cons_zero] at M
  refine wp_range (encs := encJ) (xs := seqsJ n k) S M rfl (enters_of Try.func47 (by decide) rfl) (following1_gen bN bF n k (by omega) (by omega)) (fun _ => rfl) (by kernel_rfl) (fun pre Hs => ∃ (v : Value) (lo hi : Nat), Hs = [.blk bO #[v] 28, rowE lo hi 3 1 v pre.length (pre.map fun x => .int .i64 x), .blk bN #[.int .i64 (k : Int)] 3, .blk bF #[.int .i64 n] 3, .blk bR #[.int .i64 0, .int .i64 0] 27, .blk bL #[.int .i64 t, .int .i64 n] 27]) (⟨_, _, _, rfl⟩) (fun pre Hs W ⟨v, lo, hi, e⟩ M => by subst e; exact ⟨M.blk 2 rfl, M.blk 3 rfl⟩) ?_ ?_
  · intro lY pre x tX Hs wr BK a hx hI M S
    simp only [putsL, encJ] at S
    obtain ⟨v, lo, hi, rfl⟩ := hI
    have hpl : pre.length ≤ 24 := by
      have e := congrArg List.length hx
      simp [seqsJ] at e
      omega
    refine wpI_region (by kernel_rfl) (fun _ _ h => h) ?_
    refine st_go [1] S rfl (by kernel_rfl) ?_; clear S a; intro a S
    refine nxC ?_
    refine ⟨_, M, ?_⟩; clear M; intro wb BK M
    refine wpIn_block ?_
    refine wpI_region (by kernel_rfl) (fun _ _ h => h) ?_
    refine st_run [2, 1] S M rfl (by kernel_rfl) ?_; clear S a; intro a S
    refine st_lit (ps := [(0, (Operand.tmp 39))]) (e := 3) (sz := 1) (zl := [.int .i64 0]) (cs := [_]) S M rfl rfl (by kernel_rfl) rfl (rfl) ?_; clear S M a; intro a w12 bZ S M hB
    refine st_append (e := 3) (sz := 1) (by_ := 8) (zc := [.int .i64 0]) S M 3 rfl rfl (by kernel_rfl) rfl (by decide) rfl rfl rfl (show Rd _ _ _ 1 _ 1 [Value.int .i64 x] from M.sliceAt 0 rfl (M.cellsAt (k := 1) 0 rfl rfl) rfl (Nat.le_refl _) (by unfold maxLen; omega)) (rfl) (by omega) (by unfold maxLen; omega) ?_; clear S M a; intro a w13 vA loA hiA S M
    obtain ⟨aA, cA, rfl, -, -⟩ := (M.readAll 0 rfl (by unfold maxLen; omega)).form
    refine st_store (sz := 1) (us := [_]) S M 3 rfl (by kernel_rfl) rfl rfl rfl rfl rfl rfl (by first | decide | (simp; done) | (simp; omega)) ?_; clear M; intro w14 M
    simp only [putL, List.set_cons_zero, List.set_cons_succ, Nat.reduceAdd] at M
    refine wpList_nil ?_
    refine block_normal ?_
    replace M := M.front 2 rfl
    simp only [List.eraseIdx_cons_succ, List.eraseIdx_cons_zero] at M
    skip
    replace M := M.drop 2
    simp only [List.eraseIdx_cons_succ, List.eraseIdx_cons_zero] at M
    replace M := M.front 1 rfl
    simp only [List.eraseIdx_cons_succ, List.eraseIdx_cons_zero] at M
    replace M := M.front 2 rfl
    simp only [List.eraseIdx_cons_succ, List.eraseIdx_cons_zero] at M
    replace M := M.front 2 rfl
    simp only [List.eraseIdx_cons_succ, List.eraseIdx_cons_zero] at M
    refine ⟨_, M, .slice aA (pre.length + 1) cA, loA, hiA, ?_⟩
    rw [List.length_append, List.map_append]; rfl
  intro D1 wd Hs a hI M S
  obtain ⟨v, lo, hi, rfl⟩ := hI
  refine block_normal ?_
  refine then_normal ?_
  refine wp_seq ?_
  refine wp_regionKC (C := fun W => Blk W bL #[.int .i64 t, .int .i64 n] 27 ∧ Blk W bO #[v] 28) [8] #[false, false, false, false, false, false, false, false, false, false, false] rfl M (by kernel_rfl) ?_; clear M; intro w15 M; have hC := And.intro (M.blk 6 rfl) (M.blk 1 rfl)
  refine kc_readC (listed' := #[true, false, false, false, false, false, false, false, false, false, false]) 0 S rfl rfl rfl rfl (by kernel_rfl) rfl (fun _ d _ _ _ h => by cases d <;> exact h) hC (fun w _ => y_fieldAddr (k := 0) S (by kernel_rfl) rfl) ?_; clear S a; intro a S
  refine kc_readC (listed' := #[true, true, false, false, false, false, false, false, false, false, false]) 1 S rfl rfl rfl rfl (by kernel_rfl) rfl (fun _ d _ _ _ h => by cases d <;> exact h) hC (fun w hC => y_load S (by kernel_rfl) rfl (hC.1.cells 0)) ?_; clear S a; intro a S
  refine kc_readC (listed' := #[true, true, true, false, false, false, false, false, false, false, false]) 2 S rfl rfl rfl rfl (by kernel_rfl) rfl (fun _ d _ _ _ h => by cases d <;> exact h) hC (fun w _ => y_fieldAddr (k := 1) S (by kernel_rfl) rfl) ?_; clear S a; intro a S
  refine kc_readC (listed' := #[true, true, true, true, false, false, false, false, false, false, false]) 3 S rfl rfl rfl rfl (by kernel_rfl) rfl (fun _ d _ _ _ h => by cases d <;> exact h) hC (fun w hC => y_load S (by kernel_rfl) rfl (hC.1.cells 1)) ?_; clear S a; intro a S
  refine kc_readC (listed' := #[true, true, true, true, true, false, false, false, false, false, false]) 4 S rfl rfl rfl rfl (by kernel_rfl) rfl (fun _ d _ _ _ h => by cases d <;> exact h) hC (fun w _ => y_move S rfl) ?_; clear S a; intro a S
  (first | refine kc_readC (listed' := #[true, true, true, true, true, true, false, false, false, false, false]) 5 S rfl rfl rfl rfl (by kernel_rfl) rfl (fun _ d _ _ _ h => by cases d <;> exact h) hC (fun w _ => y_addN S rfl rfl (by omega)) ?_ | refine kc_readC (listed' := #[true, true, true, true, true, true, false, false, false, false, false]) 5 S rfl rfl rfl rfl (by kernel_rfl) rfl (fun _ d _ _ _ h => by cases d <;> exact h) hC (fun w _ => y_int S rfl rfl rfl) ?_); clear S a; intro a S
  refine kc_readC (listed' := #[true, true, true, true, true, true, true, false, false, false, false]) 6 S rfl rfl rfl rfl (by kernel_rfl) rfl (fun _ d _ _ _ h => by cases d <;> exact h) hC (fun w _ => y_build (ps := [(0, (Operand.tmp 43)), (1, (Operand.tmp 47))]) (pl := [(0, 1), (1, 1)]) (z := [.int .i64 0, .int .i64 0]) (cs := [_, _]) S (by kernel_rfl) rfl (rfl)) ?_; clear S a; intro a S
  refine kc_readC (listed' := #[true, true, true, true, true, true, true, true, false, false, false]) 7 S rfl rfl rfl rfl (by kernel_rfl) rfl (fun _ d _ _ _ h => by cases d <;> exact h) hC (fun w hC => y_load S (by kernel_rfl) rfl (hC.2.cells 0)) ?_; clear S a; intro a S
  refine kc_one (listed' := #[true, true, true, true, true, true, true, true, true, false, false]) 8 rfl (by kernel_rfl) rfl ?_
  refine st_store (sz := 2) (us := [_, _]) S M 5 rfl (by kernel_rfl) rfl rfl rfl rfl rfl rfl (by first | decide | (simp; done) | (simp; omega)) ?_; clear M; intro w16 M
  simp only [putL, List.set_cons_zero, List.set_cons_succ, Nat.reduceAdd] at M
  replace hC := And.intro (M.blk 6 rfl) (M.blk 1 rfl)
  refine wpList_nil ?_; refine then_normal ?_; refine ⟨fun h => absurd h (by decide), hC, ?_⟩
  refine kc_readC (listed' := #[true, true, true, true, true, true, true, true, true, true, false]) 9 S rfl rfl rfl rfl (by kernel_rfl) rfl (fun _ d _ _ _ h => by cases d <;> exact h) hC (fun w _ => y_assign S rfl) ?_; clear S a; intro a S
  refine kc_readC (listed' := #[true, true, true, true, true, true, true, true, true, true, true]) 10 S rfl rfl rfl rfl (by kernel_rfl) rfl (fun _ d _ _ _ h => by cases d <;> exact h) hC (fun w _ => y_assign S rfl) ?_; clear S a; intro a S
  refine kc_end (by kernel_rfl) ?_
  replace S := S.sub [(0, _), (1, _), (2, _), (4, _), (17, _), (29, _), (7, _), (36, _), (5, _), (6, _)] rfl
  refine then_normal ?_
  refine wp_ret ?_
  refine end_mark S M 0 rfl ?_; clear S M a; intro a wM S M
  simp only [List.eraseIdx_cons_succ, List.eraseIdx_cons_zero] at M
  refine end_plain ?_
  refine end_three S rfl (res_agg (cs := [_, _]) (by kernel_rfl) rfl rfl (M.cellsAt (k := 2) 4 rfl rfl)) (res_tmp rfl) (res_tmp rfl) ?_
  exact ⟨0, _, _, _, rfl, M.below, .inl ⟨rfl, by unfold fitsL; omega, rfl, rfl⟩⟩
end Go.Proofs.Ytafejnbfgkkjkaa
