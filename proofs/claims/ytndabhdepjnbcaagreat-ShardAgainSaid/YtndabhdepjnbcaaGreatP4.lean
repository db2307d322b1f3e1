/-
  What ShardAgain rests on, part 4.
-/
import Derived.Test.YtndabhdepjnbcaaGreatP3
namespace Go.Proofs.YtndabhdepjnbcaaGreat
open Go.RowKit Go.Sort
theorem haveJ (a b n : Int) (w : World) : Calls Tryz.prog 130 #[.agg #[.int .i64 a, .int .i64 b], .int .i64 n] w fun e w' => e = .returned (.bool (decide (a ≤ n ∧ n ≤ b))) ∧ Below w.heap.size w w' := by
 have M := Mem.start w
 refine calls_enter Tryz.func130 rfl 15 rfl rfl ?_; intro a S
 refine nxD (st_box S M rfl rfl rfl #[_, _] rfl ?_); clear S M a; intro a w1 b1 S M hB
 refine qG [1] S ?_; clear S a; intro a S
 refine nxA (qR [1, 1, 1, 1, 1] S M ?_); clear S a; intro a S
 refine st_fi (t := 9) S rfl ?_ ?_
 ·clear S; intro h9 S
  refine qG [0, 0, 0, 0, 1, 1] S ?_; clear S a; intro a S
  refine nxC (wp_ret (end_one S rfl (res_tmp rfl) ?_))
  refine ⟨ret_bool ?_, M.below⟩; clear S M; rw [Bool.eq_iff_iff]; simp only [decide_eq_true_eq]; first | omega | (simp; omega)
 clear S; intro h9 S
 refine qR [1, 2, 1, 1, 1, 1] S M ?_; clear S a; intro a S
 refine nxC (wp_ret (end_one S rfl (res_tmp rfl) ?_))
 refine ⟨ret_bool ?_, M.below⟩; clear S M; rw [Bool.eq_iff_iff]; simp only [decide_eq_true_eq]; first | omega | (simp; omega)
theorem sequencesJ (w : World) : Calls Tryz.prog 129 #[] w fun e w' => e = .returned (.agg #[.int .i64 1, .int .i64 1099511627776]) ∧ Below w.heap.size w w' := by
 have M := Mem.start w
 refine calls_enter Tryz.func129 rfl 2 rfl rfl ?_; intro a S
 refine nxD (st_alloc S M rfl rfl #[.int .i64 0, .int .i64 0] (by kernel_rfl) ?_); clear S M a; intro a w1 b1 S M hB
 refine nxA (qY S (y_build (ps := [(0, .const (.int .i64 1)), (1, .const (.int .i64 1099511627776))]) (pl := [(0, 1), (1, 1)]) (z := [.int .i64 0, .int .i64 0]) (cs := [_, _]) S (by kernel_rfl) rfl (rfl)) ?_); clear S a; intro a S
 refine qS (sz := 2) (us := [_, _]) S M 0 ?_; clear M; intro w2 M
 refine nxC (wp_ret (end_one S rfl (res_agg (cs := [_, _]) (by kernel_rfl) rfl rfl (M.cellsAt (k := 2) 0 rfl rfl)) ?_))
 exact ⟨rfl, M.below⟩
theorem placeJ (n : Int) (w : World) (h : 1 ≤ n ∧ n ≤ 1099511627776) : Calls Tryz.prog 151 #[.int .i64 n] w fun e w' => e = .returned (.int .i64 (2 + n % 24)) ∧ Below w.heap.size w w' := by
 have M := Mem.start w
 refine calls_enter Tryz.func151 rfl 6 rfl rfl ?_; intro a S
 refine nxD (qG [1] S ?_); clear S a; intro a S
 refine nxA (qG [1] S ?_); clear S a; intro a S
 (first | refine qY S (y_remN S rfl rfl (by omega)) ?_ | refine qY S (y_remZ S rfl rfl (by omega)) ?_); clear S a; intro a S
 (first | refine qY S (y_addN S rfl rfl (by omega)) ?_ | refine qY S (y_int S rfl rfl rfl) ?_); clear S a; intro a S
 refine qG [1] S ?_; clear S a; intro a S
 refine nxC (wp_ret (end_one S rfl (res_tmp rfl) ?_))
 exact ⟨rfl, M.below⟩
def plE (n : Int) : Int := if 1 ≤ n ∧ n ≤ 1099511627776 then 0 else 2
def plV (n : Int) : Int := if 1 ≤ n ∧ n ≤ 1099511627776 then 2 + n % 24 else 0
theorem PlaceJ (n : Int) (w : World) : Calls Tryz.prog 108 #[.int .i64 n] w fun e w' => e = .returned (.tuple #[.int .i64 (plV n), .int .i64 (plE n)]) ∧ Below w.heap.size w w' := by
 have M := Mem.start w
 refine calls_enter Tryz.func108 rfl 10 rfl rfl ?_; intro a S
 refine nxD (qG [1, 1] S ?_); clear S a; intro a S
 refine nxC (wp_seq (nxD (qQ (xs := []) S (qE Tryz.func129) rfl (sequencesJ _) M ?_))); clear S M a; intro a w1 S hK M
 refine qG [1] S ?_; clear S a; intro a S
 refine qQ (xs := [.tmp 4, .tmp 5]) S (qE Tryz.func130) rfl (haveJ _ _ _ _) M ?_; clear S M a; intro a w2 S hK M
 refine qG [1] S ?_; clear S a; intro a S
 refine nxC (st_if (t := 7) S rfl ?_ ?_)
 ·clear S; intro h7 S
  refine st_condT S rfl (nxD (qG [1, 1] S ?_)); clear S a; intro a S
  refine nxC (wp_ret (then_ret (end_two S rfl (res_tmp rfl) (res_tmp rfl) ?_)))
  unfold plV plE; rw [if_neg (by omega), if_neg (by omega)]; exact ⟨rfl, M.below⟩
 clear S; intro h7 S
 refine st_condF S rfl (wp_skip (nxE (qG [1] S ?_))); clear S a; intro a S
 refine qQ (xs := [.tmp 8]) S (qE Tryz.func151) rfl (placeJ _ _ (by omega)) M ?_; clear S M a; intro a w3 S hK M
 refine qG [1, 1] S ?_; clear S a; intro a S
 refine nxC (wp_ret (end_two S rfl (res_tmp rfl) (res_tmp rfl) ?_))
 unfold plV plE; rw [if_pos (by omega), if_pos (by omega)]; exact ⟨rfl, M.below⟩
abbrev mayL (t n : Int) : Prop := (1 ≤ t ∧ t ≤ 1099511627776) ∧ t ≤ n ∧ n ≤ t + 24
theorem MayJ (t n : Int) (w : World) : Calls Tryz.prog 98 #[.agg #[.int .i64 t, .int .i64 n]] w fun e w' => e = .returned (.bool (decide (mayL t n))) ∧ Below w.heap.size w w' := by
 have M := Mem.start w
 refine calls_enter Tryz.func98 rfl 18 rfl rfl ?_; intro a S
 refine nxD (st_box S M rfl rfl rfl #[_, _] rfl ?_); clear S M a; intro a w1 b1 S M hB
 refine qG [1] S ?_; clear S a; intro a S
 refine nxC (wp_seq (wp_quiet M (by kernel_rfl) (by kernel_rfl) ?_))
 refine qt_call (xs := []) S (enters_of Tryz.func129 (by decide) rfl) rfl rfl rfl (quiet_of fun w M => sequencesJ w) ?_; clear S a; intro a S
 refine qt_y S rfl rfl rfl (fun w M => y_fieldAddr (k := 0) S (by kernel_rfl) rfl) ?_; clear S a; intro a S
 refine qt_y S rfl rfl rfl (fun w M => y_load S (by kernel_rfl) rfl (M.cell 0 rfl rfl)) ?_; clear S a; intro a S
 refine qt_call (xs := [.tmp 3, .tmp 5]) S (enters_of Tryz.func130 (by decide) rfl) rfl rfl rfl (quiet_of fun w M => haveJ _ _ _ w) ?_; clear S a; intro a S
 refine qt_y S rfl rfl rfl (fun w M => y_move S rfl) ?_; clear S a; intro a S
 refine st_fi (t := 7) S rfl ?_ ?_
 ·clear S; intro h7 S
  refine qt_skip 9 S rfl ?_; clear S a; intro a S
  refine qt_y S rfl rfl rfl (fun w M => y_pickF S rfl rfl) ?_; clear S a; intro a S
  refine qt_y S rfl rfl rfl (fun w M => y_assign S rfl) ?_; clear S a; intro a S
  refine wpQuiet_nil ?_; clear M; intro w6 M
  refine then_normal (wp_ret (end_one S rfl (res_tmp rfl) ?_))
  refine ⟨ret_bool ?_, M.below⟩; clear S M; rw [Bool.eq_iff_iff, decide_eq_true_iff]; first | omega | (simp; omega)
 clear S; intro h7 S
 refine qt_y S rfl rfl rfl (fun w M => y_fieldAddr (k := 0) S (by kernel_rfl) rfl) ?_; clear S a; intro a S
 refine qt_y S rfl rfl rfl (fun w M => y_load S (by kernel_rfl) rfl (M.cell 0 rfl rfl)) ?_; clear S a; intro a S
 refine qt_y S rfl rfl rfl (fun w M => y_fieldAddr (k := 0) S (by kernel_rfl) rfl) ?_; clear S a; intro a S
 refine qt_y S rfl rfl rfl (fun w M => y_load S (by kernel_rfl) rfl (M.cell 0 rfl rfl)) ?_; clear S a; intro a S
 (first | refine qt_y S rfl rfl rfl (fun w M => y_addN S rfl rfl (by omega)) ?_ | refine qt_y S rfl rfl rfl (fun w M => y_int S rfl rfl rfl) ?_); clear S a; intro a S
 refine qt_y S rfl rfl rfl (fun w M => y_build (ps := [(0, .tmp 9), (1, .tmp 12)]) (pl := [(0, 1), (1, 1)]) (z := [.int .i64 0, .int .i64 0]) (cs := [_, _]) S (by kernel_rfl) rfl (rfl)) ?_; clear S a; intro a S
 refine qt_y S rfl rfl rfl (fun w M => y_fieldAddr (k := 1) S (by kernel_rfl) rfl) ?_; clear S a; intro a S
 refine qt_y S rfl rfl rfl (fun w M => y_load S (by kernel_rfl) rfl (M.cell 0 rfl rfl)) ?_; clear S a; intro a S
 refine qt_call (xs := [.tmp 13, .tmp 15]) S (enters_of Tryz.func130 (by decide) rfl) rfl rfl rfl (quiet_of fun w M => haveJ _ _ _ w) ?_; clear S a; intro a S
 refine qt_y S rfl rfl rfl (fun w M => y_pickT S rfl rfl) ?_; clear S a; intro a S
 refine qt_y S rfl rfl rfl (fun w M => y_assign S rfl) ?_; clear S a; intro a S
 refine wpQuiet_nil ?_; clear M; intro w5 M
 replace S := S.keep [0, 1, 2]
 refine then_normal (wp_ret (end_one S rfl (res_tmp rfl) ?_))
 refine ⟨ret_bool ?_, M.below⟩; clear S M; rw [Bool.eq_iff_iff, decide_eq_true_iff]; first | omega | (simp; omega)
theorem UsedJ (t n : Int) (w : World) (h : mayL t n) : Calls Tryz.prog 99 #[.agg #[.int .i64 t, .int .i64 n]] w fun e w' => e = .returned (.int .i64 (n - t)) ∧ Below w.heap.size w w' := by
 have M := Mem.start w
 have h' := h
 unfold mayL at h'
 refine calls_enter Tryz.func99 rfl 11 rfl rfl ?_; intro a S
 refine nxD (st_box S M rfl rfl rfl #[_, _] rfl ?_); clear S M a; intro a w1 b1 S M hB
 refine qG [1] S ?_; clear S a; intro a S
 refine nxC (wp_seq (nxD (qY S (y_loadAgg (cs := [_, _]) S (by kernel_rfl) rfl rfl (M.cellsAt (k := 2) 0 rfl rfl)) ?_))); clear S a; intro a S
 refine qQ (xs := [.tmp 3]) S (qE Tryz.func98) rfl (MayJ _ _ _) M ?_; clear S M a; intro a w2 S hK M
 refine qG [1] S ?_; clear S a; intro a S
 refine nxC (st_if (t := 5) S rfl ?_ ?_)
 ·clear S; intro h5 S
  exfalso; omega
 clear S; intro h5 S
 refine st_condF S rfl (wp_skip (nxE (qR [2, 1, 1, 1] S M ?_))); clear S a; intro a S
 (first | refine qY S (y_subN S rfl rfl (by omega)) ?_ | refine qY S (y_int S rfl rfl rfl) ?_); clear S a; intro a S
 refine qG [1] S ?_; clear S a; intro a S
 refine nxC (wp_ret (end_one S rfl (res_tmp rfl) ?_))
 exact ⟨rfl, M.below⟩
theorem FreeJ (t n : Int) (w : World) (h : mayL t n) : Calls Tryz.prog 53 #[.agg #[.int .i64 t, .int .i64 n]] w fun e w' => e = .returned (.int .i64 (24 - (n - t))) ∧ Below w.heap.size w w' := by
 have M := Mem.start w
 have h' := h
 unfold mayL at h'
 refine calls_enter Tryz.func53 rfl 9 rfl rfl ?_; intro a S
 refine nxD (st_box S M rfl rfl rfl #[_, _] rfl ?_); clear S M a; intro a w1 b1 S M hB
 refine qG [1] S ?_; clear S a; intro a S
 refine nxC (wp_seq (nxD (qY S (y_loadAgg (cs := [_, _]) S (by kernel_rfl) rfl rfl (M.cellsAt (k := 2) 0 rfl rfl)) ?_))); clear S a; intro a S
 refine qQ (xs := [.tmp 3]) S (qE Tryz.func98) rfl (MayJ _ _ _) M ?_; clear S M a; intro a w2 S hK M
 refine qG [1] S ?_; clear S a; intro a S
 refine nxC (st_if (t := 5) S rfl ?_ ?_)
 ·clear S; intro h5 S
  exfalso; omega
 clear S; intro h5 S
 refine st_condF S rfl (wp_skip (nxE (qY S (y_loadAgg (cs := [_, _]) S (by kernel_rfl) rfl rfl (M.cellsAt (k := 2) 0 rfl rfl)) ?_))); clear S a; intro a S
 refine qQ (xs := [.tmp 6]) S (qE Tryz.func99) rfl (UsedJ _ _ _ h) M ?_; clear S M a; intro a w3 S hK M
 (first | refine qY S (y_subN S rfl rfl (by omega)) ?_ | refine qY S (y_int S rfl rfl rfl) ?_); clear S a; intro a S
 refine qG [1] S ?_; clear S a; intro a S
 refine nxC (wp_ret (end_one S rfl (res_tmp rfl) ?_))
 exact ⟨rfl, M.below⟩
def seqsJ (f : Int) (k : Nat) : List Int := (List.range k).map fun i : Nat => f + (i : Int)
theorem seqsJ_succ (f : Int) (k : Nat) : seqsJ f (k + 1) = seqsJ f k ++ [f + (k : Int)] := by simp [seqsJ, List.range_succ]
theorem seqsJ_at (f : Int) {k n : Nat} (h : k < n) : ∃ t, seqsJ f n = seqsJ f k ++ (f + (k : Int)) :: t := by
 refine ⟨(seqsJ f n).drop (k + 1), ?_⟩
 have hl : (seqsJ f n).length = n := by simp [seqsJ]
 have ht : (seqsJ f n).take k = seqsJ f k := by
  unfold seqsJ
  rw [← List.map_take, List.take_range, Nat.min_eq_left (by omega)]
 conv => lhs; rw [← List.take_append_drop k (seqsJ f n), List.drop_eq_getElem_cons (by omega), ht]
 congr 2
 simp [seqsJ]
abbrev encJ (x : Int) : List Value := [.int .i64 x]
structure FolC (bn bf : Nat) (f n : Int) (W : World) : Prop where
 n : Blk W bn #[.int .i64 n] 3
 f : Blk W bf #[.int .i64 f] 3
set_option maxHeartbeats 1000000 in
theorem following1_gen (bn bf : Nat) (f : Int) (n : Nat) (hf : -1099511627776 ≤ f ∧ f ≤ 2199023255552) (hn : n ≤ 1000) : Gen Tryz.prog 158 [.pointer (some ⟨bn, 0, none⟩), .pointer (some ⟨bf, 0, none⟩)] encJ (seqsJ f n) (FolC bn bf f n) := by
 intro ll I w hC hg hY h0
 have M := Mem.start w
 refine calls_enterG Tryz.func158 rfl 16 rfl rfl ?_; intro a S
 refine wpIn_seq ?_
 refine wpI_region (by kernel_rfl) (by rintro _ _ ⟨⟨_, h⟩, -⟩; cases h) ?_
 refine qY S (y_load S (by kernel_rfl) rfl ((hC _ _ h0).n.cells 0)) ?_; clear S a; intro a S
 refine qG [1] S ?_; clear S a; intro a S
 refine nxC (wpIn_block ?_)
 refine wpI_loop_g (fun m a w' => ∃ (k : Nat), k ≤ n ∧ m = n - k ∧ Sees 16 a [(0, .func (.yield ll) #[] #[]), (1, .pointer (some ⟨bn, 0, none⟩)), (2, .pointer (some ⟨bf, 0, none⟩)), (5, .int .i64 (n : Int)), (6, .int .i64 (k : Int))] ∧ I (seqsJ f k) w') (n) ?_ ?_
 ·skip
  exact ⟨0, Nat.zero_le _, rfl, S.sub _ rfl, h0⟩
 clear S M a; intro m a wl
 rintro ⟨k, hk, rfl, S, hI⟩
 have M := Mem.start wl
 refine wpIn_seq ?_
 refine wpI_region (by kernel_rfl) (by rintro _ _ ⟨⟨_, h⟩, -⟩; cases h) ?_
 refine qG [1] S ?_; clear S a; intro a S
 refine nxC (wpIn_seq ?_)
 refine st_fi (t := 7) S rfl ?_ ?_
 ·clear S; intro h7 S
  refine stI_condF S rfl ?_
  refine wpIn_exit ?_
  refine then_exit (then_exit (block_hit (end_noneN S rfl ?_)))
  obtain rfl : k = n := by omega
  exact ⟨⟨_, rfl⟩, hI⟩
 clear S; intro h7 S
 refine stI_condT S rfl ?_
 refine wpIn_skip ?_
 refine then_normal (wpIn_seq ?_)
 refine wpIn_block ?_
 refine wpIn_seq ?_
 refine wpI_region (by kernel_rfl) (by rintro _ _ ⟨⟨_, h⟩, -⟩; cases h) ?_
 refine qG [1, 1] S ?_; clear S a; intro a S
 refine nxC (wpIn_seq ?_)
 refine wpI_preK 4 (by kernel_rfl) (by rintro _ _ ⟨⟨_, h⟩, -⟩; cases h) ?_; simp only [List.take_succ_cons, List.take_zero, List.drop_succ_cons, List.drop_zero]
 refine qG [1] S ?_; clear S a; intro a S
 refine qY S (y_load S (by kernel_rfl) rfl ((hC _ _ hI).f.cells 0)) ?_; clear S a; intro a S
 refine qG [1] S ?_; clear S a; intro a S
 (first | refine qY S (y_addN S rfl rfl (by omega)) ?_ | refine qY S (y_int S rfl rfl rfl) ?_); clear S a; intro a S
 refine wpList_nil ?_; refine then_normal ?_
 refine stI_yield (xs := [.tmp 12]) S rfl (by kernel_rfl) rfl rfl (hY (seqsJ f k) (f + (k : Int)) _ _ (seqsJ_at f (n := n) (by omega)).choose_spec (hg _ _ _ hI M.below)) ?_
 rintro _ w1 ⟨rfl, hI2⟩; refine ⟨_, rfl, ?_⟩; clear S M a; intro a S; have M := Mem.start w1
 refine list_in (by kernel_rfl) (by rintro _ _ ⟨⟨_, h⟩, -⟩; cases h) ?_
 refine qG [1] S ?_; clear S a; intro a S
 refine nxC (st_if (t := 14) S rfl ?_ ?_)
 ·clear S; intro h14 S
  cases h14
 clear S; intro h14 S
 refine stI_condF S rfl ?_
 refine wpIn_skip ?_
 refine block_normal (then_normal (wpI_region (by kernel_rfl) (by rintro _ _ ⟨⟨_, h⟩, -⟩; cases h) ?_))
 (first | refine qY S (y_addN S rfl rfl (by omega)) ?_ | refine qY S (y_int S rfl rfl rfl) ?_); clear S a; intro a S
 refine qG [1] S ?_; clear S a; intro a S
 refine nxC ?_
 exact ⟨n - (k + 1), by omega, k + 1, by omega, rfl, S.sub _ rfl, by rw [seqsJ_succ]; exact hg _ _ _ hI2 M.below⟩
theorem followingJ (f n : Int) (w : World) : Calls Tryz.prog 143 #[.int .i64 f, .int .i64 n] w fun e w' => ∃ bn bf, e = .returned (.func (.func 158) #[] #[.pointer (some ⟨bn, 0, none⟩), .pointer (some ⟨bf, 0, none⟩)]) ∧ Mem w w' [.blk bn #[.int .i64 n] 3, .blk bf #[.int .i64 f] 3] := by
 have M := Mem.start w
 refine calls_enter Tryz.func143 rfl 6 rfl rfl ?_; intro a S
 refine nxD (st_box S M rfl rfl rfl #[_] rfl ?_); clear S M a; intro a w1 bF S M hB
 refine st_box S M rfl rfl rfl #[_] rfl ?_; clear S M a; intro a w2 bN S M hB
 refine qG [1] S ?_; clear S a; intro a S
 refine nxA (qY S (y_makeFunc (fs := []) (cs := [.tmp 3, .tmp 2]) S rfl rfl) ?_); clear S a; intro a S
 refine qG [1] S ?_; clear S a; intro a S
 refine nxC (wp_ret (end_one S rfl (res_tmp rfl) ?_))
 exact ⟨bN, bF, rfl, M⟩
def fitsL (t n k : Int) : Prop := k ≤ 24 - (n - t) ∧ n + k ≤ 1099511627776
def TakeP (t n k : Int) (w : World) (e : Ending) (w' : World) : Prop := ∃ (er x y : Int) (v : Value), e = .returned (.tuple #[.agg #[.int .i64 x, .int .i64 y], v, .int .i64 er]) ∧ Below w.heap.size w w' ∧ ((er = 0 ∧ fitsL t n k ∧ t = x ∧ n + k = y) ∨ (er = 50 ∧ ¬ fitsL t n k))
set_option maxHeartbeats 1000000 in
theorem TakeJ (t n : Int) (k : Nat) (w : World) (h : mayL t n) (hk : k ≤ 24) : Calls Tryz.prog 103 #[.agg #[.int .i64 t, .int .i64 n], .int .i64 (k : Int)] w (TakeP t n k w) := by
 have M := Mem.start w
 have h' := h
 unfold mayL at h'
 refine calls_enterM Tryz.func103 rfl 50 rfl rfl ?_; intro a S
 refine nxD (st_box S M rfl rfl rfl #[_, _] rfl ?_); clear S M a; intro a w1 bL S M hB
 refine st_alloc S M rfl rfl #[.int .i64 0, .int .i64 0] (by kernel_rfl) ?_; clear S M a; intro a w2 bR S M hB
 refine qG [1, 1] S ?_; clear S a; intro a S
 refine nxC (wp_seq (nxD (qY S (y_loadAgg (cs := [_, _]) S (by kernel_rfl) rfl rfl (M.cellsAt (k := 2) 1 rfl rfl)) ?_))); clear S a; intro a S
 refine qQ (xs := [.tmp 9]) S (qE Tryz.func98) rfl (MayJ _ _ _) M ?_; clear S M a; intro a w3 S hK M
 refine qG [1, 1] S ?_; clear S a; intro a S
 refine st_if (t := 12) S rfl ?_ ?_
 ·clear S; intro h12 S
  exfalso; omega
 clear S; intro h12 S
 refine qY S (y_build (ps := [(0, .const (.int .i64 0)), (1, .const (.int .i64 24))]) (pl := [(0, 1), (1, 1)]) (z := [.int .i64 0, .int .i64 0]) (cs := [_, _]) S (by kernel_rfl) rfl (rfl)) ?_; clear S a; intro a S
 refine qG [1] S ?_; clear S a; intro a S
 refine qQ (xs := [.tmp 13, .tmp 14]) S (qE Tryz.func130) rfl (haveJ _ _ _ _) M ?_; clear S M a; intro a w4 S hK M
 refine qG [1, 1] S ?_; clear S a; intro a S
 refine nxC (st_if (t := 17) S rfl ?_ ?_)
 ·clear S; intro h17 S
  exfalso; omega
 clear S; intro h17 S
 refine st_condF S rfl (wp_skip (then_normal (wp_seq (nxD (qY S (y_loadAgg (cs := [_, _]) S (by kernel_rfl) rfl rfl (M.cellsAt (k := 2) 1 rfl rfl)) ?_))))); clear S a; intro a S
 refine qQ (xs := [.tmp 19]) S (qE Tryz.func53) rfl (FreeJ _ _ _ h) M ?_; clear S M a; intro a w5 S hK M
 refine qG [1, 1, 1] S ?_; clear S a; intro a S
 refine st_if (t := 23) S rfl ?_ ?_
 ·clear S; intro h23 S
  refine qG [0, 0, 0, 0, 0, 1] S ?_; clear S a; intro a S
  replace S := S.keep [0, 1, 2, 4, 5, 6, 17, 29]
  refine nxC (st_condT S rfl (nxD (qY S (y_build (ps := []) (pl := [(0, 1), (1, 1)]) (z := [.int .i64 0, .int .i64 0]) (cs := [_, _]) S (by kernel_rfl) rfl (rfl)) ?_))); clear S a; intro a S
  refine qS (sz := 2) (us := [_, _]) S M 0 ?_; clear M; intro w6 M
  refine qG [1, 1] S ?_; clear S a; intro a S
  refine nxC (wp_ret (then_ret (end_plain ?_)))
  refine end_three S rfl (res_agg (cs := [_, _]) (by kernel_rfl) rfl rfl (M.cellsAt (k := 2) 0 rfl rfl)) (res_tmp rfl) (res_tmp rfl) ?_
  exact ⟨50, _, _, _, rfl, M.below, .inr ⟨rfl, by unfold fitsL; omega⟩⟩
 clear S; intro h23 S
 refine qR [2, 2, 1] S M ?_; clear S a; intro a S
 (first | refine qY S (y_addN S rfl rfl (by omega)) ?_ | refine qY S (y_int S rfl rfl rfl) ?_); clear S a; intro a S
 refine qG [1, 1] S ?_; clear S a; intro a S
 replace S := S.keep [0, 1, 2, 4, 5, 6, 17, 29]
 refine nxC (st_if (t := 29) S rfl ?_ ?_)
 ·clear S; intro h29 S
  refine st_condT S rfl (nxD (qY S (y_build (ps := []) (pl := [(0, 1), (1, 1)]) (z := [.int .i64 0, .int .i64 0]) (cs := [_, _]) S (by kernel_rfl) rfl (rfl)) ?_)); clear S a; intro a S
  refine qS (sz := 2) (us := [_, _]) S M 0 ?_; clear M; intro w7 M
  refine qG [1, 1] S ?_; clear S a; intro a S
  refine nxC (wp_ret (then_ret (end_plain ?_)))
  refine end_three S rfl (res_agg (cs := [_, _]) (by kernel_rfl) rfl rfl (M.cellsAt (k := 2) 0 rfl rfl)) (res_tmp rfl) (res_tmp rfl) ?_
  exact ⟨50, _, _, _, rfl, M.below, .inr ⟨rfl, by unfold fitsL; omega⟩⟩
 clear S; intro h29 S
 refine st_condF S rfl (wp_skip (nxE (qG [1] S ?_))); clear S a; intro a S
 refine st_make (e := 3) (sz := 1) (by_ := 8) (zc := [.int .i64 0]) S M rfl rfl (by kernel_rfl) rfl rfl (by omega) (by omega) (by omega) (by omega) ?_; clear S M a; intro a w8 b1 S M hB
 try simp only [Int.toNat_natCast, Int.reduceToNat, Nat.reduceMul] at S M
 refine st_alloc S M rfl rfl #[.slice none 0 0] (by kernel_rfl) ?_; clear S M a; intro a w9 bO S M hB
 refine qS (sz := 1) (us := [_]) S M 0 ?_; clear M; intro w10 M
 refine nxC (wp_seq (nxD (qR [2, 4, 1] S M ?_))); clear S a; intro a S
 refine qC (xs := [.tmp 34, .tmp 35]) S (qE Tryz.func143) rfl (followingJ n (k : Int) _) ?_
 rintro _ w11 ⟨bN, bF, rfl, M1⟩; refine ⟨_, rfl, ?_⟩; clear S a; intro a S; replace M := M.join M1; clear M1
 simp only [List.cons_append, List.nil_append] at M
 refine nxC (wp_block ?_)
 replace M := M.toRow (sz := 1) (m := 0) (cap := k) (xs := []) 3 rfl rfl (Nat.zero_le _) (by unfold maxLen; omega) (by rw [List.size_toArray, madeL_length]) rfl
 simp only [List.eraseIdx_cons_succ, List.eraseIdx_cons_zero] at M
 replace M := M.front 3 rfl
 simp only [List.eraseIdx_cons_succ, List.eraseIdx_cons_zero] at M
 refine wp_range (encs := encJ) (xs := seqsJ n k) S M rfl (enters_of Tryz.func158 (by decide) rfl) (following1_gen bN bF n k (by omega) (by omega)) (fun _ => rfl) (by kernel_rfl) (fun pre Hs => ∃ (v : Value) (lo hi : Nat), Hs = [.blk bO #[v] 186, rowE lo hi 3 1 v pre.length (pre.map fun x => .int .i64 x), .blk bN #[.int .i64 (k : Int)] 3, .blk bF #[.int .i64 n] 3, .blk bR #[.int .i64 0, .int .i64 0] 51, .blk bL #[.int .i64 t, .int .i64 n] 51]) (⟨_, _, _, rfl⟩) (fun pre Hs W ⟨v, lo, hi, e⟩ M => by subst e; exact ⟨M.blk 2 rfl, M.blk 3 rfl⟩) ?_ ?_
 ·intro lY pre x tX Hs wr BK a hx hI M S
  simp only [putsL, encJ] at S
  obtain ⟨v, lo, hi, rfl⟩ := hI
  have hpl : pre.length ≤ 24 := by
   have e := congrArg List.length hx
   simp [seqsJ] at e
   omega
  refine wpI_region (by kernel_rfl) (fun _ _ h => h) ?_
  refine qG [1] S ?_; clear S a; intro a S
  refine nxC ?_
  refine ⟨_, M, ?_⟩; clear M; intro wb BK M
  refine wpIn_block ?_
  refine wpI_region (by kernel_rfl) (fun _ _ h => h) ?_
  refine qR [2, 1] S M ?_; clear S a; intro a S
  refine st_lit (ps := [(0, .tmp 39)]) (e := 3) (sz := 1) (zl := [.int .i64 0]) (cs := [_]) S M rfl rfl (by kernel_rfl) rfl (rfl) ?_; clear S M a; intro a w12 bZ S M hB
  refine st_append (e := 3) (sz := 1) (by_ := 8) (zc := [.int .i64 0]) S M 3 rfl rfl (by kernel_rfl) rfl (by decide) rfl rfl rfl (show Rd _ _ _ 1 _ 1 [Value.int .i64 x] from M.sliceAt 0 rfl (M.cellsAt (k := 1) 0 rfl rfl) rfl (Nat.le_refl _) (by unfold maxLen; omega)) (rfl) (by omega) (by unfold maxLen; omega) ?_; clear S M a; intro a w13 vA loA hiA S M
  obtain ⟨aA, cA, rfl, -, -⟩ := (M.readAll 0 rfl (by unfold maxLen; omega)).form
  refine qS (sz := 1) (us := [_]) S M 3 ?_; clear M; intro w14 M
  refine wpList_nil (block_normal ?_)
  replace M := M.front 2 rfl
  simp only [List.eraseIdx_cons_succ, List.eraseIdx_cons_zero] at M
  skip
  replace M := M.drop 2
  simp only [List.eraseIdx_cons_succ, List.eraseIdx_cons_zero] at M
  replace M := M.ord [1, 2, 2] (by simp only [ordO, oG, oS, oE, oZ, oB] <;> rfl)
  refine ⟨_, M, .slice aA (pre.length + 1) cA, loA, hiA, ?_⟩
  rw [List.length_append, List.map_append]; rfl
 intro D1 wd Hs a hI M S
 obtain ⟨v, lo, hi, rfl⟩ := hI
 refine block_normal (then_normal (wp_seq (wp_regionKC (C := fun W => Blk W bL #[.int .i64 t, .int .i64 n] 51 ∧ Blk W bO #[v] 186) [8] #[false, false, false, false, false, false, false, false, false, false, false] rfl M (by kernel_rfl) ?_))); clear M; intro w15 M; have hC := And.intro (M.blk 6 rfl) (M.blk 1 rfl)
 refine kc_readC 0 S rfl hC (fun w _ => y_fieldAddr (k := 0) S (by kernel_rfl) rfl) ?_; clear S a; intro a S
 refine kc_readC 1 S rfl hC (fun w hC => y_load S (by kernel_rfl) rfl (hC.1.cells 0)) ?_; clear S a; intro a S
 refine kc_readC 2 S rfl hC (fun w _ => y_fieldAddr (k := 1) S (by kernel_rfl) rfl) ?_; clear S a; intro a S
 refine kc_readC 3 S rfl hC (fun w hC => y_load S (by kernel_rfl) rfl (hC.1.cells 1)) ?_; clear S a; intro a S
 refine kc_readC 4 S rfl hC (fun w _ => y_move S rfl) ?_; clear S a; intro a S
 (first | refine kc_readC 5 S rfl hC (fun w _ => y_addN S rfl rfl (by omega)) ?_ | refine kc_readC 5 S rfl hC (fun w _ => y_int S rfl rfl rfl) ?_); clear S a; intro a S
 refine kc_readC 6 S rfl hC (fun w _ => y_build (ps := [(0, .tmp 43), (1, .tmp 47)]) (pl := [(0, 1), (1, 1)]) (z := [.int .i64 0, .int .i64 0]) (cs := [_, _]) S (by kernel_rfl) rfl (rfl)) ?_; clear S a; intro a S
 refine kc_readC 7 S rfl hC (fun w hC => y_load S (by kernel_rfl) rfl (hC.2.cells 0)) ?_; clear S a; intro a S
 refine kc_one 8 rfl (by kernel_rfl) ?_
 refine qS (sz := 2) (us := [_, _]) S M 5 ?_; clear M; intro w16 M
 replace hC := And.intro (M.blk 6 rfl) (M.blk 1 rfl)
 refine wpList_nil ?_; refine then_normal ?_; refine ⟨fun h => absurd h (by decide), hC, ?_⟩
 refine kc_readC 9 S rfl hC (fun w _ => y_assign S rfl) ?_; clear S a; intro a S
 refine kc_readC 10 S rfl hC (fun w _ => y_assign S rfl) ?_; clear S a; intro a S
 refine kc_end (by kernel_rfl) ?_
 replace S := S.keep [0, 1, 2, 4, 17, 29, 7, 36, 5, 6]
 refine then_normal (wp_ret (end_mark S M 0 rfl ?_)); clear S M a; intro a wM S M
 simp only [List.eraseIdx_cons_succ, List.eraseIdx_cons_zero] at M
 refine end_plain ?_
 refine end_three S rfl (res_agg (cs := [_, _]) (by kernel_rfl) rfl rfl (M.cellsAt (k := 2) 4 rfl rfl)) (res_tmp rfl) (res_tmp rfl) ?_
 exact ⟨0, _, _, _, rfl, M.below, .inl ⟨rfl, by unfold fitsL; omega, rfl, rfl⟩⟩
end Go.Proofs.YtndabhdepjnbcaaGreat

namespace Go.Proofs.YtndabhdepjnbcaaGreat
open Go.RowKit Go.Sort
variable {ds : List Deferred}
variable {P : Program} {ops : Array Oper} {Q : Exit → Act → World → Prop} {md : Region.Mode} {rest : List Oper} {n d : Nat} {a : Act} {L : List (Nat × Value)} {w w0 : World} {v : Value} {o : Oper} {H : List Ent} {r : Option Nat}
def GenM {α : Type} (P : Program) (gf : FuncId) (lb : List Value) (encs : α → List Value) (xs : List α) (C : World → Prop) : Prop :=
 ∀ (l : Nat) (w0 : World) (I X : List α → List Ent → Prop) (w : World) (Hs : List Ent), (∀ pre Hs W, I pre Hs → Mem w0 W Hs → C W) →
  (∀ pre x t E Hs W, xs = pre ++ x :: t → I pre Hs → Mem w0 W (E ++ Hs) → Yld P l (encs x) W fun e W' => ∃ Hs', Mem w0 W' (E ++ Hs') ∧ ((e = .returned (.bool true) ∧ I (pre ++ [x]) Hs') ∨ (e = .returned (.bool false) ∧ X (pre ++ [x]) Hs'))) →
  I [] Hs → Mem w0 w Hs →
  CallsIn (Fnc none) 0 P gf ((.func (.yield l) #[] #[] :: lb).toArray) w fun e W => (∃ v, e = .returned v) ∧ ∃ Hs', Mem w0 W Hs' ∧ (I xs Hs' ∨ ∃ pre x t, xs = pre ++ x :: t ∧ X (pre ++ [x]) Hs')
def roundX (w0 : World) (T : List Ent) (J : List Ent → Prop) (K : Code → List Ent → Prop) : Exit → Act → World → Prop
 | .normal, _, W => ∃ Hs, Mem w0 W (Hs ++ T) ∧ J Hs
 | .ret, _, W => ∃ Hs, Mem w0 W (Hs ++ T) ∧ K .ret Hs
 | .exit id, _, W => ∃ Hs, Mem w0 W (Hs ++ T) ∧ K (.exit id) Hs
 | .goto t, _, W => ∃ Hs, Mem w0 W (Hs ++ T) ∧ K (.goto t) Hs
 | _, _, _ => False
theorem Mem.tailK {B : Ent} {Hs E : List Ent} (M : Mem w0 w (Hs ++ B :: E)) : Mem w0 w (B :: (Hs ++ E)) := M.perm List.perm_middle
theorem Mem.backK {B : Ent} {Hs E : List Ent} (M : Mem w0 w (B :: (Hs ++ E))) : Mem w0 w (Hs ++ B :: E) := M.perm List.perm_middle.symm
theorem Mem.turn {B : Ent} {Hs E : List Ent} (M : Mem w0 w (E ++ B :: Hs)) : Mem w0 w (Hs ++ B :: E) := (M.perm List.perm_append_comm).perm List.perm_middle.symm
theorem Mem.turnB {B : Ent} {Hs E : List Ent} (M : Mem w0 w (Hs ++ B :: E)) : Mem w0 w (E ++ B :: Hs) := (M.perm List.perm_append_comm).perm List.perm_middle.symm
theorem wp_rangeB {α : Type} {g : Operand} {ps : List Tmp} {assign body : Code} {gf : FuncId} {lb : List Value} {encs : α → List Value} {xs : List α} {C : World → Prop}
 (S : SeesD ds n a L) (M : Mem w0 w H) (hg : val L g = some (.func (.func gf) #[] lb.toArray)) (hE : Enters P gf) (G : GenM P gf lb encs xs C) (hps : ∀ x, (encs x).length = ps.length) (hpn : (ps.all fun p => Nat.blt p n) = true)
 (I : List α → List Ent → Prop) (X : Code → List α → List Ent → Prop) (h0 : I [] H) (hC : ∀ pre Hs W T, I pre Hs → Mem w0 W (Hs ++ T) → C W)
 (hround : ∀ (l : Nat) (pre : List α) (x : α) (t : List α) (Hs : List Ent) (W : World) (T : List Ent) (a' : Act), xs = pre ++ x :: t → I pre Hs → Mem w0 W (Hs ++ T) → Sees n a' (putsL ps (encs x) L) →
   assign.wpIn (Fnc (some l)) 0 P (Exit.then (fun a1 W1 => ∃ Hs1, Mem w0 W1 (Hs1 ++ T) ∧ ∀ (W2 : World) (T2 : List Ent), Mem w0 W2 (Hs1 ++ T2) → body.wpIn (Fnc (some l)) 0 P (roundX w0 T2 (I (pre ++ [x])) (fun c => X c (pre ++ [x]))) a1 W2) (fun _ _ _ => False)) a' W)
 (hdone : ∀ (D : Nat) (W : World) (Hs : List Ent) (a' : Act), I xs Hs → Mem w0 W (markE D :: Hs) → SeesD (markD D :: ds) n a' L → Q .normal a' W)
 (hstop : ∀ (D : Nat) (W : World) (Hs : List Ent) (a' : Act) (c : Code) (pre : List α) (x : α) (t : List α), xs = pre ++ x :: t → X c (pre ++ [x]) Hs → Mem w0 W (markE D :: Hs) → SeesD (markD D :: ds) n a' L → c.wp P Q a' W) :
 (Code.rangeFunc g ps.toArray assign body).wp P Q a w := by
 refine (wpIn_wide (n := 0)).1 (wpIn_rangeFunc fun fn _ => ?_)
 obtain ⟨rec, hrec⟩ : ∃ rec : LoopState → Option Code → Loop, rec = fun st pe => { state := st, pending := pe, fn, tmps := a.tmps, params := ps.toArray, assign, body, defers := w.heap.size } := ⟨_, rfl⟩
 obtain ⟨W1, hW1⟩ : ∃ W1, (w.alloc (.deferred (some []))).alloc (.loop (rec .ready none)) = W1 := ⟨_, rfl⟩
 have M1 : Mem w0 W1 (kE w.heap.size (rec .ready none) :: H) := by
  rw [← hW1]
  refine M.push (ext_alloc (ext_alloc (ext_refl _) _) _) _ (fun W' hs => ⟨?_, ?_⟩) (Nat.le_refl _) (by simp [Ent.hi])
  ·rw [hs w.heap.size (Nat.le_refl _) (by omega)]; exact (Below.heap_alloc _ _ _ (by simp)).trans (World.alloc_heap_new w _)
  ·rw [hs (w.heap.size + 1) (by omega) (by omega)]
   have := World.alloc_heap_new (w.alloc (.deferred (some []))) (.loop (rec .ready none))
   rwa [World.size_alloc] at this
 have hev : a.eval g = .func (.func gf) #[] lb.toArray := S.eval hg
 have fin : ∀ (R R' : Loop) (Hs : List Ent) (W : World), Mem w0 W (kE w.heap.size R :: Hs) → Mem w0 (W.putObj (w.heap.size + 1) (.loop R')) (markE w.heap.size :: Hs) := fun R R' Hs W M2 => by
  have M3 := (M2.keep (R' := R')).2
  have h := M3.own 0 rfl
  refine M3.change (e' := markE w.heap.size) 0 rfl rfl rfl (fun W' hs => ?_) rfl rfl rfl rfl fun _ _ => rfl
  show W'.heap[w.heap.size]? = _
  rw [hs w.heap.size (Nat.le_refl _) (by omega)]; exact h.1
 refine ⟨w.heap.size + 1, [markD w.heap.size], W1, { target := .fn (.func gf) lb.toArray, args := #[.func (.yield (w.heap.size + 1)) #[] #[]] }, W1, gf, (.func (.yield (w.heap.size + 1)) #[] #[] :: lb).toArray, W1, ?_, ?_, fun _ _ => trivial, ?_, fun h => (by cases h), ?_⟩
 ·rw [← hW1, hrec]; exact run_enterLoop_outer _ _ _ _ _
 ·simp only [resolve, hev]
  simp [go_sem]
 ·have := hE ((.func (.yield (w.heap.size + 1)) #[] #[] :: lb).toArray) W1
  simpa [invoke, go_sem] using this
 ·refine CallsIn.mono (G (w.heap.size + 1) w0 (fun pre Hs => ∃ H1, Hs = kE w.heap.size (rec .ready none) :: H1 ∧ I pre H1) (fun pre Hs => ∃ c H1, Hs = kE w.heap.size (rec .done (some c)) :: H1 ∧ X c pre H1) W1 _ ?_ ?_ ⟨H, rfl, h0⟩ M1) ?_
  ·rintro pre Hs W ⟨H1, rfl, hI⟩ M2
   exact hC pre H1 W [kE w.heap.size (rec .ready none)] hI (Mem.turn (E := []) M2)
  ·rintro pre x t E Hs W hx ⟨H1, rfl, hI⟩ MW
   have MW2 := MW.turn
   have hl := (Mem.keep (R' := rec .ready none) MW2.tailK).1
   have hy := run_yield (P := P) (args := (encs x).toArray) hl (by rw [hrec]; simp [hps x])
   rw [hrec] at hy
   refine ⟨fn, _, assign, body, hy, roundIn_of_wpIn trivial ?_⟩
   have hS : Sees n { tmps := (ps.toArray.zip (encs x).toArray).foldl (fun t (p, v) => t.setIfInBounds p v) a.tmps, defers := [] } (putsL ps (encs x) L) := by
    have h1 := sees_puts ps (encs x) hpn S
    have e : (ps.toArray.zip (encs x).toArray).foldl (fun t (p, v) => t.setIfInBounds p v) a.tmps = (ps.zip (encs x)).foldl (fun t (q : Nat × Value) => t.setIfInBounds q.1 q.2) a.tmps := by
     rw [List.zip_toArray, List.foldl_toArray]
    rw [e]
    exact ⟨h1.size, rfl, h1.at_, h1.lt⟩
   refine wpIn_mono (hround (w.heap.size + 1) pre x t H1 W (kE w.heap.size (rec .ready none) :: E) _ hx hI MW2 hS) fun e a1 W2 h => ?_
   cases e with
   | normal =>
     obtain ⟨Hs1, M2, hb⟩ := h
     obtain ⟨hl2, M3⟩ := Mem.keep (R' := { rec .ready none with state := .busy }) M2.tailK
     refine ⟨_, run_beginRound hl2 (by rw [hrec]), ?_⟩
     refine wpIn_mono (hb _ _ M3.backK) fun e a3 W3 h3 => ?_
     have ends : ∀ (jump : Option Code) (Hs3 : List Ent), Mem w0 W3 (Hs3 ++ kE w.heap.size { rec .ready none with state := .busy } :: E) → ∃ W', (Instr.endRound (w.heap.size + 1) jump).run P W3 = .ok (.bool jump.isNone) W' ∧ Mem w0 W' (E ++ kE w.heap.size (rec (if jump.isNone then .ready else .done) jump) :: Hs3) := fun jump Hs3 M4 => by
      obtain ⟨hl4, M5⟩ := Mem.keep (R' := rec (if jump.isNone then .ready else .done) jump) M4.tailK
      have he := run_endRound (P := P) jump hl4
      have e2 : ({ ({ rec .ready none with state := LoopState.busy } : Loop) with state := if jump.isNone then LoopState.ready else LoopState.done, pending := jump } : Loop) = rec (if jump.isNone then .ready else .done) jump := by rw [hrec]
      rw [e2] at he
      exact ⟨_, he, M5.backK.turnB⟩
     cases e with
     | normal =>
       obtain ⟨Hs3, M4, h4⟩ := h3
       obtain ⟨W', he, M5⟩ := ends none Hs3 M4
       exact ⟨_, _, he, _, M5, .inl ⟨rfl, Hs3, rfl, h4⟩⟩
     | ret =>
       obtain ⟨Hs3, M4, h4⟩ := h3
       obtain ⟨W', he, M5⟩ := ends (some .ret) Hs3 M4
       exact ⟨_, _, he, _, M5, .inr ⟨rfl, _, Hs3, rfl, h4⟩⟩
     | exit id =>
       obtain ⟨Hs3, M4, h4⟩ := h3
       obtain ⟨W', he, M5⟩ := ends (some (.exit id)) Hs3 M4
       exact ⟨_, _, he, _, M5, .inr ⟨rfl, _, Hs3, rfl, h4⟩⟩
     | goto t =>
       obtain ⟨Hs3, M4, h4⟩ := h3
       obtain ⟨W', he, M5⟩ := ends (some (.goto t)) Hs3 M4
       exact ⟨_, _, he, _, M5, .inr ⟨rfl, _, Hs3, rfl, h4⟩⟩
     | panic ch => exact h3.elim
     | outgrown => exact h3.elim
   | exit id => exact h.elim
   | goto t => exact h.elim
   | ret => exact h.elim
   | panic ch => exact h.elim
   | outgrown => exact h.elim
  ·rintro e W2 ⟨⟨v, rfl⟩, Hs, M2, hI⟩
   rcases hI with ⟨H1, rfl, hI⟩ | ⟨pre, x, t, hx, c, H1, rfl, hX⟩
   ·obtain ⟨hl, -⟩ := Mem.keep (R' := rec .ready none) M2
    have he := run_endLoop (P := P) hl (by rw [hrec]; simp)
    have he' : (Instr.endLoop (w.heap.size + 1)).run P W2 = .ok none (W2.putObj (w.heap.size + 1) (.loop { rec .ready none with state := .exhausted })) := he.trans (by rw [hrec])
    exact ⟨none, _, he', hdone w.heap.size _ H1 _ hI (fin _ _ _ _ M2) ⟨S.size, by rw [← S.defers]; rfl, S.at_, S.lt⟩⟩
   ·obtain ⟨hl, -⟩ := Mem.keep (R' := rec .ready none) M2
    have he := run_endLoop (P := P) hl (by rw [hrec]; simp)
    have he' : (Instr.endLoop (w.heap.size + 1)).run P W2 = .ok (some c) (W2.putObj (w.heap.size + 1) (.loop { rec .done (some c) with state := .exhausted })) := he.trans (by rw [hrec])
    exact ⟨some c, _, he', (wpIn_wide (n := 0)).2 (hstop w.heap.size _ H1 _ c pre x t hx hX (fin _ _ _ _ M2) ⟨S.size, by rw [← S.defers]; rfl, S.at_, S.lt⟩)⟩
theorem opIn_of {l : List Oper} {K : Act → World → Prop} {i : Nat} (hn : noDefer l = true) (ho : ∀ a w, ¬ Q .outgrown a w) (h : wpOp P l.toArray Q i K a w) : wpOpIn (Fnc r) 0 P l.toArray Q i K a w := by
 unfold wpOp at h
 unfold wpOpIn
 split
 ·rename_i he; simp only [he] at h; exact h
 ·rename_i o he
  simp only [he] at h
  have hm : o ∈ l := by
   have := Array.mem_of_getElem? he
   simpa using this
  split
  ·rename_i hw
   simp only [hw, if_true] at h
   rcases h with h | ⟨-, a', w', h⟩
   ·exact oper_in (noDefer_spec hn hm) h
   ·exact absurd h (ho a' w')
  ·rename_i hw
   simp only [hw] at h
   exact ⟨fun _ _ => trivial, h⟩
theorem anyIn_of_head {l : List Oper} {C : World → Prop} {n g : Nat} {L : Array Bool → Act → Prop} (hn : noDefer l = true) (ho : ∀ a w, ¬ Q .outgrown a w) (hL : ∀ listed a w, C w → L listed a → wpAnyIn (Fnc r) 0 P md l.toArray Q g listed a w) :
 ∀ (f : Nat) (listed : Array Bool) (a : Act) (w : World), C w → headQ P md l.toArray C n L f listed a → wpAnyIn (Fnc r) 0 P md l.toArray Q (f + g) listed a w
 | 0, listed, a, w, hw, h => by rw [Nat.zero_add]; exact hL _ _ _ hw h
 | f + 1, listed, a, w, hw, h => by
   rw [show f + 1 + g = (f + g) + 1 by omega]
   exact ⟨fun h0 => absurd h0 h.1, fun i hi => opIn_of hn ho (wpOp_of_qOp hw (fun a' w' hw' h' => anyIn_of_head hn ho hL f _ a' w' hw' h') (h.2 i hi).2)⟩
theorem anyIn_of_seq {ops : Array Oper} : ∀ (l : List Oper) (k : Nat) (listed : Array Bool) (a : Act) (w : World), (∀ j, l[j]? = ops[k + j]?) →
 Region.seqB md ops l.length k listed = true → wpListIn (Fnc r) 0 P ops Q l a w → wpAnyIn (Fnc r) 0 P md ops Q l.length listed a w
 | [], _, _, _, _, _, hB, h => ⟨by simpa [Region.seqB] using hB, h⟩
 | o :: l, k, listed, a, w, hl, hB, h => by
   have h0 : ops[k]? = some o := by simpa using (hl 0).symm
   simp only [List.length_cons, Region.seqB, Bool.and_eq_true, decide_eq_true_eq] at hB
   refine ⟨fun h1 => (by rw [hB.1] at h1; cases h1), fun i hi => ?_⟩
   rw [hB.1] at hi
   have hik : i = k := by simpa using hi
   subst hik
   have go : ∀ a' w', wpListIn (Fnc r) 0 P ops Q l a' w' → wpAnyIn (Fnc r) 0 P md ops Q l.length (listed.setIfInBounds i true) a' w' := fun a' w' h' =>
    anyIn_of_seq l (i + 1) _ a' w' (fun j => by have := hl (j + 1); simpa [Nat.add_assoc, Nat.add_comm 1 j] using this) hB.2 h'
   unfold wpOpIn
   simp only [h0]
   unfold wpListIn at h
   split
   ·rename_i hw
    rw [if_pos hw] at h
    exact Oper.wpIn_mono go h
   ·rename_i hw
    rw [if_neg hw] at h
    exact ⟨h.1, go _ _ h.2⟩
theorem wpI_tail {id : Nat} {l : List Oper} (m : Nat) (M : Mem w0 w H) (hm : P.follows .mixedOrders = true) (hB : Region.lexTailB .any l.toArray m = true) (hnd : noDefer l = true) (ho : ∀ a w, ¬ Q .outgrown a w)
 (h : wpQuiet P l.toArray (fun w' => Mem w0 w' H) (fun a' => ∀ w', Mem w0 w' H → wpListIn (Fnc r) 0 P l.toArray Q (l.drop m) a' w') (l.take m) a) : (Code.region id l.toArray true).wpIn (Fnc r) 0 P Q a w := by
 simp only [Region.lexTailB, Bool.and_eq_true, decide_eq_true_eq] at hB
 obtain ⟨⟨⟨⟨hsel, hn⟩, hs⟩, hc⟩, hlex⟩ := hB
 have hn' : m < l.length := by simpa using hn
 have htl : (l.take m).length = m := by simp; omega
 have hdl : (l.drop m).length = l.toArray.size - m := by simp
 have inv0 : HeadInv .any l.toArray m (Array.replicate l.toArray.size false) :=
  ⟨by simp, fun j oj _ hl => (by rw [getD_replicate_false] at hl; cases hl), fun t _ ht => getD_in (by simpa using ht) (getD_replicate_false _ _)⟩
 have HH := headQ_lex (md := .any) (g := l.toArray.size - m) hsel hs hc hn (l.take m) 0 _ a (fun j hj => by
  have hj' : j < m := by rw [htl] at hj; exact hj
  simp [hj']) (by simpa using htl) inv0 (by rw [htl]; exact hlex) h
 refine wpIn_region_any hm ?_
 have := anyIn_of_head (Q := Q) (r := r) (g := l.toArray.size - m) hnd ho (fun listed a' w' hw' hL => by
  have := anyIn_of_seq (md := .any) (Q := Q) (r := r) (ops := l.toArray) (l.drop m) m listed a' w' (fun j => by simp [List.getElem?_drop]) (by rw [hdl]; exact hL.1) (hL.2 w' hw')
  rwa [hdl] at this) _ _ _ _ (M.drew) HH
 rw [htl, show m + (l.toArray.size - m) = l.toArray.size by omega] at this
 exact this
end Go.Proofs.YtndabhdepjnbcaaGreat

namespace Go.Proofs.YtndabhdepjnbcaaGreat
open Go.RowKit Go.Sort
variable {ds : List Deferred}
variable {P : Program} {ops : Array Oper} {Q : Exit → Act → World → Prop} {md : Region.Mode} {rest : List Oper} {n d : Nat} {a : Act} {L : List (Nat × Value)} {w w0 : World} {v : Value} {o : Oper} {H : List Ent} {r : Option Nat}
def GenV {α : Type} (P : Program) (gf : FuncId) (lb : List Value) (V : α → List Value → List Ent → Prop) (xs : List α) (C : World → Prop) : Prop :=
 ∀ (l : Nat) (w0 : World) (I X : List α → List Ent → Prop) (w : World) (Hs : List Ent), (∀ pre Hs W, I pre Hs → Mem w0 W Hs → C W) →
  (∀ pre x t E vs Hs W, xs = pre ++ x :: t → V x vs E → I pre Hs → Mem w0 W (E ++ Hs) → Yld P l vs W fun e W' => ∃ Hs', Mem w0 W' (E ++ Hs') ∧ ((e = .returned (.bool true) ∧ I (pre ++ [x]) Hs') ∨ (e = .returned (.bool false) ∧ X (pre ++ [x]) Hs'))) →
  I [] Hs → Mem w0 w Hs →
  CallsIn (Fnc none) 0 P gf ((.func (.yield l) #[] #[] :: lb).toArray) w fun e W => (∃ v, e = .returned v) ∧ ∃ Hs', Mem w0 W Hs' ∧ (I xs Hs' ∨ ∃ pre x t, xs = pre ++ x :: t ∧ X (pre ++ [x]) Hs')
theorem wp_rangeV {α : Type} {g : Operand} {ps : List Tmp} {assign body : Code} {gf : FuncId} {lb : List Value} {V : α → List Value → List Ent → Prop} {xs : List α} {C : World → Prop}
 (S : SeesD ds n a L) (M : Mem w0 w H) (hg : val L g = some (.func (.func gf) #[] lb.toArray)) (hE : Enters P gf) (G : GenV P gf lb V xs C) (hps : ∀ x vs E, V x vs E → vs.length = ps.length) (hpn : (ps.all fun p => Nat.blt p n) = true)
 (I : List α → List Ent → Prop) (X : Code → List α → List Ent → Prop) (h0 : I [] H) (hC : ∀ pre Hs W T, I pre Hs → Mem w0 W (Hs ++ T) → C W)
 (hround : ∀ (l : Nat) (pre : List α) (x : α) (t : List α) (Hs E : List Ent) (vs : List Value) (W : World) (B : Ent) (a' : Act), xs = pre ++ x :: t → V x vs E → I pre Hs → Mem w0 W (Hs ++ B :: E) → Sees n a' (putsL ps vs L) →
   assign.wpIn (Fnc (some l)) 0 P (Exit.then (fun a1 W1 => ∃ Hs1, Mem w0 W1 (Hs1 ++ B :: E) ∧ ∀ (W2 : World) (B2 : Ent), Mem w0 W2 (Hs1 ++ B2 :: E) → body.wpIn (Fnc (some l)) 0 P (roundX w0 (B2 :: E) (I (pre ++ [x])) (fun c => X c (pre ++ [x]))) a1 W2) (fun _ _ _ => False)) a' W)
 (hdone : ∀ (D : Nat) (W : World) (Hs : List Ent) (a' : Act), I xs Hs → Mem w0 W (markE D :: Hs) → SeesD (markD D :: ds) n a' L → Q .normal a' W)
 (hstop : ∀ (D : Nat) (W : World) (Hs : List Ent) (a' : Act) (c : Code) (pre : List α) (x : α) (t : List α), xs = pre ++ x :: t → X c (pre ++ [x]) Hs → Mem w0 W (markE D :: Hs) → SeesD (markD D :: ds) n a' L → c.wp P Q a' W) :
 (Code.rangeFunc g ps.toArray assign body).wp P Q a w := by
 refine (wpIn_wide (n := 0)).1 (wpIn_rangeFunc fun fn _ => ?_)
 obtain ⟨rec, hrec⟩ : ∃ rec : LoopState → Option Code → Loop, rec = fun st pe => { state := st, pending := pe, fn, tmps := a.tmps, params := ps.toArray, assign, body, defers := w.heap.size } := ⟨_, rfl⟩
 obtain ⟨W1, hW1⟩ : ∃ W1, (w.alloc (.deferred (some []))).alloc (.loop (rec .ready none)) = W1 := ⟨_, rfl⟩
 have M1 : Mem w0 W1 (kE w.heap.size (rec .ready none) :: H) := by
  rw [← hW1]
  refine M.push (ext_alloc (ext_alloc (ext_refl _) _) _) _ (fun W' hs => ⟨?_, ?_⟩) (Nat.le_refl _) (by simp [Ent.hi])
  ·rw [hs w.heap.size (Nat.le_refl _) (by omega)]; exact (Below.heap_alloc _ _ _ (by simp)).trans (World.alloc_heap_new w _)
  ·rw [hs (w.heap.size + 1) (by omega) (by omega)]
   have := World.alloc_heap_new (w.alloc (.deferred (some []))) (.loop (rec .ready none))
   rwa [World.size_alloc] at this
 have hev : a.eval g = .func (.func gf) #[] lb.toArray := S.eval hg
 have fin : ∀ (R R' : Loop) (Hs : List Ent) (W : World), Mem w0 W (kE w.heap.size R :: Hs) → Mem w0 (W.putObj (w.heap.size + 1) (.loop R')) (markE w.heap.size :: Hs) := fun R R' Hs W M2 => by
  have M3 := (M2.keep (R' := R')).2
  have h := M3.own 0 rfl
  refine M3.change (e' := markE w.heap.size) 0 rfl rfl rfl (fun W' hs => ?_) rfl rfl rfl rfl fun _ _ => rfl
  show W'.heap[w.heap.size]? = _
  rw [hs w.heap.size (Nat.le_refl _) (by omega)]; exact h.1
 refine ⟨w.heap.size + 1, [markD w.heap.size], W1, { target := .fn (.func gf) lb.toArray, args := #[.func (.yield (w.heap.size + 1)) #[] #[]] }, W1, gf, (.func (.yield (w.heap.size + 1)) #[] #[] :: lb).toArray, W1, ?_, ?_, fun _ _ => trivial, ?_, fun h => (by cases h), ?_⟩
 ·rw [← hW1, hrec]; exact run_enterLoop_outer _ _ _ _ _
 ·simp only [resolve, hev]
  simp [go_sem]
 ·have := hE ((.func (.yield (w.heap.size + 1)) #[] #[] :: lb).toArray) W1
  simpa [invoke, go_sem] using this
 ·refine CallsIn.mono (G (w.heap.size + 1) w0 (fun pre Hs => ∃ H1, Hs = kE w.heap.size (rec .ready none) :: H1 ∧ I pre H1) (fun pre Hs => ∃ c H1, Hs = kE w.heap.size (rec .done (some c)) :: H1 ∧ X c pre H1) W1 _ ?_ ?_ ⟨H, rfl, h0⟩ M1) ?_
  ·rintro pre Hs W ⟨H1, rfl, hI⟩ M2
   exact hC pre H1 W [kE w.heap.size (rec .ready none)] hI (Mem.turn (E := []) M2)
  ·rintro pre x t E vs Hs W hx hV ⟨H1, rfl, hI⟩ MW
   have MW2 := MW.turn
   have hl := (Mem.keep (R' := rec .ready none) MW2.tailK).1
   have hy := run_yield (P := P) (args := vs.toArray) hl (by rw [hrec]; simp [hps x vs E hV])
   rw [hrec] at hy
   refine ⟨fn, _, assign, body, hy, roundIn_of_wpIn trivial ?_⟩
   have hS : Sees n { tmps := (ps.toArray.zip (vs).toArray).foldl (fun t (p, v) => t.setIfInBounds p v) a.tmps, defers := [] } (putsL ps (vs) L) := by
    have h1 := sees_puts ps (vs) hpn S
    have e : (ps.toArray.zip (vs).toArray).foldl (fun t (p, v) => t.setIfInBounds p v) a.tmps = (ps.zip (vs)).foldl (fun t (q : Nat × Value) => t.setIfInBounds q.1 q.2) a.tmps := by
     rw [List.zip_toArray, List.foldl_toArray]
    rw [e]
    exact ⟨h1.size, rfl, h1.at_, h1.lt⟩
   refine wpIn_mono (hround (w.heap.size + 1) pre x t H1 E vs W (kE w.heap.size (rec .ready none)) _ hx hV hI MW2 hS) fun e a1 W2 h => ?_
   cases e with
   | normal =>
     obtain ⟨Hs1, M2, hb⟩ := h
     obtain ⟨hl2, M3⟩ := Mem.keep (R' := { rec .ready none with state := .busy }) M2.tailK
     refine ⟨_, run_beginRound hl2 (by rw [hrec]), ?_⟩
     refine wpIn_mono (hb _ _ M3.backK) fun e a3 W3 h3 => ?_
     have ends : ∀ (jump : Option Code) (Hs3 : List Ent), Mem w0 W3 (Hs3 ++ kE w.heap.size { rec .ready none with state := .busy } :: E) → ∃ W', (Instr.endRound (w.heap.size + 1) jump).run P W3 = .ok (.bool jump.isNone) W' ∧ Mem w0 W' (E ++ kE w.heap.size (rec (if jump.isNone then .ready else .done) jump) :: Hs3) := fun jump Hs3 M4 => by
      obtain ⟨hl4, M5⟩ := Mem.keep (R' := rec (if jump.isNone then .ready else .done) jump) M4.tailK
      have he := run_endRound (P := P) jump hl4
      have e2 : ({ ({ rec .ready none with state := LoopState.busy } : Loop) with state := if jump.isNone then LoopState.ready else LoopState.done, pending := jump } : Loop) = rec (if jump.isNone then .ready else .done) jump := by rw [hrec]
      rw [e2] at he
      exact ⟨_, he, M5.backK.turnB⟩
     cases e with
     | normal =>
       obtain ⟨Hs3, M4, h4⟩ := h3
       obtain ⟨W', he, M5⟩ := ends none Hs3 M4
       exact ⟨_, _, he, _, M5, .inl ⟨rfl, Hs3, rfl, h4⟩⟩
     | ret =>
       obtain ⟨Hs3, M4, h4⟩ := h3
       obtain ⟨W', he, M5⟩ := ends (some .ret) Hs3 M4
       exact ⟨_, _, he, _, M5, .inr ⟨rfl, _, Hs3, rfl, h4⟩⟩
     | exit id =>
       obtain ⟨Hs3, M4, h4⟩ := h3
       obtain ⟨W', he, M5⟩ := ends (some (.exit id)) Hs3 M4
       exact ⟨_, _, he, _, M5, .inr ⟨rfl, _, Hs3, rfl, h4⟩⟩
     | goto t =>
       obtain ⟨Hs3, M4, h4⟩ := h3
       obtain ⟨W', he, M5⟩ := ends (some (.goto t)) Hs3 M4
       exact ⟨_, _, he, _, M5, .inr ⟨rfl, _, Hs3, rfl, h4⟩⟩
     | panic ch => exact h3.elim
     | outgrown => exact h3.elim
   | exit id => exact h.elim
   | goto t => exact h.elim
   | ret => exact h.elim
   | panic ch => exact h.elim
   | outgrown => exact h.elim
  ·rintro e W2 ⟨⟨v, rfl⟩, Hs, M2, hI⟩
   rcases hI with ⟨H1, rfl, hI⟩ | ⟨pre, x, t, hx, c, H1, rfl, hX⟩
   ·obtain ⟨hl, -⟩ := Mem.keep (R' := rec .ready none) M2
    have he := run_endLoop (P := P) hl (by rw [hrec]; simp)
    have he' : (Instr.endLoop (w.heap.size + 1)).run P W2 = .ok none (W2.putObj (w.heap.size + 1) (.loop { rec .ready none with state := .exhausted })) := he.trans (by rw [hrec])
    exact ⟨none, _, he', hdone w.heap.size _ H1 _ hI (fin _ _ _ _ M2) ⟨S.size, by rw [← S.defers]; rfl, S.at_, S.lt⟩⟩
   ·obtain ⟨hl, -⟩ := Mem.keep (R' := rec .ready none) M2
    have he := run_endLoop (P := P) hl (by rw [hrec]; simp)
    have he' : (Instr.endLoop (w.heap.size + 1)).run P W2 = .ok (some c) (W2.putObj (w.heap.size + 1) (.loop { rec .done (some c) with state := .exhausted })) := he.trans (by rw [hrec])
    exact ⟨some c, _, he', (wpIn_wide (n := 0)).2 (hstop w.heap.size _ H1 _ c pre x t hx hX (fin _ _ _ _ M2) ⟨S.size, by rw [← S.defers]; rfl, S.at_, S.lt⟩)⟩
end Go.Proofs.YtndabhdepjnbcaaGreat

namespace Go.Proofs.YtndabhdepjnbcaaGreat
open Go.RowKit Go.Sort
def isF : Value → Bool
 | .nilFunc | .func .. => true
 | _ => false
def isNilF : Value → Bool
 | .nilFunc => true
 | _ => false
theorem equalF {P : Program} {v : Value} {xt : TypeId} {ps rs : Array TypeId} {va : Bool} (d : Nat) (hU : P.underlying xt = some (.func ps rs va)) (hv : isF v = true) (w : World) : (Op.equalIn (d + 1) xt v .nilFunc).run P w = .ok (isNilF v) w := by
 match v, hv with
 | .nilFunc, _ => simp only [Op.equalIn, Sem.run_bind, run_underlying hU, Result.andThen_ok, Sem.run_pure, isNilF]
 | .func f fi ca, _ => simp only [Op.equalIn, Sem.run_bind, run_underlying hU, Result.andThen_ok, Sem.run_pure, isNilF]
theorem y_eqlF {P : Program} {n : Nat} {a : Act} {L : List (Nat × Value)} {w : World} {x : Operand} {v : Value} {xt : TypeId} {ps rs : Array TypeId} {va : Bool} (hU : P.underlying xt = some (.func ps rs va)) (hG : P.eqGuardType P.depth xt = false) (S : Sees n a L) (hx : val L x = some v) (hv : isF v = true)
 {d : Option Tmp} {yt t : TypeId} {p : String} {e : Array Edge} {g : Option (Nat × Bool)} : Yields P a ⟨d, .binOp .eql xt x (.const .nilFunc) yt, t, p, e, g⟩ w (.bool (isNilF v)) := by
 have h : (Op.equalIn (9999 + 1) xt v .nilFunc).run P w = .ok (isNilF v) w := equalF 9999 hU hv w
 unfold Yields execOp
 have hc : a.eval (.const .nilFunc) = .nilFunc := rfl
 have hb : (binOp .eql xt v .nilFunc).run P w = .ok (.bool (isNilF v)) w := by
  have e : binOp .eql xt v .nilFunc = (do pure (.bool (← Op.equalIn (9999 + 1) xt v .nilFunc))) := match v, hv with
   | .nilFunc, _ => rfl
   | .func _ _ _, _ => rfl
  rw [e, Sem.run_bind, h]; rfl
 simp only [S.eval hx, hc, eqGuard, Sem.run_bind]
 simp [hG, hb, go_sem]
theorem fillL_one {pl : Nat → Option (Nat × Nat)} {l us : List Value} {i off sz : Nat} {v : Value} (hp : pl i = some (off, sz)) (hu : v.cells.toList = us) (hsz : us.length = sz) (hle : off + sz ≤ l.length) : fillL pl l [(i, v)] = some (putL l off us) := by
 subst hu
 simp only [fillL, hp]
 have h1 : Nat.beq v.cells.toList.length sz = true := by rw [hsz]; exact Nat.beq_refl sz
 have h2 : Nat.ble (off + sz) l.length = true := Nat.ble_eq_true_of_le hle
 rw [h1, h2]; rfl
end Go.Proofs.YtndabhdepjnbcaaGreat

namespace Go.Proofs.YtndabhdepjnbcaaGreat
open Go.RowKit Go.Sort
def DkW (b : Nat) (S : DS) (W : World) : Prop := ∃ wc A E, DkE b S E ∧ Mem wc W (A ++ E)
structure SecC (b bf bd : Nat) (tail : Int) (S : DS) (W : World) : Prop where
 disk : DkW b S W
 f : Blk W bf #[.int .i64 tail] 3
 d : Blk W bd #[.pointer (some ⟨b, 0, none⟩)] 38
def secAt (S : DS) (tail : Int) (i : Nat) : List UInt8 := S.get (2 + (tail + i) % 24).toNat
def secsOf (S : DS) (tail : Int) : List (List UInt8) := (List.range 24).map (secAt S tail)
def secN (tail : Int) : Nat := min 24 (1099511627777 - tail).toNat
def secsG (S : DS) (tail : Int) : List (List UInt8) := (List.range (secN tail)).map (secAt S tail)
theorem secsG_eq (S : DS) {tail : Int} (h : tail ≤ 4294967296) : secsG S tail = secsOf S tail := by
 unfold secsG secsOf
 rw [show secN tail = 24 by unfold secN; omega]
theorem secsG_len (S : DS) (tail : Int) : (secsG S tail).length = secN tail := by simp [secsG]
def secV (x : List UInt8) (vs : List Value) (E : List Ent) : Prop := ∃ v lo hi, vs = [v, .int .i64 0] ∧ E = [rowE lo hi 5 1 v x.length (bcells x)] ∧ x.length = 64
theorem range_at {α : Type} (f : Nat → α) {k n : Nat} (h : k < n) : ∃ t, (List.range n).map f = (List.range k).map f ++ f k :: t := by
 refine ⟨((List.range n).map f).drop (k + 1), ?_⟩
 have hl : ((List.range n).map f).length = n := by simp
 have ht : ((List.range n).map f).take k = (List.range k).map f := by
  rw [← List.map_take, List.take_range, Nat.min_eq_left (by omega)]
 conv => lhs; rw [← List.take_append_drop k ((List.range n).map f), List.drop_eq_getElem_cons (by omega), ht]
 congr 2
 simp
theorem range_snoc {α : Type} (f : Nat → α) (k : Nat) : (List.range (k + 1)).map f = (List.range k).map f ++ [f k] := by simp [List.range_succ]
set_option maxHeartbeats 2000000 in
theorem sectors1_gen (b bf bd : Nat) (tail : Int) (S0 : DS) (hup : S0.down = false) (hw : ∀ k, (S0.cache k).length ≤ 1000000) (ht : 1 ≤ tail ∧ tail ≤ 1099511627776) : GenV Tryz.prog 153 [.pointer (some ⟨bf, 0, none⟩), .pointer (some ⟨bd, 0, none⟩)] secV (secsG S0 tail) (SecC b bf bd tail S0) := by
 intro ll w0 I X w Hs0 hC hY h0 M
 refine calls_enterG Tryz.func153 rfl 36 rfl rfl ?_; intro a S
 refine wpIn_seq ?_
 refine wpI_region (by kernel_rfl) (by rintro _ _ ⟨⟨_, h⟩, -⟩; cases h) ?_
 refine qG [1] S ?_; clear S a; intro a S
 refine nxC (wpIn_block ?_)
 refine wpI_loop_g (fun m a w' => ∃ (i : Nat) (Hs : List Ent), i ≤ secN tail ∧ m = 24 - i ∧ I ((List.range i).map (secAt S0 tail)) Hs ∧ Sees 36 a [(0, .func (.yield ll) #[] #[]), (1, .pointer (some ⟨bf, 0, none⟩)), (2, .pointer (some ⟨bd, 0, none⟩)), (8, .int .i64 (i : Int))] ∧ Mem w0 w' Hs) (24) ?_ ?_
 ·skip
  exact ⟨0, Hs0, Nat.zero_le _, rfl, h0, S.sub _ rfl, M⟩
 clear S M a; intro m a wl
 rintro ⟨i, Hs, hi', rfl, hI, S, M⟩
 refine wpIn_seq ?_
 refine wpI_region (by kernel_rfl) (by rintro _ _ ⟨⟨_, h⟩, -⟩; cases h) ?_
 refine qG [1] S ?_; clear S a; intro a S
 refine nxC (wpIn_seq ?_)
 refine st_fi (t := 9) S rfl ?_ ?_
 ·clear S; intro h9 S
  refine stI_condF S rfl ?_
  refine wpIn_exit ?_
  refine then_exit (then_exit (block_hit (end_noneN S rfl ?_)))
  obtain rfl : i = secN tail := by
   unfold secN at hi' ⊢
   omega
  exact ⟨⟨_, rfl⟩, Hs, M, .inl hI⟩
 clear S; intro h9 S
 refine stI_condT S rfl ?_
 refine wpIn_skip ?_
 refine then_normal (wpIn_seq ?_)
 refine wpIn_block ?_
 refine wpIn_seq ?_
 have hlt : i < 24 := by omega
 refine wpI_region (by kernel_rfl) (by rintro _ _ ⟨⟨_, h⟩, -⟩; cases h) ?_
 refine qG [1, 1] S ?_; clear S a; intro a S
 refine nxC (wpIn_seq ?_)
 refine wpI_region (by kernel_rfl) (by rintro _ _ ⟨⟨_, h⟩, -⟩; cases h) ?_
 refine qY S (y_load S (by kernel_rfl) rfl (((hC _ _ _ hI M).f).cells 0)) ?_; clear S a; intro a S
 refine qG [1] S ?_; clear S a; intro a S
 (first | refine qY S (y_addN S rfl rfl (by omega)) ?_ | refine qY S (y_int S rfl rfl rfl) ?_); clear S a; intro a S
 refine qQ (xs := [.tmp 14]) S (qE Tryz.func108) rfl (PlaceJ (tail + (i : Int)) _) M ?_; clear S M a; intro a w1 S hK M
 refine qG [1, 1, 1, 1, 1] S ?_; clear S a; intro a S
 refine nxC (wpIn_seq ?_)
 refine wpIn_seq ?_
 refine wpI_region (by kernel_rfl) (by rintro _ _ ⟨⟨_, h⟩, -⟩; cases h) ?_
 refine qG [1, 1] S ?_; clear S a; intro a S
 refine nxC (st_if (t := 19) S rfl ?_ ?_)
 ·clear S; intro h19 S
  refine stI_condT S rfl ?_
  refine wpIn_ret ?_
  refine then_ret (block_ret (then_ret (then_ret (block_ret (end_none S rfl ?_)))))
  obtain rfl : i = secN tail := by
   have hgt : ¬ (1 ≤ tail + (i : Int) ∧ tail + (i : Int) ≤ 1099511627776) := fun h => h19 (by unfold plE; rw [if_pos h])
   unfold secN at hi' ⊢
   omega
  exact ⟨⟨_, rfl⟩, Hs, M, .inl hI⟩
 clear S; intro h19 S
 refine stI_condF S rfl ?_
 refine wpIn_skip ?_
 refine then_normal (wpIn_seq ?_)
 have hin : 1 ≤ tail + (i : Int) ∧ tail + (i : Int) ≤ 1099511627776 := by
  by_cases h : 1 ≤ tail + (i : Int) ∧ tail + (i : Int) ≤ 1099511627776
  ·exact h
  ·unfold plE at h19; rw [if_neg h] at h19; omega
 have hpe : plE (tail + (i : Int)) = 0 := by unfold plE; rw [if_pos hin]
 have hpv : plV (tail + (i : Int)) = (((2 + (tail + (i : Int)) % 24).toNat : Nat) : Int) := by unfold plV; rw [if_pos hin]; omega
 rw [hpe, hpv] at S
 have hlt2 : i < secN tail := by unfold secN; omega
 obtain ⟨tx, hx⟩ := range_at (secAt S0 tail) hlt2
 refine wpI_region (by kernel_rfl) (by rintro _ _ ⟨⟨_, h⟩, -⟩; cases h) ?_
 refine qY S (y_load S (by kernel_rfl) rfl (((hC _ _ _ hI M).d).cells 0)) ?_; clear S a; intro a S
 refine qG [1] S ?_; clear S a; intro a S
 refine qC (xs := [.tmp 21, .tmp 22]) S (qE Tryz.func43) rfl ((by obtain ⟨wc, A, E, hE, MM⟩ := (hC _ _ _ hI M).disk; exact dread_any hE MM hup (by omega) (hw _))) ?_
 rintro _ w2 ⟨v', rfl, hF, h64⟩; refine ⟨_, rfl, ?_⟩; clear S a; intro a S
 obtain ⟨lo, hi, -, M2⟩ := M.pushFresh hF; clear M; have M := M2; clear M2
 refine qG [1, 1, 1, 1, 1] S ?_; clear S a; intro a S
 replace S := S.keep [0, 1, 2, 8, 9, 4, 5, 19, 7, 6]
 refine nxC (wpIn_seq ?_)
 refine wpI_preK 3 (by kernel_rfl) (by rintro _ _ ⟨⟨_, h⟩, -⟩; cases h) ?_; simp only [List.take_succ_cons, List.take_zero, List.drop_succ_cons, List.drop_zero]
 refine qG [1, 1, 1] S ?_; clear S a; intro a S
 refine wpList_nil ?_; refine then_normal ?_
 refine stI_yield (xs := [.tmp 27, .tmp 28]) S rfl (by kernel_rfl) rfl rfl (hY ((List.range i).map (secAt S0 tail)) (secAt S0 tail i) tx [_] [v', .int .i64 0] Hs _ hx ⟨v', lo, hi, rfl, rfl, h64⟩ hI M) ?_
 rintro e w3 ⟨Hs2, M2, hh⟩
 obtain ⟨bb, rfl, hb⟩ : ∃ bb, e = .returned (.bool bb) ∧ ((bb = true ∧ I ((List.range i).map (secAt S0 tail) ++ [secAt S0 tail i]) Hs2) ∨ (bb = false ∧ X ((List.range i).map (secAt S0 tail) ++ [secAt S0 tail i]) Hs2)) := by
  rcases hh with ⟨rfl, h⟩ | ⟨rfl, h⟩
  ·exact ⟨true, rfl, .inl ⟨rfl, h⟩⟩
  ·exact ⟨false, rfl, .inr ⟨rfl, h⟩⟩
 refine ⟨_, rfl, ?_⟩; clear S M a; intro a S; have M := M2; clear M2
 simp only [List.cons_append, List.nil_append] at M
 refine list_in (by kernel_rfl) (by rintro _ _ ⟨⟨_, h⟩, -⟩; cases h) ?_
 refine qG [1, 1] S ?_; clear S a; intro a S
 refine st_split (t := 31) S rfl ?_ ?_
 ·clear S; intro h31 S
  refine qG [0, 0, 1] S ?_; clear S a; intro a S
  refine nxC (stI_condT S rfl ?_)
  refine wpIn_ret ?_
  refine block_ret (then_ret (then_ret (block_ret (end_none S rfl ?_))))
  refine ⟨⟨_, rfl⟩, Hs2, M.drop 0, .inr ⟨_, _, _, hx, ?_⟩⟩
  rcases hb with ⟨rfl, -⟩ | ⟨-, h⟩
  ·first | (cases h31; done) | (cases h34; done) | (simp at h31; done) | (simp at h34; done)
  ·exact h
 clear S; intro h31 S
 refine qG [1, 1, 1] S ?_; clear S a; intro a S
 refine nxC (st_split (t := 34) S rfl ?_ ?_)
 ·clear S; intro h34 S
  refine stI_condT S rfl ?_
  refine wpIn_ret ?_
  refine block_ret (then_ret (then_ret (block_ret (end_none S rfl ?_))))
  refine ⟨⟨_, rfl⟩, Hs2, M.drop 0, .inr ⟨_, _, _, hx, ?_⟩⟩
  rcases hb with ⟨rfl, -⟩ | ⟨-, h⟩
  ·first | (cases h31; done) | (cases h34; done) | (simp at h31; done) | (simp at h34; done)
  ·exact h
 clear S; intro h34 S
 refine stI_condF S rfl ?_
 refine wpIn_skip ?_
 refine block_normal (then_normal (wpI_region (by kernel_rfl) (by rintro _ _ ⟨⟨_, h⟩, -⟩; cases h) ?_))
 (first | refine qY S (y_addN S rfl rfl (by omega)) ?_ | refine qY S (y_int S rfl rfl rfl) ?_); clear S a; intro a S
 refine qG [1] S ?_; clear S a; intro a S
 refine nxC ?_
 skip
 replace M := M.drop 0
 simp only [List.eraseIdx_cons_succ, List.eraseIdx_cons_zero] at M
 have hI2 : I ((List.range (i + 1)).map (secAt S0 tail)) Hs2 := by
  rw [range_snoc]
  rcases hb with ⟨-, h⟩ | ⟨rfl, -⟩
  ·exact h
  ·first | (cases h31; done) | (cases h34; done) | (simp at h31; done) | (simp at h34; done)
 exact ⟨24 - (i + 1), by omega, i + 1, Hs2, hlt2, rfl, hI2, S.sub _ rfl, M⟩
theorem sectors_any (b : Nat) (tail : Int) (w : World) : Calls Tryz.prog 111 #[.pointer (some ⟨b, 0, none⟩), .int .i64 tail] w fun e w' => ∃ bf bd, e = .returned (.func (.func 153) #[] #[.pointer (some ⟨bf, 0, none⟩), .pointer (some ⟨bd, 0, none⟩)]) ∧ Mem w w' [.blk bf #[.int .i64 tail] 3, .blk bd #[.pointer (some ⟨b, 0, none⟩)] 38] := by
 have M := Mem.start w
 refine calls_enter Tryz.func111 rfl 6 rfl rfl ?_; intro a S
 refine nxD (st_box S M rfl rfl rfl #[_] rfl ?_); clear S M a; intro a w1 bD S M hB
 refine st_box S M rfl rfl rfl #[_] rfl ?_; clear S M a; intro a w2 bF S M hB
 refine qG [1] S ?_; clear S a; intro a S
 refine nxA (qY S (y_makeFunc (fs := []) (cs := [.tmp 3, .tmp 2]) S rfl rfl) ?_); clear S a; intro a S
 refine qG [1] S ?_; clear S a; intro a S
 refine nxC (wp_ret (end_one S rfl (res_tmp rfl) ?_))
 exact ⟨bF, bD, rfl, M⟩
def DS.new : DS := ⟨fun k => durAt (List.replicate 2176 0) k, fun _ => [], false⟩
def zDisk : List Value := bcells (List.replicate 2176 0) ++ [.map none, .bool false]
theorem zDisk_len : zDisk.length = 2178 := by unfold zDisk; rw [List.length_append, bcells_length, List.length_replicate]; rfl
theorem zDisk_put (m : Nat) : putL zDisk 2176 [.map (some m)] = dcells (List.replicate 2176 0) m false := by
 have e := putL_mid (A := bcells (List.replicate 2176 0)) (B := [Value.map none]) (C := [Value.bool false]) (us := [Value.map (some m)]) rfl
 rw [show (bcells (List.replicate 2176 0)).length = 2176 by rw [bcells_length, List.length_replicate]] at e
 unfold zDisk dcells
 simp only [List.cons_append, List.nil_append] at e
 exact e
set_option maxRecDepth 100000 in
theorem new_any (w : World) : Calls Tryz.prog 10 #[] w fun e w' => ∃ b E, e = .returned (.pointer (some ⟨b, 0, none⟩)) ∧ DkE b DS.new E ∧ Mem w w' E := by
 have M := Mem.start w
 refine calls_enter Tryz.func10 rfl 4 rfl rfl ?_; intro a S
 refine nxD (qG [1] S ?_); clear S a; intro a S
 refine nxA (st_makeMap (κ := Int) S M rfl rfl ?_); clear S M a; intro a w1 bM0 S M hB
 refine qY S (y_build (ps := [(1, .tmp 1)]) (pl := [(0, 2176), (2176, 1), (2177, 1)]) (z := zDisk) (cs := putL zDisk 2176 [.map (some bM0)]) S (by kernel_rfl) rfl (fillL_one rfl rfl rfl (by rw [zDisk_len]; decide))) ?_; clear S a; intro a S
 refine st_box S M rfl rfl rfl _ rfl ?_; clear S M a; intro a w2 bD S M hB
 refine qG [1] S ?_; clear S a; intro a S
 refine nxC (wp_ret (end_one S rfl (res_tmp rfl) ?_))
 rw [zDisk_put] at M
 exact ⟨bD, _, rfl, ⟨⟨bD, bM0, 0, [], List.replicate 2176 0, false, []⟩, rfl, ⟨by rw [List.length_replicate], good_nil _, .nil, fun _ => rfl, fun s hs => (by cases hs)⟩, rfl, rfl⟩, M⟩
end Go.Proofs.YtndabhdepjnbcaaGreat

namespace Go.Proofs.YtndabhdepjnbcaaGreat
open Go.RowKit Go.Sort
theorem sequence_any (k : Int) (w : World) : Calls Tryz.prog 139 #[.int .i64 k] w fun e w' => e = .returned (.bool (decide (1 ≤ k ∧ k ≤ 1099511627776))) ∧ Below w.heap.size w w' := by
 have M := Mem.start w
 refine calls_enter Tryz.func139 rfl _ rfl rfl ?_
 intro a S
 refine nxD (qG [1] S ?_); clear S a; intro a S
 refine nxA (qG [1, 1, 1] S ?_); clear S a; intro a S
 refine st_if (t := 5) S rfl ?_ ?_
 ·clear S; intro h5 S
  refine qG [1, 1, 1, 1] S ?_; clear S a; intro a S
  refine nxC (wp_ret (end_one S rfl (res_tmp rfl) ?_))
  refine ⟨ret_bool ?_, M.below⟩; rw [Bool.eq_iff_iff]; (first | (simp; done) | (simp; omega))
 clear S; intro h5 S
 refine qG [0, 0, 1, 1] S ?_; clear S a; intro a S
 refine nxC (wp_ret (end_one S rfl (res_tmp rfl) ?_))
 refine ⟨ret_bool ?_, M.below⟩; rw [Bool.eq_iff_iff]; (first | (simp; done) | (simp; omega))
theorem incarnation_any (k : Int) (w : World) : Calls Tryz.prog 140 #[.int .i64 k] w fun e w' => e = .returned (.bool (decide (0 ≤ k ∧ k ≤ 1048576))) ∧ Below w.heap.size w w' := by
 have M := Mem.start w
 refine calls_enter Tryz.func140 rfl _ rfl rfl ?_
 intro a S
 refine nxD (qG [1] S ?_); clear S a; intro a S
 refine nxA (qG [1, 1, 1] S ?_); clear S a; intro a S
 refine st_if (t := 5) S rfl ?_ ?_
 ·clear S; intro h5 S
  refine qG [1, 1, 1, 1] S ?_; clear S a; intro a S
  refine nxC (wp_ret (end_one S rfl (res_tmp rfl) ?_))
  refine ⟨ret_bool ?_, M.below⟩; rw [Bool.eq_iff_iff]; (first | (simp; done) | (simp; omega))
 clear S; intro h5 S
 refine qG [0, 0, 1, 1] S ?_; clear S a; intro a S
 refine nxC (wp_ret (end_one S rfl (res_tmp rfl) ?_))
 refine ⟨ret_bool ?_, M.below⟩; rw [Bool.eq_iff_iff]; (first | (simp; done) | (simp; omega))
structure Fr where
 seq : Int
 inc : Int
 part : Int
 of : Int
 mark : BitVec 32
abbrev Fr.cells (f : Fr) (lv : Value) : List Value := [.int .i64 f.seq, .int .i64 f.inc, .int .i64 f.part, .int .i64 f.of, .int .u32 (f.mark.toNat : Int), lv]
def Fr.may (f : Fr) (l : Nat) : Bool := decide ((1 ≤ f.seq ∧ f.seq ≤ 1099511627776) ∧ (0 ≤ f.inc ∧ f.inc ≤ 1048576) ∧ (1 ≤ f.of ∧ f.of ≤ 2) ∧ (0 ≤ f.part ∧ f.part < f.of) ∧ (1 ≤ l ∧ l ≤ 45) ∧ (f.part < f.of - 1 → l = 45))
theorem mayF_any (f : Fr) (ad : Option Addr) (l c : Nat) (w : World) : Calls Tryz.prog 159 #[.agg (f.cells (.slice ad l c)).toArray] w fun e w' => e = .returned (.bool (f.may l)) ∧ Below w.heap.size w w' := by
 have M := Mem.start w
 refine calls_enter Tryz.func159 rfl _ rfl rfl ?_
 intro a S
 refine nxD (st_box S M rfl rfl rfl #[_, _, _, _, _, _] rfl ?_); clear S M a; intro a w1 b1 S M hB
 refine qG [1] S ?_; clear S a; intro a S
 refine nxC (wp_scope_straight ?_)
 refine nxD (qG [1] S ?_); clear S a; intro a S
 refine nxC (wp_seq (wp_label ?_))
 refine then_normal (wp_seq (wp_block (wp_seq (nxD (qR [1, 1] S M ?_))))); clear S a; intro a S
 refine qQ (xs := [.tmp 6]) S (qE Tryz.func139) rfl (sequence_any _ _) M ?_; clear S M a; intro a w2 S hK M
 refine qG [1, 1] S ?_; clear S a; intro a S
 refine nxC (st_if (t := 4) S rfl ?_ ?_)
 ·clear S; intro h4 S
  refine st_condT S rfl (wp_skip (then_normal (st_condT S rfl (wp_exit (block_hit (nxE (qG [1, 1] S ?_))))))); clear S a; intro a S
  refine nxC (wp_ret (sc_ret ?_))
  refine end_one S rfl (res_tmp rfl) ?_
  refine ⟨ret_bool ?_, M.below⟩; rw [Bool.eq_iff_iff]; (first | (simp [Fr.may]; done) | (simp [Fr.may]; omega))
 clear S; intro h4 S
 refine st_condF S rfl (wp_region_lit (qR [2, 1] S M ?_)); clear S a; intro a S
 refine qQ (xs := [.tmp 10]) S (qE Tryz.func140) rfl (incarnation_any _ _) M ?_; clear S M a; intro a w3 S hK M
 refine qG [1, 1] S ?_; clear S a; intro a S
 refine nxC (st_if (t := 4) S rfl ?_ ?_)
 ·clear S; intro h4 S
  refine st_condT S rfl (wp_exit (block_hit (nxE (qG [1, 1] S ?_)))); clear S a; intro a S
  refine nxC (wp_ret (sc_ret ?_))
  refine end_one S rfl (res_tmp rfl) ?_
  refine ⟨ret_bool ?_, M.below⟩; rw [Bool.eq_iff_iff]; (first | (simp [Fr.may]; done) | (simp [Fr.may]; omega))
 clear S; intro h4 S
 refine st_condF S rfl (wp_seq (nxD (qR [4, 1, 1, 1] S M ?_))); clear S a; intro a S
 refine nxC (st_if (t := 13) S rfl ?_ ?_)
 ·clear S; intro h13 S
  refine st_condT S rfl (wp_skip (then_normal (st_condT S rfl (wp_exit (block_hit (nxE (qG [1, 1] S ?_))))))); clear S a; intro a S
  replace S := S.keep [0, 1, 3, 4, 13, 2]
  refine nxC (wp_ret (sc_ret ?_))
  refine end_one S rfl (res_tmp rfl) ?_
  refine ⟨ret_bool ?_, M.below⟩; rw [Bool.eq_iff_iff]; (first | (simp [Fr.may]; done) | (simp [Fr.may]; omega))
 clear S; intro h13 S
 refine st_condF S rfl (wp_region_lit (qR [4, 1, 1, 1] S M ?_)); clear S a; intro a S
 replace S := S.keep [0, 1, 2, 3, 4, 13]
 refine nxC (st_if (t := 13) S rfl ?_ ?_)
 ·clear S; intro h13 S
  refine st_condT S rfl (wp_exit (block_hit (nxE (qG [1, 1] S ?_)))); clear S a; intro a S
  refine nxC (wp_ret (sc_ret ?_))
  refine end_one S rfl (res_tmp rfl) ?_
  refine ⟨ret_bool ?_, M.below⟩; rw [Bool.eq_iff_iff]; (first | (simp [Fr.may]; done) | (simp [Fr.may]; omega))
 clear S; intro h13 S
 refine st_condF S rfl (wp_seq (nxD (qR [3, 1, 1, 1] S M ?_))); clear S a; intro a S
 refine nxC (st_if (t := 20) S rfl ?_ ?_)
 ·clear S; intro h20 S
  refine st_condT S rfl (wp_skip (then_normal (st_condT S rfl (wp_exit (block_hit (nxE (qG [1, 1] S ?_))))))); clear S a; intro a S
  refine nxC (wp_ret (sc_ret ?_))
  refine end_one S rfl (res_tmp rfl) ?_
  refine ⟨ret_bool ?_, M.below⟩; rw [Bool.eq_iff_iff]; (first | (simp [Fr.may]; done) | (simp [Fr.may]; omega))
 clear S; intro h20 S
 refine st_condF S rfl (wp_region_lit (qR [3, 1, 4, 1, 1, 1] S M ?_)); clear S a; intro a S
 refine nxC (st_if (t := 20) S rfl ?_ ?_)
 ·clear S; intro h20 S
  refine st_condT S rfl (wp_exit (block_hit (nxE (qG [1, 1] S ?_)))); clear S a; intro a S
  refine nxC (wp_ret (sc_ret ?_))
  refine end_one S rfl (res_tmp rfl) ?_
  refine ⟨ret_bool ?_, M.below⟩; rw [Bool.eq_iff_iff]; (first | (simp [Fr.may]; done) | (simp [Fr.may]; omega))
 clear S; intro h20 S
 refine st_condF S rfl (wp_seq (nxD (qR [6, 1] S M ?_))); clear S a; intro a S
 refine qY S (y_lenS (E := 5) S rfl (by kernel_rfl)) ?_; clear S a; intro a S
 refine qG [1, 1] S ?_; clear S a; intro a S
 refine nxC (st_if (t := 29) S rfl ?_ ?_)
 ·clear S; intro h29 S
  refine st_condT S rfl (wp_skip (then_normal (st_condT S rfl (wp_exit (block_hit (nxE (qG [1, 1] S ?_))))))); clear S a; intro a S
  replace S := S.keep [0, 1, 3, 4, 13, 20, 29, 2]
  refine nxC (wp_ret (sc_ret ?_))
  refine end_one S rfl (res_tmp rfl) ?_
  refine ⟨ret_bool ?_, M.below⟩; rw [Bool.eq_iff_iff]; (first | (simp [Fr.may]; done) | (simp [Fr.may]; omega))
 clear S; intro h29 S
 refine st_condF S rfl (wp_region_lit (qR [6, 1] S M ?_)); clear S a; intro a S
 refine qY S (y_lenS (E := 5) S rfl (by kernel_rfl)) ?_; clear S a; intro a S
 refine qG [1, 1] S ?_; clear S a; intro a S
 replace S := S.keep [0, 1, 2, 3, 4, 13, 20, 29]
 refine nxC (st_if (t := 29) S rfl ?_ ?_)
 ·clear S; intro h29 S
  refine st_condT S rfl (wp_exit (block_hit (nxE (qG [1, 1] S ?_)))); clear S a; intro a S
  refine nxC (wp_ret (sc_ret ?_))
  refine end_one S rfl (res_tmp rfl) ?_
  refine ⟨ret_bool ?_, M.below⟩; rw [Bool.eq_iff_iff]; (first | (simp [Fr.may]; done) | (simp [Fr.may]; omega))
 clear S; intro h29 S
 refine st_condF S rfl (nxD (qR [3, 1, 4, 1] S M ?_)); clear S a; intro a S
 (first | refine qY S (y_subN S rfl rfl (by omega)) ?_ | refine qY S (y_int S rfl rfl rfl) ?_); clear S a; intro a S
 refine qG [1, 1] S ?_; clear S a; intro a S
 refine st_fi (t := 45) S rfl ?_ ?_
 ·clear S; intro h45 S
  refine qG [0, 0, 0, 0, 1, 1] S ?_; clear S a; intro a S
  refine nxC (st_condF S rfl (wp_region_lit (qG [1] S ?_))); clear S a; intro a S
  refine wpList_nil (block_normal (nxE (qG [1, 1] S ?_))); clear S a; intro a S
  replace S := S.keep [0, 1, 4, 13, 20, 29, 38, 3, 2]
  refine nxC (wp_ret (sc_ret ?_))
  refine end_one S rfl (res_tmp rfl) ?_
  refine ⟨ret_bool ?_, M.below⟩; rw [Bool.eq_iff_iff]; (first | (simp [Fr.may]; done) | (simp [Fr.may]; omega))
 clear S; intro h45 S
 refine qR [6, 1] S M ?_; clear S a; intro a S
 refine qY S (y_lenS (E := 5) S rfl (by kernel_rfl)) ?_; clear S a; intro a S
 refine qG [1, 1, 1] S ?_; clear S a; intro a S
 refine nxC (st_if (t := 38) S rfl ?_ ?_)
 ·clear S; intro h38 S
  refine st_condT S rfl (wp_exit (block_hit (nxE (qG [1, 1] S ?_)))); clear S a; intro a S
  replace S := S.keep [0, 1, 3, 4, 13, 20, 29, 38, 2]
  refine nxC (wp_ret (sc_ret ?_))
  refine end_one S rfl (res_tmp rfl) ?_
  refine ⟨ret_bool ?_, M.below⟩; rw [Bool.eq_iff_iff]; (first | (simp [Fr.may]; done) | (simp [Fr.may]; omega))
 clear S; intro h38 S
 refine st_condF S rfl (wp_region_lit (qG [1] S ?_)); clear S a; intro a S
 refine wpList_nil (block_normal (nxE (qG [1, 1] S ?_))); clear S a; intro a S
 replace S := S.keep [0, 1, 4, 13, 20, 29, 38, 3, 2]
 refine nxC (wp_ret (sc_ret ?_))
 refine end_one S rfl (res_tmp rfl) ?_
 refine ⟨ret_bool ?_, M.below⟩; rw [Bool.eq_iff_iff]; (first | (simp [Fr.may]; done) | (simp [Fr.may]; omega))
end Go.Proofs.YtndabhdepjnbcaaGreat
namespace Go.Proofs.YtndabhdepjnbcaaGreat
open Go.RowKit Go.Sort
def Fr.same (f g : Fr) (bs cs : List UInt8) : Bool := f.seq == g.seq && f.inc == g.inc && f.part == g.part && f.of == g.of && f.mark == g.mark && bs == cs
theorem Fr.same_iff {f g : Fr} {bs cs : List UInt8} : f.same g bs cs = true ↔ f = g ∧ bs = cs := by
 cases f; cases g; simp [Fr.same, and_assoc]
theorem sameF_any (f g : Fr) (v u : Value) (bs cs : List UInt8) (w : World) (hv : Bs 0 w.heap.size w v bs) (hu : Bs 0 w.heap.size w u cs) : Calls Tryz.prog 162 #[.agg (f.cells v).toArray, .agg (g.cells u).toArray] w fun e w' => e = .returned (.bool (f.same g bs cs)) ∧ Below w.heap.size w w' := by
 have M := Mem.start w
 refine calls_enter Tryz.func162 rfl 45 rfl rfl ?_; intro a S
 refine nxD (st_box S M rfl rfl rfl #[_, _, _, _, _, _] rfl ?_); clear S M a; intro a w1 b1 S M hB
 refine st_box S M rfl rfl rfl #[_, _, _, _, _, _] rfl ?_; clear S M a; intro a w2 b2 S M hB
 refine qG [1] S ?_; clear S a; intro a S
 refine nxA (qR [1, 2, 1, 1, 1, 1] S M ?_); clear S a; intro a S
 refine st_fi (t := 10) S rfl ?_ ?_
 ·clear S; intro h10 S
  refine qG [0, 0, 0, 0, 0, 1, 1, 0, 0, 0, 0, 0, 1, 1, 0, 0, 0, 0, 0, 1, 1, 0, 0, 0, 0, 0, 1, 1, 0, 0, 0, 0, 0, 1, 1] S ?_; clear S a; intro a S
  replace S := S.keep [0, 1, 2, 3, 4]
  refine nxC (wp_ret (end_one S rfl (res_tmp rfl) ?_))
  exact ⟨ret_bool (by simp [Fr.same, *]), M.below⟩
 clear S; intro h10 S
 refine qR [2, 2, 2, 1, 1, 1, 1] S M ?_; clear S a; intro a S
 refine st_fi (t := 17) S rfl ?_ ?_
 ·clear S; intro h17 S
  refine qG [0, 0, 0, 0, 0, 1, 1, 0, 0, 0, 0, 0, 1, 1, 0, 0, 0, 0, 0, 1, 1, 0, 0, 0, 0, 0, 1, 1] S ?_; clear S a; intro a S
  replace S := S.keep [0, 1, 2, 3, 4]
  refine nxC (wp_ret (end_one S rfl (res_tmp rfl) ?_))
  exact ⟨ret_bool (by simp [Fr.same, *]), M.below⟩
 clear S; intro h17 S
 refine qR [3, 2, 3, 1, 1, 1, 1] S M ?_; clear S a; intro a S
 refine st_fi (t := 24) S rfl ?_ ?_
 ·clear S; intro h24 S
  refine qG [0, 0, 0, 0, 0, 1, 1, 0, 0, 0, 0, 0, 1, 1, 0, 0, 0, 0, 0, 1, 1] S ?_; clear S a; intro a S
  replace S := S.keep [0, 1, 2, 3, 4]
  refine nxC (wp_ret (end_one S rfl (res_tmp rfl) ?_))
  exact ⟨ret_bool (by simp [Fr.same, *]), M.below⟩
 clear S; intro h24 S
 refine qR [4, 2, 4, 1, 1, 1, 1] S M ?_; clear S a; intro a S
 refine st_fi (t := 31) S rfl ?_ ?_
 ·clear S; intro h31 S
  refine qG [0, 0, 0, 0, 0, 1, 1, 0, 0, 0, 0, 0, 1, 1] S ?_; clear S a; intro a S
  replace S := S.keep [0, 1, 2, 3, 4]
  refine nxC (wp_ret (end_one S rfl (res_tmp rfl) ?_))
  exact ⟨ret_bool (by simp [Fr.same, *]), M.below⟩
 clear S; intro h31 S
 refine qR [5, 2, 5, 1] S M ?_; clear S a; intro a S
 refine qY S (y_eql32 S rfl rfl) ?_; clear S a; intro a S
 refine qG [1, 1] S ?_; clear S a; intro a S
 refine st_fi (t := 38) S rfl ?_ ?_
 ·clear S; intro h38 S
  refine qG [0, 0, 0, 0, 0, 1, 1] S ?_; clear S a; intro a S
  replace S := S.keep [0, 1, 2, 3, 4]
  refine nxC (wp_ret (end_one S rfl (res_tmp rfl) ?_))
  exact ⟨ret_bool (by simp [Fr.same, *]), M.below⟩
 clear S; intro h38 S
 refine qR [6, 2, 6, 1] S M ?_; clear S a; intro a S
 refine qQ (xs := [.tmp 40, .tmp 42]) S (qE Tryz.func70) rfl (equal_any _ _ bs cs _ (M.argW hv) (M.argW hu)) M ?_; clear S M a; intro a w3 S hK M
 refine qG [1, 1] S ?_; clear S a; intro a S
 replace S := S.keep [0, 1, 2, 3, 4]
 refine nxC (wp_ret (end_one S rfl (res_tmp rfl) ?_))
 exact ⟨ret_bool (by simp [Fr.same, *]), M.below⟩
end Go.Proofs.YtndabhdepjnbcaaGreat
namespace Go.Proofs.YtndabhdepjnbcaaGreat
open Go.RowKit Go.Sort
def FrsC (cs : List Value) (lo hi : Nat) (w : World) (v : Value) (fs : List (Fr × List UInt8)) : Prop :=
 Rd lo hi w 6 v fs.length cs ∧ ∀ i f bs, fs[i]? = some (f, bs) → ∃ lv, (cs.drop (i * 6)).take 6 = f.cells lv ∧ Bs lo hi w lv bs
def Frs (lo hi : Nat) (w : World) (v : Value) (fs : List (Fr × List UInt8)) : Prop := ∃ cs, FrsC cs lo hi w v fs
theorem FrsC.same {cs : List Value} {lo hi : Nat} {w w' : World} {v : Value} {fs : List (Fr × List UInt8)} (h : FrsC cs lo hi w v fs) (hs : SameOn lo hi w w') : FrsC cs lo hi w' v fs :=
 ⟨h.1.same hs, fun i f bs hi => let ⟨lv, e, hb⟩ := h.2 i f bs hi; ⟨lv, e, hb.same hs⟩⟩
theorem FrsC.row {cs : List Value} {lo hi i : Nat} {w : World} {v lv : Value} {f : Fr} {bs : List UInt8} {fs : List (Fr × List UInt8)} (h : FrsC cs lo hi w v fs) (hi' : fs[i]? = some (f, bs)) (hr : (cs.drop (i * 6)).take 6 = f.cells lv) : CellsAt w (adr v).block ((adr v).off + i * 6) (f.cells lv) ∧ Bs lo hi w lv bs := by
 obtain ⟨lv', e, hb⟩ := h.2 i f bs hi'
 have : lv' = lv := by
  rw [e] at hr
  injection hr with _ hr; injection hr with _ hr; injection hr with _ hr; injection hr with _ hr; injection hr with _ hr; injection hr
 subst this
 exact ⟨h.1.at_.row e rfl, hb⟩
theorem Mem.frs {w0 w : World} {H : List Ent} {cs : List Value} {v : Value} {fs : List (Fr × List UInt8)} (M : Mem w0 w H) (h : FrsC cs 0 w0.heap.size w0 v fs) : FrsC cs 0 w0.heap.size w v fs := h.same fun k _ h2 => M.below.block k h2
def nOf (n : Nat) : Nat := (n + 44) / 45
def frOf (bs : List UInt8) (seq inc : Int) (i : Nat) : Fr × List UInt8 := (⟨seq + i, inc, i, (nOf bs.length : Nat), sumT bs⟩, (bs.drop (i * 45)).take 45)
def cutF (bs : List UInt8) (seq inc : Int) : List (Fr × List UInt8) := (List.range (nOf bs.length)).map (frOf bs seq inc)
def cutOk (bs : List UInt8) (seq inc : Int) : Prop := bs ≠ [] ∧ (1 ≤ seq ∧ seq ≤ 1099511627776) ∧ (0 ≤ inc ∧ inc ≤ 1048576) ∧ bs.length ≤ 90 ∧ seq + (nOf bs.length : Nat) - 1 ≤ 1099511627776
open Classical in
noncomputable def cutE (bs : List UInt8) (seq inc : Int) : Int :=
 if cutOk bs seq inc then 0 else if bs ≠ [] ∧ (1 ≤ seq ∧ seq ≤ 1099511627776) ∧ (0 ≤ inc ∧ inc ≤ 1048576) ∧ 90 < bs.length then 3 else 2
open Classical in
noncomputable def cutR (bs : List UInt8) (seq inc : Int) : List (Fr × List UInt8) := if cutOk bs seq inc then cutF bs seq inc else []
def CutPost (bs : List UInt8) (seq inc : Int) (w : World) (e : Ending) (w' : World) : Prop :=
 ∃ v', e = .returned (.tuple #[v', .int .i64 (cutE bs seq inc)]) ∧ Below w.heap.size w w' ∧ Frs w.heap.size w'.heap.size w' v' (cutR bs seq inc)
theorem cutPost_no {bs : List UInt8} {seq inc : Int} {w w' : World} {H : List Ent} {x : Int} (M : Mem w w' H) (h : ¬ cutOk bs seq inc) (hx : x = cutE bs seq inc) : CutPost bs seq inc w (.returned (.tuple #[.slice none 0 0, .int .i64 x])) w' :=
 ⟨_, by rw [hx], M.below, [], by unfold cutR; rw [if_neg h]; exact ⟨Rd.nil _ _ _ _, fun i f bs hi => by simp at hi⟩⟩
theorem Mem.pushFrs {w0 w w' : World} {H : List Ent} {cs : List Value} {v : Value} {fs : List (Fr × List UInt8)} (M : Mem w0 w H) (hb : Below w.heap.size w w') (h : FrsC cs w.heap.size w'.heap.size w' v fs) : ∃ lo hi, w.heap.size ≤ lo ∧ Mem w0 w' (.own lo hi (fun w => FrsC cs lo hi w v fs) :: H) :=
 ⟨_, _, Nat.le_refl _, M.push hb (.own w.heap.size w'.heap.size fun x => FrsC cs w.heap.size w'.heap.size x v fs) (fun w'' hs => h.same hs) (Nat.le_refl _) (Nat.le_refl _)⟩
def Loads (lo hi : Nat) (bs : List UInt8) (lvs : List Value) (w : World) : Prop := ∀ i lv, lvs[i]? = some lv → Bs lo hi w lv ((bs.drop (i * 45)).take 45)
theorem loads_more {w0 w : World} {lo hi lo' hi' b n : Nat} {bs : List UInt8} {lvs : List Value} {lv : Value} {c : Array Value} {t e : TypeId} (M : Mem w0 w [rowE lo' hi' e 1 lv n (bcells ((bs.drop (lvs.length * 45)).take 45)), .own lo hi (Loads lo hi bs lvs), .blk b c t])
 (hn : ((bs.drop (lvs.length * 45)).take 45).length = n) (hb : b < lo) (h1 : lo ≤ hi) (h2 : hi ≤ lo') : Mem w0 w [.own lo w.heap.size (Loads lo w.heap.size bs (lvs ++ [lv])), .blk b c t] := by
 have f0 := M.fits _ (List.mem_of_getElem? (show _[0]? = _ from rfl))
 have f1 := M.fits _ (List.mem_of_getElem? (show _[1]? = _ from rfl))
 simp only [rowE, Ent.lo, Ent.hi] at f0 f1
 refine M.merge lo w.heap.size _ f1.1 (Nat.le_refl _) (fun f hf => ?_) (fun w' hs => ?_)
 ·simp only [List.mem_singleton] at hf; subst hf; left; simp only [Ent.hi]; omega
 ·intro i x hx
  rcases Nat.lt_or_ge i lvs.length with hi' | hi'
  ·rw [List.getElem?_append_left hi'] at hx
   exact (M.ownAll 1 rfl w' (hs.sub (Nat.le_refl _) f1.2) i x hx).wide (Nat.le_refl _) f1.2
  ·have : i = lvs.length := by
    have := (List.getElem?_eq_some_iff.1 hx).1
    simp at this; omega
   subst this
   rw [List.getElem?_append_right (Nat.le_refl _)] at hx
   simp at hx
   subst hx
   obtain ⟨h3, h4⟩ := M.ownAll 0 rfl w' (hs.sub (by omega) f0.2)
   have := Rd.of_row h3 h4 (by rw [← hn]; simp [maxLen]; omega)
   unfold Bs; rw [hn]
   exact this.wide (by omega) f0.2
theorem cut_any (v : Value) (bs : List UInt8) (seq inc : Int) (w : World) (hv : Bs 0 w.heap.size w v bs) (hseq : -9223372036854775808 ≤ seq ∧ seq ≤ 9223372036854775807) : Calls Tryz.prog 102 #[v, .int .i64 seq, .int .i64 inc] w (CutPost bs seq inc w) := by
 have M := Mem.start w
 have hl := hv.2.1
 unfold maxLen at hl
 have hcap := hv.cap
 refine calls_enter Tryz.func102 rfl 79 rfl rfl ?_; intro a S
 refine nxD (qG [1, 1] S ?_); clear S a; intro a S
 refine nxC (wp_seq (nxD (qG [1] S ?_))); clear S a; intro a S
 refine qY S (y_lenR (E := 5) S rfl (M.arg hv) (by kernel_rfl)) ?_; clear S a; intro a S
 refine qG [1, 1] S ?_; clear S a; intro a S
 refine st_if (t := 18) S rfl ?_ ?_
 ·clear S; intro h18 S
  refine qG [0, 0, 0, 1, 1, 0, 0, 0, 1] S ?_; clear S a; intro a S
  refine nxC (st_condT S rfl (nxD (qG [1, 1] S ?_))); clear S a; intro a S
  replace S := S.keep [0, 1, 2, 27, 6, 7]
  refine nxC (wp_ret (then_ret (end_two S rfl (res_tmp rfl) (res_tmp rfl) ?_)))
  exact cutPost_no M (by unfold cutOk; simp only [← List.length_pos_iff] at *; omega) (by unfold cutE cutOk; simp only [← List.length_pos_iff] at *; rw [if_neg (by omega), if_neg (by omega)])
 clear S; intro h18 S
 refine qG [1] S ?_; clear S a; intro a S
 refine qQ (xs := [.tmp 19]) S (qE Tryz.func139) rfl (sequence_any _ _) M ?_; clear S M a; intro a w1 S hK M
 refine qG [1, 1, 1] S ?_; clear S a; intro a S
 refine st_if (t := 23) S rfl ?_ ?_
 ·clear S; intro h23 S
  refine qG [0, 0, 0, 1] S ?_; clear S a; intro a S
  refine nxC (st_condT S rfl (nxD (qG [1, 1] S ?_))); clear S a; intro a S
  replace S := S.keep [0, 1, 2, 27, 6, 7]
  refine nxC (wp_ret (then_ret (end_two S rfl (res_tmp rfl) (res_tmp rfl) ?_)))
  exact cutPost_no M (by unfold cutOk; simp only [← List.length_pos_iff] at *; omega) (by unfold cutE cutOk; simp only [← List.length_pos_iff] at *; rw [if_neg (by omega), if_neg (by omega)])
 clear S; intro h23 S
 refine qG [1] S ?_; clear S a; intro a S
 refine qQ (xs := [.tmp 24]) S (qE Tryz.func140) rfl (incarnation_any _ _) M ?_; clear S M a; intro a w2 S hK M
 refine qG [1, 1] S ?_; clear S a; intro a S
 refine nxC (st_if (t := 27) S rfl ?_ ?_)
 ·clear S; intro h27 S
  refine st_condT S rfl (nxD (qG [1, 1] S ?_)); clear S a; intro a S
  replace S := S.keep [0, 1, 2, 27, 6, 7]
  refine nxC (wp_ret (then_ret (end_two S rfl (res_tmp rfl) (res_tmp rfl) ?_)))
  exact cutPost_no M (by unfold cutOk; simp only [← List.length_pos_iff] at *; omega) (by unfold cutE cutOk; simp only [← List.length_pos_iff] at *; rw [if_neg (by omega), if_neg (by omega)])
 clear S; intro h27 S
 refine st_condF S rfl (wp_skip (then_normal (wp_seq (nxD (qG [1] S ?_))))); clear S a; intro a S
 refine qY S (y_lenR (E := 5) S rfl (M.arg hv) (by kernel_rfl)) ?_; clear S a; intro a S
 refine qG [1] S ?_; clear S a; intro a S
 replace S := S.keep [0, 1, 2, 6, 7, 27, 30]
 refine nxC (st_if (t := 30) S rfl ?_ ?_)
 ·clear S; intro h30 S
  refine st_condT S rfl (nxD (qG [1, 1] S ?_)); clear S a; intro a S
  refine nxC (wp_ret (then_ret (end_two S rfl (res_tmp rfl) (res_tmp rfl) ?_)))
  exact cutPost_no M (by unfold cutOk; simp only [← List.length_pos_iff] at *; omega) (by unfold cutE cutOk; simp only [← List.length_pos_iff] at *; rw [if_neg (by omega), if_pos (by omega)])
 clear S; intro h30 S
 refine st_condF S rfl (wp_skip (nxE (qG [1] S ?_))); clear S a; intro a S
 refine qY S (y_lenR (E := 5) S rfl (M.arg hv) (by kernel_rfl)) ?_; clear S a; intro a S
 (first | refine qY S (y_addN S rfl rfl (by omega)) ?_ | refine qY S (y_int S rfl rfl rfl) ?_); clear S a; intro a S
 (first | refine qY S (y_subN S rfl rfl (by omega)) ?_ | refine qY S (y_int S rfl rfl rfl) ?_); clear S a; intro a S
 refine qY S (y_quoN S rfl rfl (by omega)) ?_; clear S a; intro a S
 refine qG [1] S ?_; clear S a; intro a S
 refine nxC (wp_seq (nxD (qG [1, 1] S ?_))); clear S a; intro a S
 (first | refine qY S (y_addN S rfl rfl (by omega)) ?_ | refine qY S (y_int S rfl rfl rfl) ?_); clear S a; intro a S
 (first | refine qY S (y_subN S rfl rfl (by omega)) ?_ | refine qY S (y_int S rfl rfl rfl) ?_); clear S a; intro a S
 refine qQ (xs := [.tmp 39]) S (qE Tryz.func139) rfl (sequence_any _ _) M ?_; clear S M a; intro a w3 S hK M
 refine qG [1] S ?_; clear S a; intro a S
 refine nxC (st_if (t := 41) S rfl ?_ ?_)
 ·clear S; intro h41 S
  refine st_condT S rfl (nxD (qG [1, 1] S ?_)); clear S a; intro a S
  refine nxC (wp_ret (then_ret (end_two S rfl (res_tmp rfl) (res_tmp rfl) ?_)))
  exact cutPost_no M (by unfold cutOk nOf; simp only [← List.length_pos_iff] at *; omega) (by unfold cutE cutOk nOf; simp only [← List.length_pos_iff] at *; rw [if_neg (by omega), if_neg (by omega)])
 clear S; intro h41 S
 refine st_condF S rfl (wp_skip (nxE (qG [1] S ?_))); clear S a; intro a S
 refine qQ (xs := [.tmp 42]) S (qE Tryz.func141) rfl (sum_any v bs _ (M.argW hv)) M ?_; clear S M a; intro a w4 S hK M
 refine qG [1] S ?_; clear S a; intro a S
 refine nxA ?_
 have e8 : ((bs.length : Int) + 45 - 1) / 45 = ((nOf bs.length : Nat) : Int) := by unfold nOf; omega
 have hn2 : nOf bs.length ≤ 2 := by unfold nOf; omega
 rw [e8] at S
 have hok : cutOk bs seq inc := by unfold cutOk; rw [← List.length_pos_iff]; omega
 refine qY S (y_move S rfl) ?_; clear S a; intro a S
 refine st_make (e := 191) (sz := 6) (by_ := 64) (zc := [.int .i64 0, .int .i64 0, .int .i64 0, .int .i64 0, .int .u32 0, .slice none 0 0]) S M rfl rfl (by kernel_rfl) rfl rfl (by omega) (by omega) (by omega) (by omega) ?_; clear S M a; intro a w5 b1 S M hB
 try simp only [Int.toNat_natCast, Int.reduceToNat, Nat.reduceMul] at S M
 refine qG [1] S ?_; clear S a; intro a S
 replace S := S.keep [0, 1, 2, 6, 7, 27, 30, 8, 41, 9, 10]
 refine nxC (wp_seq (nxD (qG [1] S ?_))); clear S a; intro a S
 refine qY S (y_lenS (E := 191) S rfl (by kernel_rfl)) ?_; clear S a; intro a S
 refine qG [1] S ?_; clear S a; intro a S
 refine nxC (wp_block (wp_loop_g (fun m a w' => ∃ (k : Nat) (l : List Value) (lo hi : Nat) (lvs : List Value), k ≤ nOf bs.length ∧ m = nOf bs.length - k ∧ Sees 79 a [(0, v), (1, .int .i64 seq), (2, .int .i64 inc), (8, .int .i64 (nOf bs.length : Nat)), (9, .int .u32 ((sumT bs).toNat : Int)), (10, .slice (some ⟨b1, 0, none⟩) (nOf bs.length) (nOf bs.length)), (47, .int .i64 (nOf bs.length : Nat)), (48, .int .i64 (k : Int))] ∧ Mem w w' [.own lo hi (Loads lo hi bs lvs), .blk b1 l.toArray 191] ∧ b1 < lo ∧ lo ≤ hi ∧ l.length = nOf bs.length * 6 ∧ lvs.length = k ∧ ∀ i lv, lvs[i]? = some lv → (l.drop (i * 6)).take 6 = (frOf bs seq inc i).1.cells lv) (nOf bs.length) ?_ ?_))
 ·skip
  have f := (M.fits _ (List.mem_of_getElem? (show _[0]? = _ from rfl))).2
  simp only [Ent.hi] at f
  exact ⟨0, _, _, _, [], Nat.zero_le _, rfl, S.sub _ rfl, M.pushTriv (Loads _ _ bs []) (fun _ i lv h => by simp at h), f, Nat.le_refl _, by simp [madeL_length], rfl, fun i lv h => by simp at h⟩
 clear S M a; intro m a wl
 rintro ⟨k, l, lo, hi, lvs, hk, rfl, S, M, hb, hlh, hll, hlv, hrow⟩
 refine nxD (qG [1] S ?_); clear S a; intro a S
 refine nxC (wp_seq (st_fi (t := 49) S rfl ?_ ?_))
 ·clear S; intro h49 S
  refine st_condF S rfl (wp_exit (then_exit (then_exit (block_hit (nxE (qG [1, 1, 1] S ?_)))))); clear S a; intro a S
  refine nxC (wp_ret (end_two S rfl (res_tmp rfl) (res_tmp rfl) ?_))
  obtain rfl : k = nOf bs.length := by omega
  have f0 := M.fits _ (List.mem_of_getElem? (show _[0]? = _ from rfl))
  have f1 := M.fits _ (List.mem_of_getElem? (show _[1]? = _ from rfl))
  simp only [Ent.lo, Ent.hi] at f0 f1
  refine ⟨_, by unfold cutE; rw [if_pos hok], M.below, ?_⟩
  unfold cutR; rw [if_pos hok]
  have hlc : (cutF bs seq inc).length = nOf bs.length := by simp [cutF]
  refine ⟨l, ?_, fun i f cs' hi' => ?_⟩
  ·rw [hlc]
   exact (Rd.of_blk (M.blk 1 rfl) hll (Nat.le_refl _) (by unfold maxLen; omega) (List.take_of_length_le (by simp; omega))).wide f1.1 f1.2
  ·have hlt := (List.getElem?_eq_some_iff.1 hi').1
   rw [hlc] at hlt
   simp only [cutF, List.getElem?_map, List.getElem?_range hlt, Option.map_some, Option.some.injEq] at hi'
   obtain ⟨lv, hlv'⟩ : ∃ lv, lvs[i]? = some lv := ⟨_, List.getElem?_eq_getElem (by omega)⟩
   refine ⟨lv, ?_, ?_⟩
   ·rw [hrow i lv hlv', hi']
   ·have := M.own 0 rfl i lv hlv'
    have e2 : (bs.drop (i * 45)).take 45 = cs' := congrArg Prod.snd hi'
    rw [← e2]
    exact this.wide f0.1 f0.2
 clear S; intro h49 S
 refine st_condT S rfl (wp_skip (then_normal (wp_seq (wp_block (nxD (qG [1, 1] S ?_)))))); clear S a; intro a S
 refine nxA ?_
 have hk' : k < nOf bs.length := by omega
 have hkn : k * 45 < bs.length := by unfold nOf at hk'; omega
 refine qY S (y_move S rfl) ?_; clear S a; intro a S
 (first | refine qY S (y_mulN S rfl rfl (by omega)) ?_ | refine qY S (y_int S rfl rfl rfl) ?_); clear S a; intro a S
 refine qG [1] S ?_; clear S a; intro a S
 (first | refine qY S (y_addN S rfl rfl (by omega)) ?_ | refine qY S (y_int S rfl rfl rfl) ?_); clear S a; intro a S
 (first | refine qY S (y_mulN S rfl rfl (by omega)) ?_ | refine qY S (y_int S rfl rfl rfl) ?_); clear S a; intro a S
 refine qG [1] S ?_; clear S a; intro a S
 refine qY S (y_lenR (E := 5) S rfl (M.arg hv) (by kernel_rfl)) ?_; clear S a; intro a S
 refine qY S (y_min S rfl rfl) ?_; clear S a; intro a S
 refine qG [1, 1] S ?_; clear S a; intro a S
 refine nxA (qG [1, 1, 1, 1] S ?_); clear S a; intro a S
 refine qY S (y_slice3R (e := 5) (sz := 1) S (by kernel_rfl) rfl (M.arg hv) rfl rfl rfl (by first | omega | (simp; done) | (simp; omega))) ?_; clear S a; intro a S
 have hB := (M.argW hv).cutB (i := ((k : Int) * 45).toNat) (j := (min (((k : Int) + 1) * 45) (bs.length : Int)).toNat) (mx := (min (((k : Int) + 1) * 45) (bs.length : Int)).toNat) (by omega) (by omega) (by omega) (by omega)
 have eB : (bs.drop ((k : Int) * 45).toNat).take ((min (((k : Int) + 1) * 45) (bs.length : Int)).toNat - ((k : Int) * 45).toNat) = (bs.drop (k * 45)).take 45 := by
  rw [show ((k : Int) * 45).toNat = k * 45 by omega]
  rcases Nat.le_total ((k + 1) * 45) bs.length with h | h
  ·congr 1; omega
  ·rw [List.take_of_length_le (by simp; omega), List.take_of_length_le (by simp; omega)]
 rw [eB] at hB
 have hfit := (M.fits _ (List.mem_of_getElem? (show _[0]? = _ from rfl))).2
 simp only [Ent.hi] at hfit
 refine qC (xs := [.tmp 63]) S (qE Tryz.func142) rfl (clone_any _ _ _ hB (by simp; omega)) ?_
 rintro _ w6 ⟨lv, rfl, hF⟩; refine ⟨_, rfl, ?_⟩; clear S a; intro a S
 obtain ⟨adL, capL, hlvE, -, -⟩ := (hF.rd (by simp [maxLen]; omega)).form
 obtain ⟨lo', hi', hlo', M⟩ := M.pushFresh hF
 subst hlvE
 refine qG [1] S ?_; clear S a; intro a S
 replace S := S.keep [0, 1, 2, 8, 9, 10, 47, 48, 49, 11, 12, 13, 14]
 refine nxB (qG [1, 1, 1, 1] S ?_); clear S a; intro a S
 (first | refine qY S (y_addN S rfl rfl (by omega)) ?_ | refine qY S (y_int S rfl rfl rfl) ?_); clear S a; intro a S
 refine qG [1, 1, 1, 1, 1] S ?_; clear S a; intro a S
 refine qY S (y_build (ps := [(0, .tmp 69), (1, .tmp 70), (2, .tmp 71), (3, .tmp 72), (4, .tmp 73), (5, .tmp 74)]) (pl := [(0, 1), (1, 1), (2, 1), (3, 1), (4, 1), (5, 1)]) (z := [.int .i64 0, .int .i64 0, .int .i64 0, .int .i64 0, .int .u32 0, .slice none 0 0]) (cs := [_, _, _, _, _, _]) S (by kernel_rfl) rfl (rfl)) ?_; clear S a; intro a S
 refine qY S (y_indexS (e := 191) (sz := 6) S (by kernel_rfl) rfl rfl (by first | omega | (simp; done) | (simp; omega))) ?_; clear S a; intro a S
 try simp only [Int.toNat_natCast, Nat.mul_one, Nat.zero_add] at S
 refine st_store (sz := 6) (us := [_, _, _, _, _, _]) S M 2 rfl (by kernel_rfl) rfl rfl rfl rfl rfl rfl (by simp; omega) ?_; clear M; intro w7 M
 simp only [List.set_cons_zero, List.set_cons_succ] at M
 refine wpList_nil (block_normal (nxF ?_))
 (first | refine qY S (y_addN S rfl rfl (by omega)) ?_ | refine qY S (y_int S rfl rfl rfl) ?_); clear S a; intro a S
 refine qG [1] S ?_; clear S a; intro a S
 replace S := S.keep [0, 1, 2, 8, 9, 10, 47, 49, 11, 12, 13, 14, 48]
 refine nxC ?_
 subst hlv
 have M2 := loads_more M rfl hb hlh (by omega)
 have hle : lvs.length * 6 + 6 ≤ l.length := by omega
 refine ⟨nOf bs.length - (lvs.length + 1), by omega, lvs.length + 1, _, lo, _, _, by omega, rfl, S.sub _ rfl, M2, hb, ?_, by rw [putL_length]; exact hll, by simp, ?_⟩
 ·have f := (M.fits _ (List.mem_of_getElem? (show _[1]? = _ from rfl))); simp only [Ent.hi, Ent.lo] at f; omega
 ·intro i lv hi'
  rcases Nat.lt_or_ge i lvs.length with h | h
  ·rw [List.getElem?_append_left h] at hi'
   rw [putL_ahead (by simpa using hle) (by omega)]
   exact hrow i lv hi'
  ·have : i = lvs.length := by
    have := (List.getElem?_eq_some_iff.1 hi').1
    simp at this; omega
   subst this
   rw [List.getElem?_append_right (Nat.le_refl _)] at hi'
   simp only [Nat.sub_self, List.getElem?_cons_zero, Option.some.injEq] at hi'
   subst hi'
   exact putL_same (us := [_, _, _, _, _, _]) hle
end Go.Proofs.YtndabhdepjnbcaaGreat
namespace Go.Proofs.YtndabhdepjnbcaaGreat
open Go.RowKit Go.Sort
def outF (fs : List (Fr × List UInt8)) : List UInt8 := fs.flatMap (·.2)
def joinOk (fs : List (Fr × List UInt8)) : Prop :=
 ∃ f bs r, fs = (f, bs) :: r ∧ fs.length ≤ 2 ∧ (∀ x ∈ fs, x.1.may x.2.length = true) ∧ cutOk (outF fs) f.seq f.inc ∧ cutF (outF fs) f.seq f.inc = fs
open Classical in
noncomputable def joinE (fs : List (Fr × List UInt8)) : Int := if joinOk fs then 0 else 40
def JoinPost (fs : List (Fr × List UInt8)) (w : World) (e : Ending) (w' : World) : Prop :=
 ∃ v', e = .returned (.tuple #[v', .int .i64 (joinE fs)]) ∧ Below w.heap.size w w' ∧ (joinOk fs → Fresh w w' 5 1 v' (outF fs).length (bcells (outF fs))) ∧ (¬ joinOk fs → v' = .slice none 0 0)
theorem joinPost_no {fs : List (Fr × List UInt8)} {w w' : World} {H : List Ent} (M : Mem w w' H) (h : ¬ joinOk fs) : JoinPost fs w (.returned (.tuple #[.slice none 0 0, .int .i64 40])) w' :=
 ⟨_, by unfold joinE; rw [if_neg h], M.below, fun h' => absurd h' h, fun _ => rfl⟩
theorem outF_succ {fs : List (Fr × List UInt8)} {k : Nat} {f : Fr} {bs : List UInt8} (h : fs[k]? = some (f, bs)) : outF (fs.take (k + 1)) = outF (fs.take k) ++ bs := by
 obtain ⟨hlt, he⟩ := List.getElem?_eq_some_iff.1 h
 rw [List.take_succ_eq_append_getElem hlt, outF, List.flatMap_append, he]
 simp [outF]
theorem outF_le : ∀ (fs : List (Fr × List UInt8)) (k : Nat), (∀ x ∈ fs, x.2.length ≤ 1000) → k ≤ fs.length → (outF (fs.take k)).length ≤ k * 1000
 | fs, 0, _, _ => by simp [outF]
 | fs, k + 1, h, hk => by
   have hlt : k < fs.length := by omega
   have h1 := outF_le fs k h (by omega)
   have h2 := h fs[k] (List.getElem_mem hlt)
   rw [outF_succ (f := fs[k].1) (bs := fs[k].2) (List.getElem?_eq_getElem hlt), List.length_append]
   omega
theorem join_any (v : Value) (cs : List Value) (fs : List (Fr × List UInt8)) (w : World) (hv : FrsC cs 0 w.heap.size w v fs) (hbig : ∀ x ∈ fs, x.2.length ≤ 1000) (hseq : ∀ x ∈ fs, -9223372036854775808 ≤ x.1.seq ∧ x.1.seq ≤ 9223372036854775807) : Calls Tryz.prog 152 #[v] w (JoinPost fs w) := by
 have M := Mem.start w
 have hl := hv.1.2.1
 unfold maxLen at hl
 refine calls_enter Tryz.func152 rfl 71 rfl rfl ?_; intro a S
 refine nxD (qG [1, 1] S ?_); clear S a; intro a S
 refine nxC (wp_seq (nxD (qG [1] S ?_))); clear S a; intro a S
 refine qY S (y_lenR (E := 191) S rfl ((M.frs hv).1) (by kernel_rfl)) ?_; clear S a; intro a S
 refine qG [1, 1] S ?_; clear S a; intro a S
 refine st_if (t := 14) S rfl ?_ ?_
 ·clear S; intro h14 S
  refine qG [0, 0, 0, 1] S ?_; clear S a; intro a S
  refine nxC (st_condT S rfl (nxD (qG [1, 1] S ?_))); clear S a; intro a S
  refine nxC (wp_ret (then_ret (end_two S rfl (res_tmp rfl) (res_tmp rfl) ?_)))
  exact joinPost_no M (by rintro ⟨f, bs, r, rfl, h2, _⟩; simp at *; omega)
 clear S; intro h14 S
 refine qG [1] S ?_; clear S a; intro a S
 refine qY S (y_lenR (E := 191) S rfl ((M.frs hv).1) (by kernel_rfl)) ?_; clear S a; intro a S
 refine qG [1, 1] S ?_; clear S a; intro a S
 refine nxC (st_if (t := 18) S rfl ?_ ?_)
 ·clear S; intro h18 S
  refine st_condT S rfl (nxD (qG [1, 1] S ?_)); clear S a; intro a S
  refine nxC (wp_ret (then_ret (end_two S rfl (res_tmp rfl) (res_tmp rfl) ?_)))
  exact joinPost_no M (by rintro ⟨f, bs, r, rfl, h2, _⟩; simp at *; omega)
 clear S; intro h18 S
 refine st_condF S rfl (wp_skip (nxE (qG [1] S ?_))); clear S a; intro a S
 refine nxC (wp_seq (nxD (qG [1] S ?_))); clear S a; intro a S
 refine qY S (y_lenR (E := 191) S rfl ((M.frs hv).1) (by kernel_rfl)) ?_; clear S a; intro a S
 refine qG [1] S ?_; clear S a; intro a S
 refine nxC (wp_block (wp_loop_g (fun m a w' => ∃ (k lo hi : Nat) (v' : Value), k ≤ fs.length ∧ m = fs.length - k ∧ Sees 71 a [(0, v), (4, v'), (19, v), (20, .int .i64 (fs.length : Nat)), (21, .int .i64 (k : Int))] ∧ Mem w w' [rowE lo hi 5 1 v' (outF (fs.take k)).length (bcells (outF (fs.take k)))] ∧ ∀ x ∈ fs.take k, x.1.may x.2.length = true) (fs.length) ?_ ?_))
 ·skip
  exact ⟨0, _, _, _, Nat.zero_le _, rfl, S.sub _ rfl, M.rowNil _ _, by simp⟩
 clear S M a; intro m a wl
 rintro ⟨k, lo, hi, v', hk, rfl, S, M, hmay⟩
 refine nxD (qG [1] S ?_); clear S a; intro a S
 refine nxC (wp_seq (st_if (t := 22) S rfl ?_ ?_))
 ·clear S; intro h22 S
  refine st_condT S rfl (wp_skip (then_normal (wp_seq (wp_block (nxD ?_)))))
  have hk' : k < fs.length := by omega
  obtain ⟨⟨f, bs⟩, hx⟩ : ∃ x, fs[k]? = some x := ⟨fs[k], List.getElem?_eq_getElem hk'⟩
  obtain ⟨lv, hrow, hlv⟩ := hv.2 k f bs hx
  obtain ⟨ad, cap, hlvE, -, -⟩ := hlv.form
  subst hlvE
  refine qY S (y_indexR (e := 191) (sz := 6) S (by kernel_rfl) rfl ((M.frs hv).1) rfl (by first | omega | (simp; done) | (simp; omega))) ?_; clear S a; intro a S
  try simp only [Int.toNat_natCast, Nat.mul_one, Nat.zero_add] at S
  refine qY S (y_loadAgg S (by kernel_rfl) rfl rfl (((M.frs hv).row hx hrow).1)) ?_; clear S a; intro a S
  refine st_alloc S M rfl rfl #[.int .i64 0, .int .i64 0, .int .i64 0, .int .i64 0, .int .u32 0, .slice none 0 0] (by kernel_rfl) ?_; clear S M a; intro a w1 b1 S M hB
  refine qS (sz := 6) (us := [_, _, _, _, _, _]) S M 0 ?_; clear M; intro w2 M
  refine nxC (wp_seq (nxD (qY S (y_loadAgg (cs := [_, _, _, _, _, _]) S (by kernel_rfl) rfl rfl (M.cellsAt (k := 6) 0 rfl rfl)) ?_))); clear S a; intro a S
  refine qQ (xs := [.tmp 25]) S (qE Tryz.func159) rfl (mayF_any f ad bs.length cap _) M ?_; clear S M a; intro a w3 S hK M
  refine qG [1] S ?_; clear S a; intro a S
  refine nxC (st_split (t := 27) S rfl ?_ ?_)
  ·clear S; intro h27 S
   refine st_condT S rfl (nxD (qG [1, 1] S ?_)); clear S a; intro a S
   refine nxC (wp_ret (then_ret (block_ret (then_ret (then_ret (block_ret (then_ret (end_two S rfl (res_tmp rfl) (res_tmp rfl) ?_))))))))
   exact joinPost_no M (by
    rintro ⟨f', bs', r, e, h2, h3, _⟩
    have := h3 (f, bs) (List.mem_of_getElem? hx)
    simp only [this] at h27
    simp at h27)
  clear S; intro h27 S
  refine st_condF S rfl (wp_skip (nxF (qR [1, 6, 1] S M ?_))); clear S a; intro a S
  have hob := outF_le fs k hbig hk
  have hbs : bs.length ≤ 1000 := hbig _ (List.mem_of_getElem? hx)
  refine st_append (e := 5) (sz := 1) (by_ := 1) (zc := [.int .u8 0]) S M 1 rfl rfl (by kernel_rfl) rfl (by decide) rfl rfl rfl (((M.frs hv).row hx hrow).2) (allOne_bcells _) (by omega) (by unfold maxLen; omega) ?_; clear S M a; intro a w4 vA loA hiA S M
  refine qG [1] S ?_; clear S a; intro a S
  refine wpList_nil (block_normal (nxF ?_))
  (first | refine qY S (y_addN S rfl rfl (by omega)) ?_ | refine qY S (y_int S rfl rfl rfl) ?_); clear S a; intro a S
  refine qG [1] S ?_; clear S a; intro a S
  refine nxC ?_
  refine ⟨fs.length - (k + 1), by omega, k + 1, loA, hiA, vA, by omega, rfl, S.sub _ rfl, ?_, ?_⟩
  ·have M' := M.drop 1
   rw [outF_succ hx, List.length_append, bcells_append]
   exact M'
  ·intro x hx'
   rw [List.take_succ_eq_append_getElem hk', List.mem_append] at hx'
   rcases hx' with h | h
   ·exact hmay x h
   ·simp only [List.mem_singleton] at h
    rw [List.getElem?_eq_getElem hk'] at hx
    rw [h, Option.some.inj hx]
    simpa using h27
 clear S; intro h22 S
 refine st_condF S rfl (wp_exit (then_exit (then_exit (block_hit (then_normal (wp_seq ?_))))))
 obtain rfl : k = fs.length := by omega
 rw [List.take_length] at M hmay
 obtain ⟨⟨f0, bs0⟩, hx0⟩ : ∃ x, fs[0]? = some x := ⟨fs[0], List.getElem?_eq_getElem (by omega)⟩
 obtain ⟨lv0, hrow0, hlv0⟩ := hv.2 0 f0 bs0 hx0
 have hob := outF_le fs fs.length hbig (Nat.le_refl _)
 rw [List.take_length] at hob
 refine wp_regionK [] #[false, false, false, false, false, false, false, false, false, false, false, false, false, false, false] rfl M (by kernel_rfl) ?_; clear M; intro w5 M
 refine k_pure 0 S rfl (fun w => y_move S rfl) ?_; clear S a; intro a S
 refine k_pure 1 S rfl (fun w => y_move S rfl) ?_; clear S a; intro a S
 refine k_read 2 S rfl (fun w hW => have M := M.grow hW; y_indexR (e := 191) (sz := 6) S (by kernel_rfl) rfl ((M.frs hv).1) rfl (by first | omega | (simp; done) | (simp; omega))) ?_; clear S a; intro a S
 refine k_pure 3 S rfl (fun w => y_fieldAddr (k := 0) S (by kernel_rfl) rfl) ?_; clear S a; intro a S
 refine k_read 4 S rfl (fun w hW => have M := M.grow hW; y_load S (by kernel_rfl) rfl (((M.frs hv).row hx0 hrow0).1.one 0 rfl)) ?_; clear S a; intro a S
 refine k_pure 5 S rfl (fun w => y_move S rfl) ?_; clear S a; intro a S
 refine k_read 6 S rfl (fun w hW => have M := M.grow hW; y_indexR (e := 191) (sz := 6) S (by kernel_rfl) rfl ((M.frs hv).1) rfl (by first | omega | (simp; done) | (simp; omega))) ?_; clear S a; intro a S
 refine k_pure 7 S rfl (fun w => y_fieldAddr (k := 1) S (by kernel_rfl) rfl) ?_; clear S a; intro a S
 refine k_read 8 S rfl (fun w hW => have M := M.grow hW; y_load S (by kernel_rfl) rfl (((M.frs hv).row hx0 hrow0).1.one 1 rfl)) ?_; clear S a; intro a S
 refine k_one 9 rfl (by kernel_rfl) ?_
 refine qC (xs := [.tmp 34, .tmp 38, .tmp 42]) S (qE Tryz.func102) rfl (cut_any v' (outF fs) f0.seq f0.inc _ ((M.readRow 0 rfl (by unfold maxLen; omega)).wide (Nat.zero_le _) (M.fits _ (List.mem_of_getElem? (show _[0]? = _ from rfl))).2) (hseq _ (List.mem_of_getElem? hx0))) ?_
 rintro _ w6 ⟨v2, rfl, hK, cs2, hF⟩; refine ⟨_, rfl, ?_⟩; clear S a; intro a S
 obtain ⟨lo2, hi2, hlo2, M⟩ := M.pushFrs hK hF
 refine wpList_nil ?_; refine then_normal ?_; refine ⟨fun _ => hK, ?_⟩
 refine k_pure 10 S rfl (fun w => y_move S rfl) ?_; clear S a; intro a S
 refine k_pure 11 S rfl (fun w => y_extract S rfl rfl) ?_; clear S a; intro a S
 refine k_pure 12 S rfl (fun w => y_extract S rfl rfl) ?_; clear S a; intro a S
 refine k_pure 13 S rfl (fun w => y_assign S rfl) ?_; clear S a; intro a S
 refine k_pure 14 S rfl (fun w => y_assign S rfl) ?_; clear S a; intro a S
 refine k_end (by kernel_rfl) ?_
 refine then_normal (wp_seq (nxD (qG [1, 1, 1] S ?_))); clear S a; intro a S
 refine st_if (t := 48) S rfl ?_ ?_
 ·clear S; intro h48 S
  refine qG [0, 0, 0, 0, 0, 1] S ?_; clear S a; intro a S
  replace S := S.keep [0, 4, 19, 20, 21, 22, 7, 8, 54]
  refine nxC (st_condT S rfl (nxD (qG [1, 1] S ?_))); clear S a; intro a S
  refine nxC (wp_ret (then_ret (end_two S rfl (res_tmp rfl) (res_tmp rfl) ?_)))
  exact joinPost_no M (by
   rintro ⟨f', bs', r, e, h2, h3, h4, h5⟩
   have e1 : f' = f0 := by rw [e] at hx0; simp at hx0; exact hx0.1
   subst e1
   first
    | (apply h48; unfold cutE; rw [if_pos h4])
    | (apply h54; unfold cutR; rw [if_pos h4, h5]))
 clear S; intro h48 S
 refine qG [1] S ?_; clear S a; intro a S
 refine qY S (y_lenR (E := 191) S rfl ((M.own 0 rfl).1) (by kernel_rfl)) ?_; clear S a; intro a S
 refine qG [1] S ?_; clear S a; intro a S
 refine qY S (y_lenR (E := 191) S rfl ((M.frs hv).1) (by kernel_rfl)) ?_; clear S a; intro a S
 refine qG [1, 1] S ?_; clear S a; intro a S
 replace S := S.keep [0, 4, 19, 20, 21, 22, 7, 8, 54]
 refine nxC (st_if (t := 54) S rfl ?_ ?_)
 ·clear S; intro h54 S
  refine st_condT S rfl (nxD (qG [1, 1] S ?_)); clear S a; intro a S
  refine nxC (wp_ret (then_ret (end_two S rfl (res_tmp rfl) (res_tmp rfl) ?_)))
  exact joinPost_no M (by
   rintro ⟨f', bs', r, e, h2, h3, h4, h5⟩
   have e1 : f' = f0 := by rw [e] at hx0; simp at hx0; exact hx0.1
   subst e1
   first
    | (apply h48; unfold cutE; rw [if_pos h4])
    | (apply h54; unfold cutR; rw [if_pos h4, h5]))
 clear S; intro h54 S
 refine st_condF S rfl (wp_skip (then_normal (wp_seq (nxD ?_))))
 have hc0 : cutOk (outF fs) f0.seq f0.inc := by
  by_cases h : cutOk (outF fs) f0.seq f0.inc
  ·exact h
  ·unfold cutE at h48; rw [if_neg h] at h48; split at h48 <;> omega
 have hlen : (cutR (outF fs) f0.seq f0.inc).length = fs.length := by omega
 refine qY S (y_move S rfl) ?_; clear S a; intro a S
 refine qY S (y_lenR (E := 191) S rfl ((M.frs hv).1) (by kernel_rfl)) ?_; clear S a; intro a S
 refine qG [1] S ?_; clear S a; intro a S
 refine nxC (wp_block (wp_loop_g (fun m a w' => ∃ (k : Nat), k ≤ fs.length ∧ m = fs.length - k ∧ Sees 71 a [(0, v), (4, v'), (7, v2), (55, v), (56, .int .i64 (fs.length : Nat)), (57, .int .i64 (k : Int))] ∧ Mem w w' [.own lo2 hi2 (fun w => FrsC cs2 lo2 hi2 w v2 (cutR (outF fs) f0.seq f0.inc)), rowE lo hi 5 1 v' (outF fs).length (bcells (outF fs))] ∧ ∀ i, i < k → fs[i]? = (cutR (outF fs) f0.seq f0.inc)[i]?) (fs.length) ?_ ?_))
 ·skip
  exact ⟨0, Nat.zero_le _, rfl, S.sub _ rfl, M, fun i hi => by omega⟩
 clear S M a; intro m a wl
 rintro ⟨k, hk, rfl, S, M, hsame⟩
 refine nxD (qG [1] S ?_); clear S a; intro a S
 refine nxC (wp_seq (st_fi (t := 58) S rfl ?_ ?_))
 ·clear S; intro h58 S
  refine st_condF S rfl (wp_exit (then_exit (then_exit (block_hit (nxE (qG [1, 1, 1] S ?_)))))); clear S a; intro a S
  refine nxC (wp_ret (end_two S rfl (res_tmp rfl) (res_tmp rfl) ?_))
  obtain rfl : k = fs.length := by omega
  have hjo : joinOk fs := by
   obtain ⟨x, r, e⟩ : ∃ x r, fs = x :: r := by cases fs with | nil => simp at hx0 | cons x r => exact ⟨x, r, rfl⟩
   have e0 : x = (f0, bs0) := by rw [e] at hx0; simpa using hx0
   refine ⟨f0, bs0, r, by rw [e, e0], by omega, hmay, hc0, ?_⟩
   unfold cutR at hsame hlen
   rw [if_pos hc0] at hsame hlen
   apply List.ext_getElem?
   intro i
   rcases Nat.lt_or_ge i fs.length with h | h
   ·exact (hsame i h).symm
   ·rw [List.getElem?_eq_none h, List.getElem?_eq_none (by omega)]
  exact ⟨_, by unfold joinE; rw [if_pos hjo], M.below, fun _ => M.fresh 1 rfl, fun h => absurd hjo h⟩
 clear S; intro h58 S
 refine st_condT S rfl (wp_skip (then_normal (wp_seq (wp_block (nxD ?_)))))
 have hk' : k < fs.length := by omega
 obtain ⟨⟨f, bs⟩, hx⟩ : ∃ x, fs[k]? = some x := ⟨fs[k], List.getElem?_eq_getElem hk'⟩
 obtain ⟨lv, hrow, hlv⟩ := hv.2 k f bs hx
 obtain ⟨ad, cap, hlvE, -, -⟩ := hlv.form
 subst hlvE
 obtain ⟨⟨g, gs⟩, hx2⟩ : ∃ x, (cutR (outF fs) f0.seq f0.inc)[k]? = some x := ⟨_, List.getElem?_eq_getElem (by omega)⟩
 obtain ⟨lv2, hrow2, hlv2⟩ := (M.own 0 rfl).2 k g gs hx2
 refine qY S (y_move S rfl) ?_; clear S a; intro a S
 refine qY S (y_indexR (e := 191) (sz := 6) S (by kernel_rfl) rfl ((M.frs hv).1) rfl (by first | omega | (simp; done) | (simp; omega))) ?_; clear S a; intro a S
 try simp only [Int.toNat_natCast, Nat.mul_one, Nat.zero_add] at S
 refine qY S (y_loadAgg S (by kernel_rfl) rfl rfl (((M.frs hv).row hx hrow).1)) ?_; clear S a; intro a S
 refine st_alloc S M rfl rfl #[.int .i64 0, .int .i64 0, .int .i64 0, .int .i64 0, .int .u32 0, .slice none 0 0] (by kernel_rfl) ?_; clear S M a; intro a w7 b2 S M hB
 refine qG [1] S ?_; clear S a; intro a S
 refine qS (sz := 6) (us := [_, _, _, _, _, _]) S M 0 ?_; clear M; intro w8 M
 refine nxC (wp_seq (wp_quiet M (by kernel_rfl) (by kernel_rfl) ?_))
 refine qt_y S rfl rfl rfl (fun w M => y_loadAgg (cs := [_, _, _, _, _, _]) S (by kernel_rfl) rfl rfl (M.cellsAt (k := 6) 0 rfl rfl)) ?_; clear S a; intro a S
 refine qt_y S rfl rfl rfl (fun w M => y_move S rfl) ?_; clear S a; intro a S
 refine qt_y S rfl rfl rfl (fun w M => y_move S rfl) ?_; clear S a; intro a S
 refine qt_y S rfl rfl rfl (fun w M => y_indexR (e := 191) (sz := 6) S (by kernel_rfl) rfl ((M.own 1 rfl).1) rfl (by first | omega | (simp; done) | (simp; omega))) ?_; clear S a; intro a S
 try simp only [Int.toNat_natCast, Nat.mul_one, Nat.zero_add] at S
 refine qt_y S rfl rfl rfl (fun w M => y_loadAgg S (by kernel_rfl) rfl rfl (((M.own 1 rfl).row hx2 hrow2).1)) ?_; clear S a; intro a S
 refine qt_call (xs := [.tmp 62, .tmp 66]) S (enters_of Tryz.func162 (by decide) rfl) rfl rfl rfl (quiet_of fun w M => sameF_any f g _ _ bs gs w (((M.frs hv).row hx hrow).2.wide (Nat.le_refl _) M.below.size) (((M.own 1 rfl).row hx2 hrow2).2.wide (Nat.zero_le _) (M.fits _ (List.mem_of_getElem? (show _[1]? = _ from rfl))).2)) ?_; clear S a; intro a S
 refine qt_y S rfl rfl rfl (fun w M => y_not S rfl) ?_; clear S a; intro a S
 refine wpQuiet_nil ?_; clear M; intro w10 M
 refine then_normal (st_fi (t := 68) S rfl ?_ ?_)
 ·clear S; intro h68 S
  refine st_condF S rfl (wp_skip (block_normal (nxF ?_)))
  (first | refine qY S (y_addN S rfl rfl (by omega)) ?_ | refine qY S (y_int S rfl rfl rfl) ?_); clear S a; intro a S
  refine qG [1] S ?_; clear S a; intro a S
  refine nxC ?_
  refine ⟨fs.length - (k + 1), by omega, k + 1, by omega, rfl, S.sub _ rfl, M.drop 0, ?_⟩
  intro i hi'
  rcases Nat.lt_or_ge i k with h | h
  ·exact hsame i h
  ·have : i = k := by omega
   subst this
   have h68' : f.same g bs gs = true := by simpa using h68
   obtain ⟨rfl, rfl⟩ := Fr.same_iff.1 h68'
   rw [hx, hx2]
 clear S; intro h68 S
 refine st_condT S rfl (nxD (qG [1, 1] S ?_)); clear S a; intro a S
 refine nxC (wp_ret (block_ret (then_ret (then_ret (block_ret (then_ret (end_two S rfl (res_tmp rfl) (res_tmp rfl) ?_)))))))
 exact joinPost_no M (by
  rintro ⟨f', bs', r, e, h2, h3, h4, h5⟩
  have e1 : f' = f0 := by rw [e] at hx0; simp at hx0; exact hx0.1
  subst e1
  unfold cutR at hx2
  rw [if_pos h4, h5, hx] at hx2
  have e2 := Option.some.inj hx2
  have : f.same g bs gs = true := Fr.same_iff.2 ⟨congrArg Prod.fst e2, congrArg Prod.snd e2⟩
  rw [this] at h68; simp at h68)
end Go.Proofs.YtndabhdepjnbcaaGreat
namespace Go.Proofs.YtndabhdepjnbcaaGreat
open Go.RowKit Go.Sort
theorem number_any (v : Value) (bs : List UInt8) (at_ k : Int) (w : World) (hv : Bs 0 w.heap.size w v bs) (hk : -9223372036854775808 ≤ k) : Calls Tryz.prog 154 #[v, .int .i64 at_, .int .i64 k] w fun e w' => e = .returned (.int .i64 (getN bs at_ k)) ∧ Below w.heap.size w w' := by
 have M := Mem.start w
 refine calls_enter Tryz.func154 rfl 17 rfl rfl ?_; intro a S
 refine nxD (qG [1] S ?_); clear S a; intro a S
 refine nxA (qG [1, 1, 1] S ?_); clear S a; intro a S
 refine qQ (xs := [.tmp 10, .tmp 11, .tmp 12]) S (qE Tryz.func77) rfl (get_any v bs at_ k _ (M.argW hv) hk) M ?_; clear S M a; intro a w1 S hK M
 refine qG [1, 1, 1, 1, 1] S ?_; clear S a; intro a S
 refine nxA (qG [1, 1] S ?_); clear S a; intro a S
 refine nxC (wp_ret (end_one S rfl (res_tmp rfl) ?_))
 exact ⟨rfl, M.below⟩
def fiveN (f : Fr) (l : Nat) : List (Int × Nat) := [(f.seq, 6), (f.inc, 3), (16 * f.part + f.of, 1), ((l : Int), 1), ((f.mark.toNat : Int), 4)]
def five (f : Fr) (l : Nat) (k : Nat) : List UInt8 := ((fiveN f l).take k).flatMap fun x => leB x.1 x.2
def padL (ld : List UInt8) : List UInt8 := ld ++ List.replicate (45 - ld.length) 0
def bytesF (f : Fr) (ld : List UInt8) : List UInt8 := sealB (five f ld.length 5 ++ padL ld)
def arr5 (f : Fr) (l : Nat) : List Value := [.int .i64 f.seq, .int .i64 6, .int .i64 f.inc, .int .i64 3, .int .i64 (16 * f.part + f.of), .int .i64 1, .int .i64 (l : Int), .int .i64 1, .int .i64 (f.mark.toNat : Int), .int .i64 4]
def BytesPost (f : Fr) (ld : List UInt8) (w : World) (e : Ending) (w' : World) : Prop :=
 ∃ v', e = .returned (.tuple #[v', .int .i64 (if f.may ld.length then 0 else 2)]) ∧ Below w.heap.size w w' ∧ (f.may ld.length = true → Fresh w w' 5 1 v' (bytesF f ld).length (bcells (bytesF f ld))) ∧ (f.may ld.length = false → v' = .slice none 0 0)
theorem pad_cells (ld : List UInt8) : (List.replicate 45 (Value.int .u8 0)).take 0 ++ bcells ld ++ (List.replicate 45 (Value.int .u8 0)).drop (0 + ld.length) = bcells (padL ld) := by
 rw [List.take_zero, List.nil_append, Nat.zero_add, List.drop_replicate, padL, bcells_append]
 congr 1
 unfold bcells; rw [List.map_replicate]; rfl
theorem padL_length {ld : List UInt8} (h : ld.length ≤ 45) : (padL ld).length = 45 := by rw [padL, List.length_append, List.length_replicate]; omega
theorem five_elem (f : Fr) (l k : Nat) (h : k < 5) : ∃ x, (fiveN f l)[k]? = some x ∧ cutL (arr5 f l) (k * 2) 2 = some [.int .i64 x.1, .int .i64 (x.2 : Int)] := by
 match k, h with
 | 0, _ => exact ⟨_, rfl, rfl⟩
 | 1, _ => exact ⟨_, rfl, rfl⟩
 | 2, _ => exact ⟨_, rfl, rfl⟩
 | 3, _ => exact ⟨_, rfl, rfl⟩
 | 4, _ => exact ⟨_, rfl, rfl⟩
theorem five_fits {f : Fr} {l k : Nat} {x : Int × Nat} (hm : f.may l = true) (h : (fiveN f l)[k]? = some x) : fitsP x.1 (x.2 : Int) := by
 simp only [Fr.may, decide_eq_true_eq] at hm
 have hmk := f.mark.isLt
 match k, h with
 | 0, h => simp [fiveN] at h; subst h; simp [fitsP]; omega
 | 1, h => simp [fiveN] at h; subst h; simp [fitsP]; omega
 | 2, h => simp [fiveN] at h; subst h; simp [fitsP]; omega
 | 3, h => simp [fiveN] at h; subst h; simp [fitsP]; omega
 | 4, h => simp [fiveN] at h; subst h; simp [fitsP]; omega
 | k + 5, h => simp [fiveN] at h
theorem five_succ {f : Fr} {l k : Nat} {x : Int × Nat} (h : (fiveN f l)[k]? = some x) : five f l (k + 1) = five f l k ++ leB x.1 x.2 := by
 obtain ⟨hlt, he⟩ := List.getElem?_eq_some_iff.1 h
 unfold five
 rw [List.take_succ_eq_append_getElem hlt, List.flatMap_append, he]; simp
theorem five_len (f : Fr) (l k : Nat) : (five f l k).length ≤ 15 := by
 unfold five
 match k with
 | 0 => simp
 | 1 => simp [fiveN, leB_length]
 | 2 => simp [fiveN, leB_length]
 | 3 => simp [fiveN, leB_length]
 | 4 => simp [fiveN, leB_length]
 | k + 5 => simp [fiveN, leB_length]
set_option maxHeartbeats 1000000 in
theorem bytes_any (f : Fr) (lv : Value) (ld : List UInt8) (w : World) (hv : Bs 0 w.heap.size w lv ld) : Calls Tryz.prog 144 #[.agg (f.cells lv).toArray] w (BytesPost f ld w) := by
 obtain ⟨ad, cap, rfl, -, -⟩ := hv.form
 have M := Mem.start w
 refine calls_enter Tryz.func144 rfl 59 rfl rfl ?_; intro a S
 refine nxD (st_box S M rfl rfl rfl #[_, _, _, _, _, _] rfl ?_); clear S M a; intro a w1 b1 S M hB
 refine qG [1, 1] S ?_; clear S a; intro a S
 refine nxC (wp_seq (nxD (qY S (y_loadAgg (cs := [_, _, _, _, _, _]) S (by kernel_rfl) rfl rfl (M.cellsAt (k := 6) 0 rfl rfl)) ?_))); clear S a; intro a S
 refine qQ (xs := [.tmp 11]) S (qE Tryz.func159) rfl (mayF_any f ad ld.length cap _) M ?_; clear S M a; intro a w2 S hK M
 refine qG [1] S ?_; clear S a; intro a S
 refine nxC (st_split (t := 13) S rfl ?_ ?_)
 ·clear S; intro h13 S
  refine st_condT S rfl (nxD (qG [1, 1] S ?_)); clear S a; intro a S
  refine nxC (wp_ret (then_ret (end_two S rfl (res_tmp rfl) (res_tmp rfl) ?_)))
  have hm : f.may ld.length = false := by simpa using h13
  exact ⟨_, by rw [hm]; rfl, M.below, fun h => absurd h (by simp [hm]), fun _ => rfl⟩
 clear S; intro h13 S
 refine st_condF S rfl (wp_skip (nxE ?_))
 have hm : f.may ld.length = true := by simpa using h13
 have hm' := hm
 simp only [Fr.may, decide_eq_true_eq] at hm'
 refine st_alloc S M rfl rfl #[.int .u8 0, .int .u8 0, .int .u8 0, .int .u8 0, .int .u8 0, .int .u8 0, .int .u8 0, .int .u8 0, .int .u8 0, .int .u8 0, .int .u8 0, .int .u8 0, .int .u8 0, .int .u8 0, .int .u8 0, .int .u8 0, .int .u8 0, .int .u8 0, .int .u8 0, .int .u8 0, .int .u8 0, .int .u8 0, .int .u8 0, .int .u8 0, .int .u8 0, .int .u8 0, .int .u8 0, .int .u8 0, .int .u8 0, .int .u8 0, .int .u8 0, .int .u8 0, .int .u8 0, .int .u8 0, .int .u8 0, .int .u8 0, .int .u8 0, .int .u8 0, .int .u8 0, .int .u8 0, .int .u8 0, .int .u8 0, .int .u8 0, .int .u8 0, .int .u8 0] (by kernel_rfl) ?_; clear S M a; intro a w3 b2 S M hB
 refine nxC (wp_seq (wp_regionK [3] #[false, false, false, false, false] rfl M (by kernel_rfl) ?_)); clear M; intro w4 M
 refine k_pure 0 S rfl (fun w => y_sliceA (m := 45) (sz := 1) S (by kernel_rfl) rfl) ?_; clear S a; intro a S
 refine k_pure 1 S rfl (fun w => y_fieldAddr (k := 5) S (by kernel_rfl) rfl) ?_; clear S a; intro a S
 refine k_read 2 S rfl (fun w hW => have M := M.grow hW; y_load S (by kernel_rfl) rfl (M.cell 1 rfl rfl)) ?_; clear S a; intro a S
 refine k_one 3 rfl (by kernel_rfl) ?_
 refine st_copy (e := 5) (us := bcells ld) S M 0 rfl rfl (by kernel_rfl) rfl rfl rfl (M.arg hv) (List.take_of_length_le (by simp [bcells]; omega)) (allOne_bcells _) (by simp [bcells]; omega) ?_; clear S M a; intro a w5 S M
 simp only [List.set_cons_zero, List.set_cons_succ] at M
 refine wpList_nil ?_; refine then_normal ?_; refine ⟨fun h => absurd h (by decide), ?_⟩
 refine k_pure 4 S rfl (fun w => y_assign S rfl) ?_; clear S a; intro a S
 refine k_end (by kernel_rfl) ?_
 refine nxE ?_
 rw [bcells_length] at S M
 have M0 := M
 replace M : Mem w w5 [.blk b2 (bcells (padL ld)).toArray 236, .blk b1 (f.cells (.slice ad ld.length cap)).toArray 191] := by rw [← pad_cells]; exact M0
 clear M0
 refine st_make (e := 5) (sz := 1) (by_ := 1) (zc := [.int .u8 0]) S M rfl rfl (by kernel_rfl) rfl rfl (by omega) (by omega) (by omega) (by omega) ?_; clear S M a; intro a w6 b3 S M hB
 try simp only [Int.toNat_natCast, Int.reduceToNat, Nat.reduceMul] at S M
 refine qG [1] S ?_; clear S a; intro a S
 refine nxC (wp_seq (nxD ?_))
 replace M := M.toRow (sz := 1) (m := 0) (cap := 60) (xs := []) 0 rfl rfl (by omega) (by unfold maxLen; omega) (by simp [madeL_length]) (by simp)
 have hmk := f.mark.isLt
 refine qY S (y_fieldAddr (k := 0) S (by kernel_rfl) rfl) ?_; clear S a; intro a S
 refine qR [3] S M ?_; clear S a; intro a S
 refine qY S (y_build (ps := [(0, .tmp 20), (1, .const (.int .i64 6))]) (pl := [(0, 1), (1, 1)]) (z := [.int .i64 0, .int .i64 0]) (cs := [_, _]) S (by kernel_rfl) rfl (rfl)) ?_; clear S a; intro a S
 refine qR [2, 3] S M ?_; clear S a; intro a S
 refine qY S (y_build (ps := [(0, .tmp 23), (1, .const (.int .i64 3))]) (pl := [(0, 1), (1, 1)]) (z := [.int .i64 0, .int .i64 0]) (cs := [_, _]) S (by kernel_rfl) rfl (rfl)) ?_; clear S a; intro a S
 refine qR [3, 3] S M ?_; clear S a; intro a S
 (first | refine qY S (y_mulN S rfl rfl (by omega)) ?_ | refine qY S (y_int S rfl rfl rfl) ?_); clear S a; intro a S
 refine qR [4, 3] S M ?_; clear S a; intro a S
 (first | refine qY S (y_addN S rfl rfl (by omega)) ?_ | refine qY S (y_int S rfl rfl rfl) ?_); clear S a; intro a S
 refine qY S (y_build (ps := [(0, .tmp 30), (1, .const (.int .i64 1))]) (pl := [(0, 1), (1, 1)]) (z := [.int .i64 0, .int .i64 0]) (cs := [_, _]) S (by kernel_rfl) rfl (rfl)) ?_; clear S a; intro a S
 refine qG [1] S ?_; clear S a; intro a S
 refine qY S (y_build (ps := [(0, .tmp 32), (1, .const (.int .i64 1))]) (pl := [(0, 1), (1, 1)]) (z := [.int .i64 0, .int .i64 0]) (cs := [_, _]) S (by kernel_rfl) rfl (rfl)) ?_; clear S a; intro a S
 refine qR [5, 3] S M ?_; clear S a; intro a S
 (first | refine qY S (y_to64 S rfl (by kernel_rfl) (by kernel_rfl) (by omega)) ?_ | refine qY S (y_conv (k' := .i64) S rfl (by kernel_rfl) (by kernel_rfl)) ?_); clear S a; intro a S
 refine qY S (y_build (ps := [(0, .tmp 36), (1, .const (.int .i64 4))]) (pl := [(0, 1), (1, 1)]) (z := [.int .i64 0, .int .i64 0]) (cs := [_, _]) S (by kernel_rfl) rfl (rfl)) ?_; clear S a; intro a S
 refine qY S (y_buildA (ps := [(0, .tmp 21), (1, .tmp 24), (2, .tmp 31), (3, .tmp 33), (4, .tmp 37)]) (sz := 2) (z := [.int .i64 0, .int .i64 0, .int .i64 0, .int .i64 0, .int .i64 0, .int .i64 0, .int .i64 0, .int .i64 0, .int .i64 0, .int .i64 0]) (cs := [_, _, _, _, _, _, _, _, _, _]) S (by kernel_rfl) rfl rfl) ?_; clear S a; intro a S
 refine qG [1] S ?_; clear S a; intro a S
 replace S := S.keep [0, 1, 2, 3, 13, 4, 5, 6, 38, 39]
 refine nxC (wp_block (wp_loop_g (fun m a w' => ∃ (k lo hi : Nat) (v' : Value), k ≤ 5 ∧ m = 5 - k ∧ Sees 59 a [(4, .pointer (some ⟨b2, 0, none⟩)), (6, v'), (38, .agg (arr5 f ld.length).toArray), (39, .int .i64 (k : Int))] ∧ Mem w w' [rowE lo hi 5 1 v' (five f ld.length k).length (bcells (five f ld.length k)), .blk b2 (bcells (padL ld)).toArray 236]) (5) ?_ ?_))
 ·skip
  exact ⟨0, _, _, _, Nat.zero_le _, rfl, S.sub _ rfl, M.drop 2⟩
 clear S M a; intro m a wl
 rintro ⟨k, lo, hi, v', hk, rfl, S, M⟩
 refine nxD (qG [1] S ?_); clear S a; intro a S
 refine nxC (wp_seq (st_fi (t := 40) S rfl ?_ ?_))
 ·clear S; intro h40 S
  refine st_condF S rfl (wp_exit (then_exit (then_exit (block_hit (nxE ?_)))))
  obtain rfl : k = 5 := by omega
  have hlen15 := five_len f ld.length 5
  refine qY S (y_move S rfl) ?_; clear S a; intro a S
  refine qY S (y_sliceA (m := 45) (sz := 1) S (by kernel_rfl) rfl) ?_; clear S a; intro a S
  have hp : Rd b2 (b2 + 1) wl 1 (.slice (some ⟨b2, 0, none⟩) 45 45) (padL ld).length (bcells (padL ld)) := by
   rw [padL_length (by omega)]
   exact Rd.of_blk (M.blk 1 rfl) (by rw [bcells_length, padL_length (by omega)]) (Nat.le_refl _) (by unfold maxLen; omega) (List.take_of_length_le (by simp [bcells_length, padL_length (show ld.length ≤ 45 by omega)]))
  have hpl := padL_length (show ld.length ≤ 45 by omega)
  refine st_append (e := 5) (sz := 1) (by_ := 1) (zc := [.int .u8 0]) S M 0 rfl rfl (by kernel_rfl) rfl (by decide) rfl rfl rfl (hp) (allOne_bcells _) (by omega) (by unfold maxLen; omega) ?_; clear S M a; intro a w10 vA loA hiA S M
  refine qC (xs := [.tmp 57]) S (qE Tryz.func126) rfl (seal_any vA (five f ld.length 5 ++ padL ld) _ (by have := (M.readRow 0 rfl (by unfold maxLen; omega)).wide (Nat.zero_le _) (M.fits _ (List.mem_of_getElem? (show _[0]? = _ from rfl))).2; unfold Bs; rw [bcells_append, List.length_append]; exact this) (by rw [List.length_append]; omega)) ?_
  rintro _ w11 ⟨v3, rfl, hF⟩; refine ⟨_, rfl, ?_⟩; clear S a; intro a S
  obtain ⟨lo3, hi3, -, M⟩ := M.pushFresh hF
  refine qG [1, 1] S ?_; clear S a; intro a S
  refine nxC (wp_ret (end_two S rfl (res_tmp rfl) (res_tmp rfl) ?_))
  exact ⟨_, by rw [hm]; rfl, M.below, fun _ => M.fresh 0 rfl, fun h => absurd hm (by simp [h])⟩
 clear S; intro h40 S
 refine st_condT S rfl (wp_skip (then_normal (wp_seq (wp_block (nxD ?_)))))
 have hk5 : k < 5 := by omega
 obtain ⟨⟨xn, xk⟩, hx, hxc⟩ := five_elem f ld.length k hk5
 have hfit := five_fits hm hx
 have hlen15 := five_len f ld.length k
 refine qY S (y_indexV (m := 5) (sz := 2) (k := 2) (es := [_, _]) S (by kernel_rfl) (fun e he => by cases he.symm.trans (show _ = some (.array 5 237) by kernel_rfl); kernel_rfl) rfl rfl (by first | omega | (simp; done) | (simp; omega)) (hxc)) ?_; clear S a; intro a S
 refine st_alloc S M rfl rfl #[.int .i64 0, .int .i64 0] (by kernel_rfl) ?_; clear S M a; intro a w7 b4 S M hB
 refine qS (sz := 2) (us := [_, _]) S M 0 ?_; clear M; intro w8 M
 refine nxA (qR [1, 1, 1, 2, 1] S M ?_); clear S a; intro a S
 refine qC (xs := [.tmp 43, .tmp 45, .tmp 47]) S (qE Tryz.func82) rfl (put_any v' (five f ld.length k) xn (xk : Int) _ ((M.readRow 1 rfl (by unfold maxLen; omega)).wide (Nat.zero_le _) (M.fits _ (List.mem_of_getElem? (show _[1]? = _ from rfl))).2) (by omega)) ?_
 rintro _ w9 ⟨v2, rfl, hK, hF, -⟩; refine ⟨_, rfl, ?_⟩; clear S a; intro a S
 replace hF := hF hfit
 obtain ⟨lo2, hi2, -, M⟩ := M.pushFresh hF
 rw [show putE xn (xk : Int) = 0 from by unfold putE; rw [if_pos hfit]] at S
 refine qG [1, 1, 1, 1, 1] S ?_; clear S a; intro a S
 refine nxC (wp_seq (nxD (qG [1, 1] S ?_))); clear S a; intro a S
 refine nxC (st_if (t := 52) S rfl ?_ ?_)
 ·clear S; intro h52 S
  exact absurd rfl h52
 clear S; intro h52 S
 refine st_condF S rfl (wp_skip (nxF (qG [1, 1] S ?_))); clear S a; intro a S
 refine wpList_nil (block_normal (nxF ?_))
 (first | refine qY S (y_addN S rfl rfl (by omega)) ?_ | refine qY S (y_int S rfl rfl rfl) ?_); clear S a; intro a S
 refine qG [1] S ?_; clear S a; intro a S
 replace S := S.keep [4, 38, 40, 8, 9, 10, 52, 6, 39]
 refine nxC ?_
 replace M := M.drop 1
 simp only [List.eraseIdx_cons_succ, List.eraseIdx_cons_zero] at M
 replace M := M.drop 1
 simp only [List.eraseIdx_cons_succ, List.eraseIdx_cons_zero] at M
 refine ⟨5 - (k + 1), by omega, k + 1, lo2, hi2, v2, by omega, rfl, S.sub _ rfl, ?_⟩
 rw [five_succ hx]
 rw [Int.toNat_natCast] at M
 exact M
end Go.Proofs.YtndabhdepjnbcaaGreat
namespace Go.Proofs.YtndabhdepjnbcaaGreat
open Go.RowKit Go.Sort
def frIn (x : List UInt8) : Fr := ⟨getN x 0 6, getN x 6 3, getN x 9 1 / 16, getN x 9 1 % 16, BitVec.ofInt 32 (getN x 11 4)⟩
def ldIn (x : List UInt8) : List UInt8 := (x.drop 15).take (getN x 10 1).toNat
open Classical in
noncomputable def readF (bs : List UInt8) : Option (Fr × List UInt8) :=
 if bs.length = 64 ∧ openOk bs ∧ getN (bs.take 60) 10 1 ≤ 45 ∧ (frIn (bs.take 60)).may (ldIn (bs.take 60)).length = true ∧ bytesF (frIn (bs.take 60)) (ldIn (bs.take 60)) = bs then some (frIn (bs.take 60), ldIn (bs.take 60)) else none
def zeroFr : Fr := ⟨0, 0, 0, 0, 0#32⟩
theorem getN_bd (x : List UInt8) (i k : Int) (hk : k ≤ 6) : 0 ≤ getN x i k ∧ getN x i k ≤ 281474976710655 := by
 unfold getN
 split
 ·rename_i h
  have h1 := leN_lt ((x.drop i.toNat).take k.toNat)
  have h2 : 256 ^ ((x.drop i.toNat).take k.toNat).length ≤ 256 ^ 6 := Nat.pow_le_pow_right (by omega) (by rw [List.length_take]; omega)
  omega
 ·omega
theorem getN_bd1 (x : List UInt8) (i : Int) : getN x i 1 ≤ 255 := by
 unfold getN
 split
 ·have h1 := leN_lt ((x.drop i.toNat).take (1 : Int).toNat)
  have h2 : 256 ^ ((x.drop i.toNat).take (1 : Int).toNat).length ≤ 256 ^ 1 := Nat.pow_le_pow_right (by omega) (by rw [List.length_take]; exact Nat.min_le_left _ _)
  omega
 ·omega
theorem five5_length (f : Fr) (l : Nat) : (five f l 5).length = 15 := by simp [five, fiveN, leB_length]
theorem bytesF_length {f : Fr} {ld : List UInt8} (h : f.may ld.length = true) : (bytesF f ld).length = 64 := by
 simp only [Fr.may, decide_eq_true_eq] at h
 simp only [bytesF, sealB, List.length_append, five5_length, padL_length (show ld.length ≤ 45 by omega), sum4, List.length_cons, List.length_nil]
def ReadPost (bs : List UInt8) (w : World) (e : Ending) (w' : World) : Prop :=
 ∃ f lv E, e = .returned (.tuple #[.agg (Fr.cells f lv).toArray, .int .i64 E]) ∧ Below w.heap.size w w' ∧ (∀ g ld, readF bs = some (g, ld) → f = g ∧ E = 0 ∧ Fresh w w' 5 1 lv ld.length (bcells ld)) ∧ (readF bs = none → f = zeroFr ∧ lv = .slice none 0 0 ∧ E = 40)
theorem readPost_no {bs : List UInt8} {w w' : World} {H : List Ent} (M : Mem w w' H) (h : readF bs = none) : ReadPost bs w (.returned (.tuple #[.agg (zeroFr.cells (.slice none 0 0)).toArray, .int .i64 40])) w' :=
 ⟨zeroFr, _, _, rfl, M.below, (fun g ld h' => by rw [h] at h'; cases h'), fun _ => ⟨rfl, rfl, rfl⟩⟩
set_option maxHeartbeats 2000000 in
theorem read_any (v : Value) (bs : List UInt8) (w : World) (hv : Bs 0 w.heap.size w v bs) (hb : bs.length ≤ 1000) : Calls Tryz.prog 112 #[v] w (ReadPost bs w) := by
 have M := Mem.start w
 refine calls_enter Tryz.func112 rfl 64 rfl rfl ?_; intro a S
 refine nxD (st_alloc S M rfl rfl #[.int .i64 0, .int .i64 0, .int .i64 0, .int .i64 0, .int .u32 0, .slice none 0 0] (by kernel_rfl) ?_); clear S M a; intro a w1 b1 S M hB
 refine qG [1] S ?_; clear S a; intro a S
 refine nxC (wp_seq (nxD (qG [1] S ?_))); clear S a; intro a S
 refine qY S (y_lenR (E := 5) S rfl (M.arg hv) (by kernel_rfl)) ?_; clear S a; intro a S
 refine qG [1] S ?_; clear S a; intro a S
 refine nxC (st_if (t := 13) S rfl ?_ ?_)
 ·clear S; intro h13 S
  refine st_condT S rfl (nxD (qY S (y_build (ps := []) (pl := [(0, 1), (1, 1), (2, 1), (3, 1), (4, 1), (5, 1)]) (z := [.int .i64 0, .int .i64 0, .int .i64 0, .int .i64 0, .int .u32 0, .slice none 0 0]) (cs := [_, _, _, _, _, _]) S (by kernel_rfl) rfl (rfl)) ?_)); clear S a; intro a S
  refine qS (sz := 6) (us := [_, _, _, _, _, _]) S M 0 ?_; clear M; intro w2 M
  refine qG [1] S ?_; clear S a; intro a S
  refine nxC (wp_ret (then_ret (end_two S rfl (res_agg (cs := [_, _, _, _, _, _]) (by kernel_rfl) rfl rfl (M.cellsAt (k := 6) 0 rfl rfl)) (res_tmp rfl) ?_)))
  exact readPost_no M (by unfold readF; rw [if_neg]; rintro ⟨h, _⟩; omega)
 clear S; intro h13 S
 refine st_condF S rfl (wp_skip (nxE (qG [1] S ?_))); clear S a; intro a S
 refine qC (xs := [.tmp 16]) S (qE Tryz.func107) rfl (open_any v bs _ (M.argW hv) (by omega)) ?_
 rintro _ w3 ⟨v4, rfl, hK, hO, hN⟩; refine ⟨_, rfl, ?_⟩; clear S a; intro a S
 obtain ⟨loI, hiI, -, M⟩ := M.pushFresh (fresh_if hK hO hN)
 refine qG [1, 1, 1, 1, 1] S ?_; clear S a; intro a S
 refine nxC (wp_seq (nxD (qG [1, 1] S ?_))); clear S a; intro a S
 refine nxC (st_split (t := 21) S rfl ?_ ?_)
 ·clear S; intro h21 S
  refine st_condT S rfl (nxD (qY S (y_build (ps := []) (pl := [(0, 1), (1, 1), (2, 1), (3, 1), (4, 1), (5, 1)]) (z := [.int .i64 0, .int .i64 0, .int .i64 0, .int .i64 0, .int .u32 0, .slice none 0 0]) (cs := [_, _, _, _, _, _]) S (by kernel_rfl) rfl (rfl)) ?_)); clear S a; intro a S
  refine qS (sz := 6) (us := [_, _, _, _, _, _]) S M 1 ?_; clear M; intro w4 M
  refine qG [1] S ?_; clear S a; intro a S
  refine nxC (wp_ret (then_ret (end_two S rfl (res_agg (cs := [_, _, _, _, _, _]) (by kernel_rfl) rfl rfl (M.cellsAt (k := 6) 1 rfl rfl)) (res_tmp rfl) ?_)))
  exact readPost_no M (by unfold readF; rw [if_neg]; rintro ⟨_, h, _⟩; rw [openB_true h] at h21; simp at h21)
 clear S; intro h21 S
 refine st_condF S rfl (wp_skip (nxE ?_))
 have hok : openOk bs := by
  by_cases h : openOk bs
  ·exact h
  ·rw [openB_false h] at h21; simp at h21
 have h64 : bs.length = 64 := by omega
 rw [ifL_pos hok, show bs.length - 4 = 60 by omega] at M
 have hx60 : (bs.take 60).length = 60 := by rw [List.length_take]; omega
 generalize hX : bs.take 60 = X at *
 have hm60 : X.length ≤ maxLen := by rw [hx60]; unfold maxLen; omega
 have hb10 := getN_bd X 10 1 (by omega)
 have hb9 := getN_bd X 9 1 (by omega)
 have hb9' := getN_bd1 X 9
 have hl10 : (ldIn X).length = (getN X 10 1).toNat ∨ 45 < getN X 10 1 := by
  rcases Int.lt_or_le 45 (getN X 10 1) with h | h
  ·exact .inr h
  ·left; simp only [ldIn, List.length_take, List.length_drop]; omega
 refine qY S (y_move S rfl) ?_; clear S a; intro a S
 refine qQ (xs := [.tmp 23, .const (.int .i64 10), .const (.int .i64 1)]) S (qE Tryz.func154) rfl (number_any v4 X _ _ _ ((M.readRow 0 rfl hm60).wide (Nat.zero_le _) (M.fits _ (List.mem_of_getElem? (show _[0]? = _ from rfl))).2) (by omega)) M ?_; clear S M a; intro a w5 S hK M
 refine qG [1] S ?_; clear S a; intro a S
 refine nxC (wp_seq (nxD (qG [1, 1] S ?_))); clear S a; intro a S
 refine nxC (st_if (t := 26) S rfl ?_ ?_)
 ·clear S; intro h26 S
  refine st_condT S rfl (nxD (qY S (y_build (ps := []) (pl := [(0, 1), (1, 1), (2, 1), (3, 1), (4, 1), (5, 1)]) (z := [.int .i64 0, .int .i64 0, .int .i64 0, .int .i64 0, .int .u32 0, .slice none 0 0]) (cs := [_, _, _, _, _, _]) S (by kernel_rfl) rfl (rfl)) ?_)); clear S a; intro a S
  refine qS (sz := 6) (us := [_, _, _, _, _, _]) S M 1 ?_; clear M; intro w6 M
  refine qG [1] S ?_; clear S a; intro a S
  refine nxC (wp_ret (then_ret (end_two S rfl (res_agg (cs := [_, _, _, _, _, _]) (by kernel_rfl) rfl rfl (M.cellsAt (k := 6) 1 rfl rfl)) (res_tmp rfl) ?_)))
  exact readPost_no M (by unfold readF; rw [if_neg]; rintro ⟨_, _, h, _⟩; rw [hX] at h; omega)
 clear S; intro h26 S
 refine st_condF S rfl (wp_skip (nxE (qG [1] S ?_))); clear S a; intro a S
 refine qQ (xs := [.tmp 28, .const (.int .i64 9), .const (.int .i64 1)]) S (qE Tryz.func154) rfl (number_any v4 X _ _ _ ((M.readRow 0 rfl hm60).wide (Nat.zero_le _) (M.fits _ (List.mem_of_getElem? (show _[0]? = _ from rfl))).2) (by omega)) M ?_; clear S M a; intro a w7 S hK M
 refine qG [1] S ?_; clear S a; intro a S
 refine nxC (wp_cut (fun a w' => ∃ (lvv : Value) (b8 lo hi : Nat), Sees 64 a [(0, v), (2, .pointer (some ⟨b1, 0, none⟩)), (8, .pointer (some ⟨b8, 0, none⟩))] ∧ Mem w w' [.blk b8 ((frIn X).cells lvv).toArray 191, rowE lo hi 5 1 lvv (ldIn X).length (bcells (ldIn X)), .blk b1 (zeroFr.cells (.slice none 0 0)).toArray 191]) ?_ ?_)
 ·skip
  refine wp_regionK [20] #[false, false, false, false, false, false, false, false, false, false, false, false, false, false, false, false, false, false, false, false, false] rfl M (by kernel_rfl) ?_; clear M; intro w8 M
  refine k_pure 0 S rfl (fun w => y_move S rfl) ?_; clear S a; intro a S
  refine k_pure 2 S rfl (fun w => y_move S rfl) ?_; clear S a; intro a S
  refine k_pure 4 S rfl (fun w => y_move S rfl) ?_; clear S a; intro a S
  refine k_pure 5 S rfl (fun w => y_quoN S rfl rfl (by omega)) ?_; clear S a; intro a S
  refine k_pure 6 S rfl (fun w => y_move S rfl) ?_; clear S a; intro a S
  (first | refine k_pure 7 S rfl (fun w => y_remN S rfl rfl (by omega)) ?_ | refine k_pure 7 S rfl (fun w => y_remZ S rfl rfl (by omega)) ?_); clear S a; intro a S
  refine k_pure 8 S rfl (fun w => y_move S rfl) ?_; clear S a; intro a S
  refine k_pure 11 S rfl (fun w => y_move S rfl) ?_; clear S a; intro a S
  refine k_pure 12 S rfl (fun w => y_move S rfl) ?_; clear S a; intro a S
  (first | refine k_pure 13 S rfl (fun w => y_addN S rfl rfl (by omega)) ?_ | refine k_pure 13 S rfl (fun w => y_int S rfl rfl rfl) ?_); clear S a; intro a S
  refine k_pure 14 S rfl (fun w => y_move S rfl) ?_; clear S a; intro a S
  (first | refine k_pure 15 S rfl (fun w => y_addN S rfl rfl (by omega)) ?_ | refine k_pure 15 S rfl (fun w => y_int S rfl rfl rfl) ?_); clear S a; intro a S
  refine k_read 16 S rfl (fun w hW => have M := M.grow hW; y_slice3R (e := 5) (sz := 1) S (by kernel_rfl) rfl ((M.readRow 0 rfl hm60)) rfl rfl rfl (by first | omega | (simp; done) | (simp; omega))) ?_; clear S a; intro a S
  refine k_two 1 19 rfl rfl (by kernel_rfl) ?_ ?_
  ·skip
   refine qQ (xs := [.tmp 30, .const (.int .i64 0), .const (.int .i64 6)]) S (qE Tryz.func154) rfl (number_any v4 X _ _ _ ((M.readRow 0 rfl hm60).wide (Nat.zero_le _) (M.fits _ (List.mem_of_getElem? (show _[0]? = _ from rfl))).2) (by omega)) M ?_; clear S M a; intro a w9 S hK M
   refine wpList_nil ?_; refine then_normal ?_; refine ⟨fun _ => hK, ?_⟩
   refine k_two 3 19 rfl rfl (by kernel_rfl) ?_ ?_
   ·skip
    refine qQ (xs := [.tmp 32, .const (.int .i64 6), .const (.int .i64 3)]) S (qE Tryz.func154) rfl (number_any v4 X _ _ _ ((M.readRow 0 rfl hm60).wide (Nat.zero_le _) (M.fits _ (List.mem_of_getElem? (show _[0]? = _ from rfl))).2) (by omega)) M ?_; clear S M a; intro a w10 S hK M
    refine wpList_nil ?_; refine then_normal ?_; refine ⟨fun _ => hK, ?_⟩
    refine k_two 9 19 rfl rfl (by kernel_rfl) ?_ ?_
    ·skip
     refine qQ (xs := [.tmp 38, .const (.int .i64 11), .const (.int .i64 4)]) S (qE Tryz.func154) rfl (number_any v4 X _ _ _ ((M.readRow 0 rfl hm60).wide (Nat.zero_le _) (M.fits _ (List.mem_of_getElem? (show _[0]? = _ from rfl))).2) (by omega)) M ?_; clear S M a; intro a w11 S hK M
     refine wpList_nil ?_; refine then_normal ?_; refine ⟨fun _ => hK, ?_⟩
     refine k_pure 10 S rfl (fun w => y_to32 S rfl (by kernel_rfl) (by kernel_rfl)) ?_; clear S a; intro a S
     refine k_two 17 19 rfl rfl (by kernel_rfl) ?_ ?_
     ·skip
      have hC := ((M.readRow 0 rfl hm60).wide (Nat.zero_le _) (M.fits _ (List.mem_of_getElem? (show _[0]? = _ from rfl))).2).cutB (i := (15 : Int).toNat) (j := ((15 : Int) + getN X 10 1).toNat) (mx := ((15 : Int) + getN X 10 1).toNat) (by omega) (by omega) (by omega) (by have := (M.readRow 0 rfl hm60).cap; omega)
      rw [show (X.drop (15 : Int).toNat).take (((15 : Int) + getN X 10 1).toNat - (15 : Int).toNat) = ldIn X from by unfold ldIn; congr 1; omega] at hC
      refine qC (xs := [.tmp 46]) S (qE Tryz.func142) rfl (clone_any _ (ldIn X) _ hC (by omega)) ?_
      rintro _ w12 ⟨lv, rfl, hF2⟩; refine ⟨_, rfl, ?_⟩; clear S a; intro a S
      obtain ⟨adL, capL, hlvE, -, -⟩ := (hF2.rd (by unfold maxLen; omega)).form
      have hK := hF2.below
      obtain ⟨loL, hiL, -, M⟩ := M.pushFresh hF2
      subst hlvE
      refine wpList_nil ?_; refine then_normal ?_; refine ⟨fun _ => hK, ?_⟩
      refine k_pure 18 S rfl (fun w => y_build (ps := [(0, .tmp 31), (1, .tmp 33), (2, .tmp 35), (3, .tmp 37), (4, .tmp 40), (5, .tmp 47)]) (pl := [(0, 1), (1, 1), (2, 1), (3, 1), (4, 1), (5, 1)]) (z := [.int .i64 0, .int .i64 0, .int .i64 0, .int .i64 0, .int .u32 0, .slice none 0 0]) (cs := [_, _, _, _, _, _]) S (by kernel_rfl) rfl (rfl)) ?_; clear S a; intro a S
      refine k_one 19 rfl (by kernel_rfl) ?_
      refine st_alloc S M rfl rfl #[.int .i64 0, .int .i64 0, .int .i64 0, .int .i64 0, .int .u32 0, .slice none 0 0] (by kernel_rfl) ?_; clear S M a; intro a w13 bF S M hB
      refine wpList_nil ?_; refine then_normal ?_; refine ⟨fun _ => hB, ?_⟩
      refine k_one 20 rfl (by kernel_rfl) ?_
      refine qS (sz := 6) (us := [_, _, _, _, _, _]) S M 0 ?_; clear M; intro w14 M
      refine wpList_nil ?_; refine then_normal ?_; refine ⟨fun h => absurd h (by decide), ?_⟩
      refine k_end (by kernel_rfl) ?_
      replace S := S.keep [0, 2, 3, 13, 4, 5, 21, 6, 26, 7, 8]
      refine then_normal ?_
      replace M := M.ord [3, 2, 2] (by simp only [ordO, oG, oS, oE, oZ, oB] <;> rfl)
      replace M := M.sub (H' := _ :: _ :: [_]) (List.Sublist.cons_cons _ (List.Sublist.cons_cons _ (List.Sublist.cons_cons _ (List.nil_sublist _))))
      exact ⟨_, _, _, _, S.sub _ rfl, M⟩
     ·skip
      refine st_alloc S M rfl rfl #[.int .i64 0, .int .i64 0, .int .i64 0, .int .i64 0, .int .u32 0, .slice none 0 0] (by kernel_rfl) ?_; clear S M a; intro a w15 bF S M hB
      refine wpList_nil ?_; refine then_normal ?_; refine ⟨fun _ => hB, ?_⟩
      refine k_one 17 rfl (by kernel_rfl) ?_
      have hC := ((M.readRow 1 rfl hm60).wide (Nat.zero_le _) (M.fits _ (List.mem_of_getElem? (show _[1]? = _ from rfl))).2).cutB (i := (15 : Int).toNat) (j := ((15 : Int) + getN X 10 1).toNat) (mx := ((15 : Int) + getN X 10 1).toNat) (by omega) (by omega) (by omega) (by have := (M.readRow 1 rfl hm60).cap; omega)
      rw [show (X.drop (15 : Int).toNat).take (((15 : Int) + getN X 10 1).toNat - (15 : Int).toNat) = ldIn X from by unfold ldIn; congr 1; omega] at hC
      refine qC (xs := [.tmp 46]) S (qE Tryz.func142) rfl (clone_any _ (ldIn X) _ hC (by omega)) ?_
      rintro _ w16 ⟨lv, rfl, hF2⟩; refine ⟨_, rfl, ?_⟩; clear S a; intro a S
      obtain ⟨adL, capL, hlvE, -, -⟩ := (hF2.rd (by unfold maxLen; omega)).form
      have hK := hF2.below
      obtain ⟨loL, hiL, -, M⟩ := M.pushFresh hF2
      subst hlvE
      refine wpList_nil ?_; refine then_normal ?_; refine ⟨fun _ => hK, ?_⟩
      refine k_pure 18 S rfl (fun w => y_build (ps := [(0, .tmp 31), (1, .tmp 33), (2, .tmp 35), (3, .tmp 37), (4, .tmp 40), (5, .tmp 47)]) (pl := [(0, 1), (1, 1), (2, 1), (3, 1), (4, 1), (5, 1)]) (z := [.int .i64 0, .int .i64 0, .int .i64 0, .int .i64 0, .int .u32 0, .slice none 0 0]) (cs := [_, _, _, _, _, _]) S (by kernel_rfl) rfl (rfl)) ?_; clear S a; intro a S
      refine k_one 20 rfl (by kernel_rfl) ?_
      refine qS (sz := 6) (us := [_, _, _, _, _, _]) S M 1 ?_; clear M; intro w17 M
      refine wpList_nil ?_; refine then_normal ?_; refine ⟨fun h => absurd h (by decide), ?_⟩
      refine k_end (by kernel_rfl) ?_
      replace S := S.keep [0, 2, 3, 13, 4, 5, 21, 6, 26, 7, 8]
      refine then_normal ?_
      replace M := M.ord [3, 1, 2] (by simp only [ordO, oG, oS, oE, oZ, oB] <;> rfl)
      replace M := M.sub (H' := _ :: _ :: [_]) (List.Sublist.cons_cons _ (List.Sublist.cons_cons _ (List.Sublist.cons_cons _ (List.nil_sublist _))))
      exact ⟨_, _, _, _, S.sub _ rfl, M⟩
    ·skip
     refine st_alloc S M rfl rfl #[.int .i64 0, .int .i64 0, .int .i64 0, .int .i64 0, .int .u32 0, .slice none 0 0] (by kernel_rfl) ?_; clear S M a; intro a w18 bF S M hB
     refine wpList_nil ?_; refine then_normal ?_; refine ⟨fun _ => hB, ?_⟩
     refine k_one 9 rfl (by kernel_rfl) ?_
     refine qQ (xs := [.tmp 38, .const (.int .i64 11), .const (.int .i64 4)]) S (qE Tryz.func154) rfl (number_any v4 X _ _ _ ((M.readRow 1 rfl hm60).wide (Nat.zero_le _) (M.fits _ (List.mem_of_getElem? (show _[1]? = _ from rfl))).2) (by omega)) M ?_; clear S M a; intro a w19 S hK M
     refine wpList_nil ?_; refine then_normal ?_; refine ⟨fun _ => hK, ?_⟩
     refine k_pure 10 S rfl (fun w => y_to32 S rfl (by kernel_rfl) (by kernel_rfl)) ?_; clear S a; intro a S
     refine k_one 17 rfl (by kernel_rfl) ?_
     have hC := ((M.readRow 1 rfl hm60).wide (Nat.zero_le _) (M.fits _ (List.mem_of_getElem? (show _[1]? = _ from rfl))).2).cutB (i := (15 : Int).toNat) (j := ((15 : Int) + getN X 10 1).toNat) (mx := ((15 : Int) + getN X 10 1).toNat) (by omega) (by omega) (by omega) (by have := (M.readRow 1 rfl hm60).cap; omega)
     rw [show (X.drop (15 : Int).toNat).take (((15 : Int) + getN X 10 1).toNat - (15 : Int).toNat) = ldIn X from by unfold ldIn; congr 1; omega] at hC
     refine qC (xs := [.tmp 46]) S (qE Tryz.func142) rfl (clone_any _ (ldIn X) _ hC (by omega)) ?_
     rintro _ w20 ⟨lv, rfl, hF2⟩; refine ⟨_, rfl, ?_⟩; clear S a; intro a S
     obtain ⟨adL, capL, hlvE, -, -⟩ := (hF2.rd (by unfold maxLen; omega)).form
     have hK := hF2.below
     obtain ⟨loL, hiL, -, M⟩ := M.pushFresh hF2
     subst hlvE
     refine wpList_nil ?_; refine then_normal ?_; refine ⟨fun _ => hK, ?_⟩
     refine k_pure 18 S rfl (fun w => y_build (ps := [(0, .tmp 31), (1, .tmp 33), (2, .tmp 35), (3, .tmp 37), (4, .tmp 40), (5, .tmp 47)]) (pl := [(0, 1), (1, 1), (2, 1), (3, 1), (4, 1), (5, 1)]) (z := [.int .i64 0, .int .i64 0, .int .i64 0, .int .i64 0, .int .u32 0, .slice none 0 0]) (cs := [_, _, _, _, _, _]) S (by kernel_rfl) rfl (rfl)) ?_; clear S a; intro a S
     refine k_one 20 rfl (by kernel_rfl) ?_
     refine qS (sz := 6) (us := [_, _, _, _, _, _]) S M 1 ?_; clear M; intro w21 M
     refine wpList_nil ?_; refine then_normal ?_; refine ⟨fun h => absurd h (by decide), ?_⟩
     refine k_end (by kernel_rfl) ?_
     replace S := S.keep [0, 2, 3, 13, 4, 5, 21, 6, 26, 7, 8]
     refine then_normal ?_
     replace M := M.ord [3, 1, 2] (by simp only [ordO, oG, oS, oE, oZ, oB] <;> rfl)
     replace M := M.sub (H' := _ :: _ :: [_]) (List.Sublist.cons_cons _ (List.Sublist.cons_cons _ (List.Sublist.cons_cons _ (List.nil_sublist _))))
     exact ⟨_, _, _, _, S.sub _ rfl, M⟩
   ·skip
    refine st_alloc S M rfl rfl #[.int .i64 0, .int .i64 0, .int .i64 0, .int .i64 0, .int .u32 0, .slice none 0 0] (by kernel_rfl) ?_; clear S M a; intro a w22 bF S M hB
    refine wpList_nil ?_; refine then_normal ?_; refine ⟨fun _ => hB, ?_⟩
    refine k_one 3 rfl (by kernel_rfl) ?_
    refine qQ (xs := [.tmp 32, .const (.int .i64 6), .const (.int .i64 3)]) S (qE Tryz.func154) rfl (number_any v4 X _ _ _ ((M.readRow 1 rfl hm60).wide (Nat.zero_le _) (M.fits _ (List.mem_of_getElem? (show _[1]? = _ from rfl))).2) (by omega)) M ?_; clear S M a; intro a w23 S hK M
    refine wpList_nil ?_; refine then_normal ?_; refine ⟨fun _ => hK, ?_⟩
    refine k_one 9 rfl (by kernel_rfl) ?_
    refine qQ (xs := [.tmp 38, .const (.int .i64 11), .const (.int .i64 4)]) S (qE Tryz.func154) rfl (number_any v4 X _ _ _ ((M.readRow 1 rfl hm60).wide (Nat.zero_le _) (M.fits _ (List.mem_of_getElem? (show _[1]? = _ from rfl))).2) (by omega)) M ?_; clear S M a; intro a w24 S hK M
    refine wpList_nil ?_; refine then_normal ?_; refine ⟨fun _ => hK, ?_⟩
    refine k_pure 10 S rfl (fun w => y_to32 S rfl (by kernel_rfl) (by kernel_rfl)) ?_; clear S a; intro a S
    refine k_one 17 rfl (by kernel_rfl) ?_
    have hC := ((M.readRow 1 rfl hm60).wide (Nat.zero_le _) (M.fits _ (List.mem_of_getElem? (show _[1]? = _ from rfl))).2).cutB (i := (15 : Int).toNat) (j := ((15 : Int) + getN X 10 1).toNat) (mx := ((15 : Int) + getN X 10 1).toNat) (by omega) (by omega) (by omega) (by have := (M.readRow 1 rfl hm60).cap; omega)
    rw [show (X.drop (15 : Int).toNat).take (((15 : Int) + getN X 10 1).toNat - (15 : Int).toNat) = ldIn X from by unfold ldIn; congr 1; omega] at hC
    refine qC (xs := [.tmp 46]) S (qE Tryz.func142) rfl (clone_any _ (ldIn X) _ hC (by omega)) ?_
    rintro _ w25 ⟨lv, rfl, hF2⟩; refine ⟨_, rfl, ?_⟩; clear S a; intro a S
    obtain ⟨adL, capL, hlvE, -, -⟩ := (hF2.rd (by unfold maxLen; omega)).form
    have hK := hF2.below
    obtain ⟨loL, hiL, -, M⟩ := M.pushFresh hF2
    subst hlvE
    refine wpList_nil ?_; refine then_normal ?_; refine ⟨fun _ => hK, ?_⟩
    refine k_pure 18 S rfl (fun w => y_build (ps := [(0, .tmp 31), (1, .tmp 33), (2, .tmp 35), (3, .tmp 37), (4, .tmp 40), (5, .tmp 47)]) (pl := [(0, 1), (1, 1), (2, 1), (3, 1), (4, 1), (5, 1)]) (z := [.int .i64 0, .int .i64 0, .int .i64 0, .int .i64 0, .int .u32 0, .slice none 0 0]) (cs := [_, _, _, _, _, _]) S (by kernel_rfl) rfl (rfl)) ?_; clear S a; intro a S
    refine k_one 20 rfl (by kernel_rfl) ?_
    refine qS (sz := 6) (us := [_, _, _, _, _, _]) S M 1 ?_; clear M; intro w26 M
    refine wpList_nil ?_; refine then_normal ?_; refine ⟨fun h => absurd h (by decide), ?_⟩
    refine k_end (by kernel_rfl) ?_
    replace S := S.keep [0, 2, 3, 13, 4, 5, 21, 6, 26, 7, 8]
    refine then_normal ?_
    replace M := M.ord [3, 1, 2] (by simp only [ordO, oG, oS, oE, oZ, oB] <;> rfl)
    replace M := M.sub (H' := _ :: _ :: [_]) (List.Sublist.cons_cons _ (List.Sublist.cons_cons _ (List.Sublist.cons_cons _ (List.nil_sublist _))))
    exact ⟨_, _, _, _, S.sub _ rfl, M⟩
  ·skip
   refine st_alloc S M rfl rfl #[.int .i64 0, .int .i64 0, .int .i64 0, .int .i64 0, .int .u32 0, .slice none 0 0] (by kernel_rfl) ?_; clear S M a; intro a w27 bF S M hB
   refine wpList_nil ?_; refine then_normal ?_; refine ⟨fun _ => hB, ?_⟩
   refine k_one 1 rfl (by kernel_rfl) ?_
   refine qQ (xs := [.tmp 30, .const (.int .i64 0), .const (.int .i64 6)]) S (qE Tryz.func154) rfl (number_any v4 X _ _ _ ((M.readRow 1 rfl hm60).wide (Nat.zero_le _) (M.fits _ (List.mem_of_getElem? (show _[1]? = _ from rfl))).2) (by omega)) M ?_; clear S M a; intro a w28 S hK M
   refine wpList_nil ?_; refine then_normal ?_; refine ⟨fun _ => hK, ?_⟩
   refine k_one 3 rfl (by kernel_rfl) ?_
   refine qQ (xs := [.tmp 32, .const (.int .i64 6), .const (.int .i64 3)]) S (qE Tryz.func154) rfl (number_any v4 X _ _ _ ((M.readRow 1 rfl hm60).wide (Nat.zero_le _) (M.fits _ (List.mem_of_getElem? (show _[1]? = _ from rfl))).2) (by omega)) M ?_; clear S M a; intro a w29 S hK M
   refine wpList_nil ?_; refine then_normal ?_; refine ⟨fun _ => hK, ?_⟩
   refine k_one 9 rfl (by kernel_rfl) ?_
   refine qQ (xs := [.tmp 38, .const (.int .i64 11), .const (.int .i64 4)]) S (qE Tryz.func154) rfl (number_any v4 X _ _ _ ((M.readRow 1 rfl hm60).wide (Nat.zero_le _) (M.fits _ (List.mem_of_getElem? (show _[1]? = _ from rfl))).2) (by omega)) M ?_; clear S M a; intro a w30 S hK M
   refine wpList_nil ?_; refine then_normal ?_; refine ⟨fun _ => hK, ?_⟩
   refine k_pure 10 S rfl (fun w => y_to32 S rfl (by kernel_rfl) (by kernel_rfl)) ?_; clear S a; intro a S
   refine k_one 17 rfl (by kernel_rfl) ?_
   have hC := ((M.readRow 1 rfl hm60).wide (Nat.zero_le _) (M.fits _ (List.mem_of_getElem? (show _[1]? = _ from rfl))).2).cutB (i := (15 : Int).toNat) (j := ((15 : Int) + getN X 10 1).toNat) (mx := ((15 : Int) + getN X 10 1).toNat) (by omega) (by omega) (by omega) (by have := (M.readRow 1 rfl hm60).cap; omega)
   rw [show (X.drop (15 : Int).toNat).take (((15 : Int) + getN X 10 1).toNat - (15 : Int).toNat) = ldIn X from by unfold ldIn; congr 1; omega] at hC
   refine qC (xs := [.tmp 46]) S (qE Tryz.func142) rfl (clone_any _ (ldIn X) _ hC (by omega)) ?_
   rintro _ w31 ⟨lv, rfl, hF2⟩; refine ⟨_, rfl, ?_⟩; clear S a; intro a S
   obtain ⟨adL, capL, hlvE, -, -⟩ := (hF2.rd (by unfold maxLen; omega)).form
   have hK := hF2.below
   obtain ⟨loL, hiL, -, M⟩ := M.pushFresh hF2
   subst hlvE
   refine wpList_nil ?_; refine then_normal ?_; refine ⟨fun _ => hK, ?_⟩
   refine k_pure 18 S rfl (fun w => y_build (ps := [(0, .tmp 31), (1, .tmp 33), (2, .tmp 35), (3, .tmp 37), (4, .tmp 40), (5, .tmp 47)]) (pl := [(0, 1), (1, 1), (2, 1), (3, 1), (4, 1), (5, 1)]) (z := [.int .i64 0, .int .i64 0, .int .i64 0, .int .i64 0, .int .u32 0, .slice none 0 0]) (cs := [_, _, _, _, _, _]) S (by kernel_rfl) rfl (rfl)) ?_; clear S a; intro a S
   refine k_one 20 rfl (by kernel_rfl) ?_
   refine qS (sz := 6) (us := [_, _, _, _, _, _]) S M 1 ?_; clear M; intro w32 M
   refine wpList_nil ?_; refine then_normal ?_; refine ⟨fun h => absurd h (by decide), ?_⟩
   refine k_end (by kernel_rfl) ?_
   replace S := S.keep [0, 2, 3, 13, 4, 5, 21, 6, 26, 7, 8]
   refine then_normal ?_
   replace M := M.ord [3, 1, 2] (by simp only [ordO, oG, oS, oE, oZ, oB] <;> rfl)
   replace M := M.sub (H' := _ :: _ :: [_]) (List.Sublist.cons_cons _ (List.Sublist.cons_cons _ (List.Sublist.cons_cons _ (List.nil_sublist _))))
   exact ⟨_, _, _, _, S.sub _ rfl, M⟩
 clear S a M; intro a wc
 rintro ⟨lvv, b8, lo, hi, S, M⟩
 obtain ⟨adV, cpV, hE, -, -⟩ := (M.readRow 1 rfl (by unfold maxLen; omega)).form
 subst hE
 refine nxD (qY S (y_loadAgg (cs := [_, _, _, _, _, _]) S (by kernel_rfl) rfl rfl (M.cellsAt (k := 6) 0 rfl rfl)) ?_); clear S a; intro a S
 have hlv := (M.readRow 1 rfl (by unfold maxLen; omega)).wide (Nat.zero_le _) (M.fits _ (List.mem_of_getElem? (show _[1]? = _ from rfl))).2
 refine qC (xs := [.tmp 50]) S (qE Tryz.func144) rfl (bytes_any (frIn X) _ (ldIn X) _ hlv) ?_
 rintro _ w33 ⟨v9, rfl, hK, hF3, hN3⟩; refine ⟨_, rfl, ?_⟩; clear S a; intro a S
 obtain ⟨lo9, hi9, -, M⟩ := M.pushFresh (fresh_if (p := (frIn X).may (ldIn X).length = true) hK hF3 (fun h => hN3 (by simpa using h)))
 refine qG [1, 1, 1, 1, 1] S ?_; clear S a; intro a S
 refine nxC (wp_seq (nxD (qG [1, 1, 1] S ?_))); clear S a; intro a S
 refine st_if (t := 56) S rfl ?_ ?_
 ·clear S; intro h56 S
  refine qG [0, 0] S ?_; clear S a; intro a S
  refine st_no S rfl rfl rfl ?_; clear S a; intro a S
  refine qG [0, 1] S ?_; clear S a; intro a S
  refine nxC (st_condT S rfl (nxD ?_))
  have hno : readF bs = none := by
   unfold readF; rw [if_neg]; rw [hX]; rintro ⟨_, _, _, h4, h5⟩
   first
    | (rw [h4] at h56; simp at h56; done)
    | (rw [h5] at h61; simp at h61)
  refine qY S (y_build (ps := []) (pl := [(0, 1), (1, 1), (2, 1), (3, 1), (4, 1), (5, 1)]) (z := [.int .i64 0, .int .i64 0, .int .i64 0, .int .i64 0, .int .u32 0, .slice none 0 0]) (cs := [_, _, _, _, _, _]) S (by kernel_rfl) rfl (rfl)) ?_; clear S a; intro a S
  refine qS (sz := 6) (us := [_, _, _, _, _, _]) S M 3 ?_; clear M; intro w34 M
  refine qG [1] S ?_; clear S a; intro a S
  refine nxC (wp_ret (then_ret (end_two S rfl (res_agg (cs := [_, _, _, _, _, _]) (by kernel_rfl) rfl rfl (M.cellsAt (k := 6) 3 rfl rfl)) (res_tmp rfl) ?_)))
  exact readPost_no M hno
 clear S; intro h56 S
 refine qG [1, 1] S ?_; clear S a; intro a S
 have hmay : (frIn X).may (ldIn X).length = true := by
  cases h : (frIn X).may (ldIn X).length
  ·rw [h] at h56; simp at h56
  ·rfl
 rw [ifL_pos hmay] at M
 refine qQ (xs := [.tmp 57, .tmp 58]) S (qE Tryz.func70) rfl (equal_any v9 v (bytesF (frIn X) (ldIn X)) bs _ ((M.readRow 0 rfl (by rw [bytesF_length hmay]; unfold maxLen; omega)).wide (Nat.zero_le _) (M.fits _ (List.mem_of_getElem? (show _[0]? = _ from rfl))).2) (M.argW hv)) M ?_; clear S M a; intro a w35 S hK M
 refine qG [1, 1] S ?_; clear S a; intro a S
 refine nxC (st_split (t := 61) S rfl ?_ ?_)
 ·clear S; intro h61 S
  refine st_condT S rfl (nxD ?_)
  have hno : readF bs = none := by
   unfold readF; rw [if_neg]; rw [hX]; rintro ⟨_, _, _, h4, h5⟩
   first
    | (rw [h4] at h56; simp at h56; done)
    | (rw [h5] at h61; simp at h61)
  refine qY S (y_build (ps := []) (pl := [(0, 1), (1, 1), (2, 1), (3, 1), (4, 1), (5, 1)]) (z := [.int .i64 0, .int .i64 0, .int .i64 0, .int .i64 0, .int .u32 0, .slice none 0 0]) (cs := [_, _, _, _, _, _]) S (by kernel_rfl) rfl (rfl)) ?_; clear S a; intro a S
  refine qS (sz := 6) (us := [_, _, _, _, _, _]) S M 3 ?_; clear M; intro w36 M
  refine qG [1] S ?_; clear S a; intro a S
  refine nxC (wp_ret (then_ret (end_two S rfl (res_agg (cs := [_, _, _, _, _, _]) (by kernel_rfl) rfl rfl (M.cellsAt (k := 6) 3 rfl rfl)) (res_tmp rfl) ?_)))
  exact readPost_no M hno
 clear S; intro h61 S
 refine st_condF S rfl (wp_skip (nxE ?_))
 have hyes : readF bs = some (frIn X, ldIn X) := by
  unfold readF; rw [hX, if_pos]
  exact ⟨h64, hok, h26, hmay, by simpa using h61⟩
 replace M := M.drop 0
 simp only [List.eraseIdx_cons_succ, List.eraseIdx_cons_zero] at M
 refine qY S (y_loadAgg (cs := [_, _, _, _, _, _]) S (by kernel_rfl) rfl rfl (M.cellsAt (k := 6) 0 rfl rfl)) ?_; clear S a; intro a S
 refine qS (sz := 6) (us := [_, _, _, _, _, _]) S M 2 ?_; clear M; intro w37 M
 refine qG [1] S ?_; clear S a; intro a S
 refine nxC (wp_ret (end_two S rfl (res_agg (cs := [_, _, _, _, _, _]) (by kernel_rfl) rfl rfl (M.cellsAt (k := 6) 2 rfl rfl)) (res_tmp rfl) ?_))
 exact ⟨frIn X, _, 0, rfl, M.below, (fun g ld' h => by
  rw [hyes] at h
  obtain ⟨rfl, rfl⟩ := Prod.mk.inj (Option.some.inj h)
  exact ⟨rfl, rfl, M.fresh 1 rfl⟩), fun h => by rw [hyes] at h; cases h⟩
end Go.Proofs.YtndabhdepjnbcaaGreat

namespace Go.Proofs.YtndabhdepjnbcaaGreat
open Go.RowKit Go.Sort
theorem leB_succ (n : Int) (k : Nat) : leB n (k + 1) = leB n k ++ [byteOf (n / 256 ^ k)] := by
 unfold leB; rw [List.range_succ, List.map_append]; rfl
end Go.Proofs.YtndabhdepjnbcaaGreat

namespace Go.Proofs.YtndabhdepjnbcaaGreat
open Go.RowKit Go.Sort
theorem five5 (f : Fr) (l : Nat) : five f l 5 = leB f.seq 6 ++ leB f.inc 3 ++ [byteOf (16 * f.part + f.of), byteOf (l : Int)] ++ leB (f.mark.toNat : Int) 4 := by
 have e : ∀ n, leB n 1 = [byteOf n] := fun n => by simp [leB]
 simp [five, fiveN, e]
end Go.Proofs.YtndabhdepjnbcaaGreat

namespace Go.Proofs.YtndabhdepjnbcaaGreat
open Go.RowKit Go.Sort
theorem getN_take {X : List UInt8} {i k : Nat} (hk : 1 ≤ k ∧ k ≤ 6) (h : i + k ≤ X.length) : getN X (i : Int) (k : Int) = (leN ((X.drop i).take k) : Int) := by
 unfold getN; rw [if_pos (by omega)]; rfl
end Go.Proofs.YtndabhdepjnbcaaGreat

namespace Go.Proofs.YtndabhdepjnbcaaGreat
open Go.RowKit Go.Sort
def wk0 : List UInt8 := List.replicate 85 0
def wkF : List (Fr × List UInt8) := [(⟨7, 1, 0, 2, sumT wk0⟩, List.replicate 45 0), (⟨8, 1, 1, 2, sumT wk0⟩, List.replicate 40 0)]
end Go.Proofs.YtndabhdepjnbcaaGreat

namespace Go.Proofs.YtndabhdepjnbcaaGreat
open Go.RowKit Go.Sort
noncomputable def rdF (bs : List UInt8) : Fr := match readF bs with | some x => x.1 | none => zeroFr
noncomputable def rdL (bs : List UInt8) : List UInt8 := match readF bs with | some x => x.2 | none => []
noncomputable def rdE (bs : List UInt8) : Int := match readF bs with | some _ => 0 | none => 40
theorem ldIn_le (x : List UInt8) : (ldIn x).length ≤ 255 := by
 have := getN_bd1 x 10; have := getN_bd x 10 1 (by omega)
 simp only [ldIn, List.length_take]; omega
theorem rdL_le (bs : List UInt8) : (rdL bs).length ≤ 255 := by
 unfold rdL readF
 split
 ·rename_i x h
  split at h
  ·cases h; exact ldIn_le _
  ·cases h
 ·exact Nat.zero_le _
theorem read_uni {bs : List UInt8} {w0 w w' : World} {H : List Ent} {e : Ending} (M : Mem w0 w H) (h : ReadPost bs w e w') :
 ∃ (ad : Option Addr) (cap lo hi : Nat), e = .returned (.tuple #[.agg ((rdF bs).cells (.slice ad (rdL bs).length cap)).toArray, .int .i64 (rdE bs)]) ∧ Below w.heap.size w w' ∧ Mem w0 w' (rowE lo hi 5 1 (.slice ad (rdL bs).length cap) (rdL bs).length (bcells (rdL bs)) :: H) := by
 obtain ⟨f, lv, E, rfl, hb, h1, h2⟩ := h
 have hle := rdL_le bs
 unfold rdL rdF rdE at *
 cases hR : readF bs with
 | none =>
   rw [hR] at hle
   obtain ⟨rfl, rfl, rfl⟩ := h2 hR
   exact ⟨none, 0, _, _, rfl, hb, (M.grow hb).rowNil 5 1⟩
 | some x =>
   rw [hR] at hle
   replace hle : x.2.length ≤ 255 := hle
   obtain ⟨rfl, rfl, hF⟩ := h1 x.1 x.2 hR
   obtain ⟨lo, hi, -, M⟩ := M.pushFresh hF
   obtain ⟨ad, cap, rfl, -, -⟩ := (hF.rd (by unfold maxLen; omega)).form
   exact ⟨ad, cap, lo, hi, rfl, hb, M⟩
theorem bytes_uni {f : Fr} {ld : List UInt8} {w0 w w' : World} {H : List Ent} {e : Ending} (M : Mem w0 w H) (h : BytesPost f ld w e w') :
 ∃ (v : Value) (lo hi : Nat), e = .returned (.tuple #[v, .int .i64 (if f.may ld.length then 0 else 2)]) ∧ Below w.heap.size w w' ∧ Mem w0 w' (rowE lo hi 5 1 v (ifL (f.may ld.length = true) (bytesF f ld)).length (bcells (ifL (f.may ld.length = true) (bytesF f ld))) :: H) := by
 obtain ⟨v', rfl, hb, h1, h2⟩ := h
 obtain ⟨lo, hi, -, M⟩ := M.pushFresh (fresh_if hb h1 (fun h => h2 (by simpa using h)))
 exact ⟨v', lo, hi, rfl, hb, M⟩
end Go.Proofs.YtndabhdepjnbcaaGreat

namespace Go.Proofs.YtndabhdepjnbcaaGreat
open Go.RowKit Go.Sort
theorem cutE_zero {bs : List UInt8} {seq inc : Int} : cutE bs seq inc = 0 ↔ cutOk bs seq inc := by
 unfold cutE
 by_cases h : cutOk bs seq inc
 ·simp [h]
 ·rw [if_neg h]; split <;> simp [h]
theorem cutR_get {bs : List UInt8} {seq inc : Int} (h : cutOk bs seq inc) {i : Nat} (hi : i < nOf bs.length) : (cutR bs seq inc)[i]? = some (frOf bs seq inc i) := by
 unfold cutR; rw [if_pos h]; simp [cutF, hi]
theorem cutR_length {bs : List UInt8} {seq inc : Int} (h : cutOk bs seq inc) : (cutR bs seq inc).length = nOf bs.length := by
 unfold cutR; rw [if_pos h]; simp [cutF]
theorem frOf_may {bs : List UInt8} {seq inc : Int} (h : cutOk bs seq inc) {i : Nat} (hi : i < nOf bs.length) : (frOf bs seq inc i).1.may (frOf bs seq inc i).2.length = true := by
 obtain ⟨h1, h2, h3, h4, h5⟩ := h
 unfold nOf at *
 have h0 : 0 < bs.length := List.length_pos_iff.2 h1
 simp only [Fr.may, frOf, decide_eq_true_eq, List.length_take, List.length_drop, nOf]
 omega
end Go.Proofs.YtndabhdepjnbcaaGreat

namespace Go.Proofs.YtndabhdepjnbcaaGreat
open Go.RowKit Go.Sort
theorem byteOf_nat {n : Nat} : (byteOf (n : Int)).toNat = n % 256 := by
 unfold byteOf; rw [UInt8.toNat_ofNat']; omega
theorem leN_leB (n : Nat) : ∀ k, leN (leB (n : Int) k) = n % 256 ^ k
 | 0 => by simp [leB, leN, Nat.mod_one]
 | k + 1 => by
   rw [leB_succ, leN_append, leN_leB n k, leB_length, show ((n : Int) / 256 ^ k) = ((n / 256 ^ k : Nat) : Int) by simp]
   show n % 256 ^ k + 256 ^ k * ((byteOf _).toNat + 256 * 0) = _
   rw [byteOf_nat, Nat.mul_zero, Nat.add_zero, Nat.pow_succ, Nat.mod_mul]
theorem leN_leB' {n : Int} {k : Nat} (h0 : 0 ≤ n) (h1 : n < 256 ^ k) : (leN (leB n k) : Int) = n := by
 obtain ⟨m, rfl⟩ := Int.eq_ofNat_of_zero_le h0
 rw [leN_leB, Nat.mod_eq_of_lt (Int.ofNat_lt.1 (by rw [Int.natCast_pow]; exact h1))]
theorem mid {α : Type} (A B C : List α) {i n : Nat} (hi : A.length = i) (hn : B.length = n) : ((A ++ B ++ C).drop i).take n = B := by
 subst hi hn; simp
theorem getN_mid {A B C X : List UInt8} {i n : Nat} (hX : X = A ++ B ++ C) (hi : A.length = i) (hn : B.length = n) (h : 1 ≤ n ∧ n ≤ 6) : getN X (i : Int) (n : Int) = (leN B : Int) := by
 subst hX
 rw [getN_take h (by simp; omega), mid A B C hi hn]
theorem read_bytes {f : Fr} {ld : List UInt8} (h : f.may ld.length = true) : readF (bytesF f ld) = some (f, ld) := by
 have hm := h
 simp only [Fr.may, decide_eq_true_eq] at hm
 have hmk := f.mark.isLt
 have h60 : (five f ld.length 5 ++ padL ld).length = 60 := by rw [List.length_append, padL_length (by omega), five5_length]
 have hX : (bytesF f ld).take 60 = five f ld.length 5 ++ padL ld := by
  unfold bytesF sealB; rw [← h60, List.take_left]
 have h64 := bytesF_length h
 have hok : openOk (bytesF f ld) := ⟨_, rfl⟩
 have E := five5 f ld.length
 generalize hx : five f ld.length 5 ++ padL ld = X at *
 rw [E] at hx
 have g0 : getN X 0 6 = f.seq := by
  rw [show getN X 0 6 = _ from getN_mid (A := []) (B := leB f.seq 6) (C := leB f.inc 3 ++ [byteOf (16 * f.part + f.of), byteOf (ld.length : Int)] ++ leB (f.mark.toNat : Int) 4 ++ padL ld) (i := 0) (n := 6) (by rw [← hx]; simp) rfl (leB_length _ _) (by omega)]
  exact leN_leB' (by omega) (by omega)
 have g6 : getN X 6 3 = f.inc := by
  rw [show getN X 6 3 = _ from getN_mid (A := leB f.seq 6) (B := leB f.inc 3) (C := [byteOf (16 * f.part + f.of), byteOf (ld.length : Int)] ++ leB (f.mark.toNat : Int) 4 ++ padL ld) (i := 6) (n := 3) (by rw [← hx]; simp) (leB_length _ _) (leB_length _ _) (by omega)]
  exact leN_leB' (by omega) (by omega)
 have b1 : ∀ z : Int, 0 ≤ z → z < 256 → ((leN [byteOf z] : Nat) : Int) = z := fun z h0 h1 => by
  obtain ⟨m, rfl⟩ := Int.eq_ofNat_of_zero_le h0
  show (((byteOf (m : Int)).toNat + 256 * 0 : Nat) : Int) = _
  rw [byteOf_nat]; omega
 have g9 : getN X 9 1 = 16 * f.part + f.of := by
  rw [show getN X 9 1 = _ from getN_mid (A := leB f.seq 6 ++ leB f.inc 3) (B := [byteOf (16 * f.part + f.of)]) (C := [byteOf (ld.length : Int)] ++ leB (f.mark.toNat : Int) 4 ++ padL ld) (i := 9) (n := 1) (by rw [← hx]; simp) (by simp [leB_length]) rfl (by omega)]
  exact b1 _ (by omega) (by omega)
 have g10 : getN X 10 1 = (ld.length : Int) := by
  rw [show getN X 10 1 = _ from getN_mid (A := leB f.seq 6 ++ leB f.inc 3 ++ [byteOf (16 * f.part + f.of)]) (B := [byteOf (ld.length : Int)]) (C := leB (f.mark.toNat : Int) 4 ++ padL ld) (i := 10) (n := 1) (by rw [← hx]; simp) (by simp [leB_length]) rfl (by omega)]
  exact b1 _ (by omega) (by omega)
 have g11 : getN X 11 4 = (f.mark.toNat : Int) := by
  rw [show getN X 11 4 = _ from getN_mid (A := leB f.seq 6 ++ leB f.inc 3 ++ [byteOf (16 * f.part + f.of), byteOf (ld.length : Int)]) (B := leB (f.mark.toNat : Int) 4) (C := padL ld) (i := 11) (n := 4) (by rw [← hx]) (by simp [leB_length]) (leB_length _ _) (by omega)]
  exact leN_leB' (by omega) (by omega)
 have hf : frIn X = f := by
  unfold frIn
  rw [g0, g6, g9, g11, show (16 * f.part + f.of) / 16 = f.part by omega, show (16 * f.part + f.of) % 16 = f.of by omega, BitVec.ofInt_natCast, ofNat_toNat32]
 have hl : ldIn X = ld := by
  unfold ldIn
  rw [g10, Int.toNat_natCast, ← hx]
  have := mid (leB f.seq 6 ++ leB f.inc 3 ++ [byteOf (16 * f.part + f.of), byteOf (ld.length : Int)] ++ leB (f.mark.toNat : Int) 4) ld (List.replicate (45 - ld.length) 0) (i := 15) (n := ld.length) (by simp [leB_length]) rfl
  rw [List.append_assoc] at this
  exact this
 unfold readF
 rw [hX, hf, hl, if_pos ⟨h64, hok, by omega, h, rfl⟩]
theorem readF_spec {bs : List UInt8} {f : Fr} {ld : List UInt8} (h : readF bs = some (f, ld)) : f.may ld.length = true ∧ bytesF f ld = bs := by
 unfold readF at h
 split at h
 ·rename_i hc
  obtain ⟨rfl, rfl⟩ := Prod.mk.inj (Option.some.inj h)
  exact ⟨hc.2.2.2.1, hc.2.2.2.2⟩
 ·cases h
theorem outF_cut (bs : List UInt8) (seq inc : Int) : ∀ k, outF ((List.range k).map (frOf bs seq inc)) = bs.take (k * 45)
 | 0 => by simp [outF]
 | k + 1 => by
   rw [List.range_succ, List.map_append, show ∀ x y, outF (x ++ y) = outF x ++ outF y from fun x y => by simp [outF], outF_cut bs seq inc k, Nat.add_mul, Nat.one_mul, List.take_add]
   simp [outF, frOf]
theorem join_cut {bs : List UInt8} {seq inc : Int} (h : cutOk bs seq inc) : joinOk (cutR bs seq inc) ∧ outF (cutR bs seq inc) = bs := by
 have hn2 : nOf bs.length ≤ 2 := by obtain ⟨_, _, _, h4, _⟩ := h; unfold nOf; omega
 have hn0 : 0 < nOf bs.length := by have := List.length_pos_iff.2 h.1; unfold nOf; omega
 have hR : cutR bs seq inc = cutF bs seq inc := by unfold cutR; rw [if_pos h]
 have ho : outF (cutR bs seq inc) = bs := by
  rw [hR]; unfold cutF; rw [outF_cut]; exact List.take_of_length_le (by unfold nOf; omega)
 refine ⟨?_, ho⟩
 have h0 := cutR_get h hn0
 have hlen := cutR_length h
 refine ⟨(frOf bs seq inc 0).1, (frOf bs seq inc 0).2, (cutR bs seq inc).tail, ?_, by omega, fun x hx => ?_, ?_, ?_⟩
 ·have hh : (cutR bs seq inc).head? = some (frOf bs seq inc 0) := by rw [List.head?_eq_getElem?]; exact h0
  cases hc : cutR bs seq inc with
  | nil => rw [hc] at hh; cases hh
  | cons x t => rw [hc] at hh; cases hh; rfl
 ·obtain ⟨i, hi⟩ := List.getElem?_of_mem hx
  have hlt : i < nOf bs.length := by rw [← hlen]; exact (List.getElem?_eq_some_iff.1 hi).1
  rw [cutR_get h hlt] at hi
  cases hi
  exact frOf_may h hlt
 ·rw [ho]; show cutOk bs (seq + (0 : Nat)) inc; rw [Int.natCast_zero, Int.add_zero]; exact h
 ·rw [ho, hR]; show cutF bs (seq + (0 : Nat)) inc = _; rw [Int.natCast_zero, Int.add_zero]
end Go.Proofs.YtndabhdepjnbcaaGreat

namespace Go.Proofs.YtndabhdepjnbcaaGreat
open Go.RowKit Go.Sort
abbrev FrB := Fr × List UInt8
structure Sc where
 seq : Int
 inc : Int
 begun : List FrB
 l : List (Int × List UInt8)
 next : Int
def goodP (s : Sc) (f : Fr) : Bool := f.seq == s.seq && !decide (f.inc < s.inc) && (match s.begun with
 | [] => f.part == 0
 | g :: _ => f.part == (s.begun.length : Int) && f.of == g.1.of && f.mark == g.1.mark && f.inc == g.1.inc)
open Classical in
noncomputable def takeP (s : Sc) (x : FrB) : Sc × Bool :=
 if ((s.begun ++ [x]).length : Int) < x.1.of then (⟨s.seq + 1, x.1.inc, s.begun ++ [x], s.l, s.next⟩, true)
 else if joinOk (s.begun ++ [x]) then (⟨s.seq + 1, x.1.inc, [], s.l ++ [((s.begun ++ [x]).head?.elim 0 (·.1.seq), outF (s.begun ++ [x]))], s.seq + 1⟩, true)
 else (⟨s.seq + 1, x.1.inc, s.begun ++ [x], s.l, s.next⟩, false)
noncomputable def stepP (s : Sc) (bs : List UInt8) : Sc × Bool := match readF bs with
 | none => (s, false)
 | some x => if goodP s x.1 = true then takeP s x else (s, false)
noncomputable def scanP (s : Sc) : List (List UInt8) → Sc
 | [] => s
 | x :: t => if (stepP s x).2 = true then scanP (stepP s x).1 t else (stepP s x).1
abbrev FrM := Fr × RB
abbrev FrM.pl (p : FrM) : FrB := (p.1, p.2.bs)
abbrev FrM.cellsL (p : FrM) : List Value := p.1.cells p.2.val
def frC (fs : List FrM) : List Value := fs.flatMap FrM.cellsL
abbrev FdM := Int × RB
abbrev FdM.pl (p : FdM) : Int × List UInt8 := (p.1, p.2.bs)
abbrev FdM.cellsL (p : FdM) : List Value := [.int .i64 p.1, p.2.val]
def fdC (ls : List FdM) : List Value := ls.flatMap FdM.cellsL
theorem frC_length : ∀ fs, (frC fs).length = fs.length * 6
 | [] => rfl
 | x :: l => by
   show (x.cellsL ++ frC l).length = _
   rw [List.length_append, frC_length l]; simp; omega
theorem fdC_length : ∀ fs, (fdC fs).length = fs.length * 2
 | [] => rfl
 | x :: l => by
   show (x.cellsL ++ fdC l).length = _
   rw [List.length_append, fdC_length l]; simp; omega
theorem frC_get {l : List FrM} {i : Nat} {x : FrM} (hx : l[i]? = some x) : ((frC l).drop (i * 6)).take 6 = x.cellsL := by
 obtain ⟨hlt, he⟩ := List.getElem?_eq_some_iff.1 hx
 have e : frC l = frC (l.take i) ++ (x.cellsL ++ frC (l.drop (i + 1))) := by
  conv => lhs; rw [← List.take_append_drop i l, List.drop_eq_getElem_cons hlt, he]
  simp [frC]
 rw [e, show i * 6 = (frC (l.take i)).length by rw [frC_length, List.length_take]; omega, List.drop_left]
 rfl
theorem fdC_get {l : List FdM} {i : Nat} {x : FdM} (hx : l[i]? = some x) : ((fdC l).drop (i * 2)).take 2 = x.cellsL := by
 obtain ⟨hlt, he⟩ := List.getElem?_eq_some_iff.1 hx
 have e : fdC l = fdC (l.take i) ++ (x.cellsL ++ fdC (l.drop (i + 1))) := by
  conv => lhs; rw [← List.take_append_drop i l, List.drop_eq_getElem_cons hlt, he]
  simp [fdC]
 rw [e, show i * 2 = (fdC (l.take i)).length by rw [fdC_length, List.length_take]; omega, List.drop_left]
 rfl
structure ScM where
 fs : List FrM
 ls : List FdM
 ba : Option Addr
 bc : Nat
 la : Option Addr
 lc : Nat
 lo : Nat
 hi : Nat
 lo2 : Nat
 hi2 : Nat
abbrev ScM.bv (m : ScM) : Value := .slice m.ba m.fs.length m.bc
abbrev ScM.lv (m : ScM) : Value := .slice m.la m.ls.length m.lc
abbrev scC (s : Sc) (m : ScM) : List Value := [.int .i64 s.seq, .int .i64 s.inc, m.bv, m.lv, .int .i64 s.next]
def ScM.rows (m : ScM) : List Ent := m.fs.map (fun p => p.2.ent) ++ m.ls.map (fun p => p.2.ent)
def ScM.ents (b : Nat) (s : Sc) (m : ScM) : List Ent := .blk b (scC s m).toArray 145 :: rowE m.lo m.hi 191 6 m.bv m.fs.length (frC m.fs) :: rowE m.lo2 m.hi2 149 2 m.lv m.ls.length (fdC m.ls) :: m.rows
structure ScM.Ok (s : Sc) (m : ScM) : Prop where
 begun : s.begun = m.fs.map FrM.pl
 l : s.l = m.ls.map FdM.pl
 may : ∀ p ∈ m.fs, p.1.may p.2.bs.length = true
 short : ∀ p ∈ m.ls, p.2.bs.length ≤ 90
def ScE (b : Nat) (s : Sc) (E : List Ent) : Prop := ∃ m : ScM, m.Ok s ∧ E = m.ents b s
theorem Mem.readIn {w0 w : World} {H : List Ent} {lo hi e sz m : Nat} {x : Value} {xs : List Value} (M : Mem w0 w H) (h : rowE lo hi e sz x m xs ∈ H) (hm : m ≤ maxLen) : Rd 0 w.heap.size w sz x m xs := by
 obtain ⟨p, hp⟩ := List.getElem?_of_mem h
 exact M.readAll p hp hm
theorem frs_of {w0 w : World} {H : List Ent} {lo hi : Nat} {fs : List FrM} {v : Value} (M : Mem w0 w H) (h : rowE lo hi 191 6 v fs.length (frC fs) ∈ H) (hl : fs.length ≤ 1000) (he : ∀ p ∈ fs, p.2.ent ∈ H) (hm : ∀ p ∈ fs, p.1.may p.2.bs.length = true) :
 FrsC (frC fs) 0 w.heap.size w v (fs.map FrM.pl) := by
 refine ⟨by rw [List.length_map]; exact M.readIn h (by unfold maxLen; omega), fun i f bs hi => ?_⟩
 rw [List.getElem?_map] at hi
 cases hx : fs[i]? with
 | none => rw [hx] at hi; cases hi
 | some p =>
   rw [hx] at hi
   obtain ⟨rfl, rfl⟩ := Prod.mk.inj (Option.some.inj hi)
   have hp := List.mem_of_getElem? hx
   have := hm p hp
   simp only [Fr.may, decide_eq_true_eq] at this
   exact ⟨p.2.val, frC_get hx, M.readB (he p hp) (by omega)⟩
theorem Mem.backA {w0 w : World} {X A : List Ent} (M : Mem w0 w (X ++ A)) : Mem w0 w (A ++ X) := M.perm List.perm_append_comm
set_option maxHeartbeats 1000000 in
theorem good_any {wc w : World} {A E : List Ent} {b : Nat} {s : Sc} (f : Fr) (ad : Option Addr) (l c : Nat) (hE : ScE b s E) (M : Mem wc w (A ++ E)) (hb : s.begun.length ≤ 1000) :
 Calls Tryz.prog 109 #[.pointer (some ⟨b, 0, none⟩), .agg (f.cells (.slice ad l c)).toArray] w fun e w' => e = .returned (.bool (goodP s f)) ∧ Mem wc w' (A ++ E) := by
 obtain ⟨m, O, rfl⟩ := hE
 replace M : Mem wc w (.blk b (scC s m).toArray 145 :: rowE m.lo m.hi 191 6 m.bv m.fs.length (frC m.fs) :: rowE m.lo2 m.hi2 149 2 m.lv m.ls.length (fdC m.ls) :: (m.rows ++ A)) := M.perm List.perm_append_comm
 have hlen : s.begun.length = m.fs.length := by rw [O.begun, List.length_map]
 rw [hlen] at hb
 refine calls_enter Tryz.func109 rfl 66 rfl rfl ?_; intro a S
 refine wp_seq ?_
 skip
 refine wp_region_lit (st_box S M rfl rfl rfl #[_, _, _, _, _, _] rfl ?_); clear S M a; intro a w1 bF S M hB
 refine qG [1] S ?_; clear S a; intro a S
 refine nxC (wp_seq (wp_seq (wp_quiet M (by kernel_rfl) (by kernel_rfl) ?_)))
 refine qt_y S rfl rfl rfl (fun w M => y_fieldAddr (k := 0) S (by kernel_rfl) rfl) ?_; clear S a; intro a S
 refine qt_y S rfl rfl rfl (fun w M => y_load S (by kernel_rfl) rfl (M.cell 0 rfl rfl)) ?_; clear S a; intro a S
 refine qt_y S rfl rfl rfl (fun w M => y_move S rfl) ?_; clear S a; intro a S
 refine qt_y S rfl rfl rfl (fun w M => y_nilCheck S rfl) ?_; clear S a; intro a S
 refine qt_y S rfl rfl rfl (fun w M => y_fieldAddr (k := 0) S (by kernel_rfl) rfl) ?_; clear S a; intro a S
 refine qt_y S rfl rfl rfl (fun w M => y_load S (by kernel_rfl) rfl (M.cell 1 rfl rfl)) ?_; clear S a; intro a S
 refine qt_y S rfl rfl rfl (fun w M => y_int S rfl rfl rfl) ?_; clear S a; intro a S
 refine qt_y S rfl rfl rfl (fun w M => y_move S rfl) ?_; clear S a; intro a S
 refine st_if (t := 13) S rfl ?_ ?_
 ·clear S; intro h13 S
  refine qt_skip 7 S rfl ?_; clear S a; intro a S
  refine qt_y S rfl rfl rfl (fun w M => y_pickT S rfl rfl) ?_; clear S a; intro a S
  refine wpQuiet_nil ?_; clear M; intro w2 M
  refine then_normal (st_condT S rfl (nxD (qG [1] S ?_))); clear S a; intro a S
  refine nxC (wp_ret (then_ret (end_one S rfl (res_tmp rfl) ?_)))
  refine ⟨ret_bool ?_, Mem.backA (X := m.ents b s) (M.drop 0)⟩; clear S M; unfold goodP
  by_cases h1 : f.seq = s.seq
  ·have h2 : f.inc < s.inc := by omega
   simp [h2]
  ·simp [h1]
 clear S; intro h13 S
 refine qt_y S rfl rfl rfl (fun w M => y_fieldAddr (k := 1) S (by kernel_rfl) rfl) ?_; clear S a; intro a S
 refine qt_y S rfl rfl rfl (fun w M => y_load S (by kernel_rfl) rfl (M.cell 0 rfl rfl)) ?_; clear S a; intro a S
 refine qt_y S rfl rfl rfl (fun w M => y_move S rfl) ?_; clear S a; intro a S
 refine qt_y S rfl rfl rfl (fun w M => y_nilCheck S rfl) ?_; clear S a; intro a S
 refine qt_y S rfl rfl rfl (fun w M => y_fieldAddr (k := 1) S (by kernel_rfl) rfl) ?_; clear S a; intro a S
 refine qt_y S rfl rfl rfl (fun w M => y_load S (by kernel_rfl) rfl (M.cell 1 rfl rfl)) ?_; clear S a; intro a S
 refine qt_y S rfl rfl rfl (fun w M => y_int S rfl rfl rfl) ?_; clear S a; intro a S
 refine qt_y S rfl rfl rfl (fun w M => y_pickF S rfl rfl) ?_; clear S a; intro a S
 refine wpQuiet_nil ?_; clear M; intro w3 M
 replace S := S.keep [0, 1, 3, 4, 21]
 refine then_normal (st_if (t := 21) S rfl ?_ ?_)
 ·clear S; intro h21 S
  refine st_condT S rfl (nxD (qG [1] S ?_)); clear S a; intro a S
  refine nxC (wp_ret (then_ret (end_one S rfl (res_tmp rfl) ?_)))
  refine ⟨ret_bool ?_, Mem.backA (X := m.ents b s) (M.drop 0)⟩; clear S M; unfold goodP
  by_cases h1 : f.seq = s.seq
  ·have h2 : f.inc < s.inc := by omega
   simp [h2]
  ·simp [h1]
 clear S; intro h21 S
 refine st_condF S rfl (wp_skip (then_normal (wp_seq (nxD (qR [1, 1, 3, 2] S M ?_))))); clear S a; intro a S
 refine qY S (y_lenS (E := 191) S rfl (by kernel_rfl)) ?_; clear S a; intro a S
 refine qG [1] S ?_; clear S a; intro a S
 refine nxC (st_if (t := 27) S rfl ?_ ?_)
 ·clear S; intro h27 S
  refine st_condT S rfl (nxD (qR [3, 1, 1, 1] S M ?_)); clear S a; intro a S
  refine nxC (wp_ret (then_ret (end_one S rfl (res_tmp rfl) ?_)))
  refine ⟨ret_bool ?_, Mem.backA (X := m.ents b s) (M.drop 0)⟩; clear S M
  have hnil : s.begun = [] := List.eq_nil_of_length_eq_zero (by omega)
  unfold goodP
  simp only [hnil]
  have h1 : f.seq = s.seq := by omega
  have h2 : ¬ f.inc < s.inc := by omega
  simp [h1, h2]
 clear S; intro h27 S
 refine st_condF S rfl (wp_skip (then_normal (wp_seq ?_)))
 obtain ⟨g, hg⟩ : ∃ g, m.fs[0]? = some g := ⟨_, List.getElem?_eq_getElem (by omega)⟩
 refine wp_region_lit (qR [1, 1, 3, 2] S M ?_); clear S a; intro a S
 refine qY S (y_indexR (e := 191) (sz := 6) S (by kernel_rfl) rfl (M.readAll 2 rfl (by unfold maxLen; omega)) rfl (by first | omega | (simp; done) | (simp; omega))) ?_; clear S a; intro a S
 refine qY S (y_loadAgg S (by kernel_rfl) rfl rfl ((M.readAll 2 rfl (by unfold maxLen; omega)).at_.row (i := 0) (frC_get hg) rfl)) ?_; clear S a; intro a S
 refine st_alloc S M rfl rfl #[.int .i64 0, .int .i64 0, .int .i64 0, .int .i64 0, .int .u32 0, .slice none 0 0] (by kernel_rfl) ?_; clear S M a; intro a w4 bG S M hB
 refine qS (sz := 6) (us := [_, _, _, _, _, _]) S M 0 ?_; clear M; intro w5 M
 refine nxC (wp_seq (wp_quiet M (by kernel_rfl) (by kernel_rfl) ?_))
 refine qt_y S rfl rfl rfl (fun w M => y_fieldAddr (k := 2) S (by kernel_rfl) rfl) ?_; clear S a; intro a S
 refine qt_y S rfl rfl rfl (fun w M => y_load S (by kernel_rfl) rfl (M.cell 1 rfl rfl)) ?_; clear S a; intro a S
 refine qt_y S rfl rfl rfl (fun w M => y_move S rfl) ?_; clear S a; intro a S
 refine qt_y S rfl rfl rfl (fun w M => y_nilCheck S rfl) ?_; clear S a; intro a S
 refine qt_y S rfl rfl rfl (fun w M => y_fieldAddr (k := 2) S (by kernel_rfl) rfl) ?_; clear S a; intro a S
 refine qt_y S rfl rfl rfl (fun w M => y_load S (by kernel_rfl) rfl (M.cell 2 rfl rfl)) ?_; clear S a; intro a S
 refine qt_y S rfl rfl rfl (fun w M => y_lenS (E := 191) S rfl (by kernel_rfl)) ?_; clear S a; intro a S
 refine qt_y S rfl rfl rfl (fun w M => y_int S rfl rfl rfl) ?_; clear S a; intro a S
 refine qt_y S rfl rfl rfl (fun w M => y_move S rfl) ?_; clear S a; intro a S
 refine st_fi (t := 45) S rfl ?_ ?_
 ·clear S; intro h45 S
  refine qt_skip 5 S rfl ?_; clear S a; intro a S
  refine qt_y S rfl rfl rfl (fun w M => y_pickF S rfl rfl) ?_; clear S a; intro a S
  refine qt_y S rfl rfl rfl (fun w M => y_move S rfl) ?_; clear S a; intro a S
  refine qt_skip 5 S rfl ?_; clear S a; intro a S
  refine qt_y S rfl rfl rfl (fun w M => y_pickF S rfl rfl) ?_; clear S a; intro a S
  refine qt_y S rfl rfl rfl (fun w M => y_move S rfl) ?_; clear S a; intro a S
  refine qt_skip 5 S rfl ?_; clear S a; intro a S
  refine qt_y S rfl rfl rfl (fun w M => y_pickF S rfl rfl) ?_; clear S a; intro a S
  refine qt_y S rfl rfl rfl (fun w M => y_assign S rfl) ?_; clear S a; intro a S
  refine wpQuiet_nil ?_; clear M; intro w9 M
  replace S := S.keep [0, 1, 3, 21, 27, 5, 4]
  refine then_normal (wp_ret (end_one S rfl (res_tmp rfl) ?_))
  refine ⟨ret_bool ?_, Mem.backA (X := m.ents b s) ((M.drop 0).drop 0)⟩; clear S M
  have hcons : s.begun = g.pl :: (m.fs.drop 1).map FrM.pl := by
   rw [O.begun]
   cases hf : m.fs with
   | nil => rw [hf] at hg; cases hg
   | cons x t => rw [hf] at hg; cases hg; rfl
  have h1 : f.seq = s.seq := by omega
  have h2 : ¬ f.inc < s.inc := by omega
  unfold goodP
  rw [hlen]
  simp only [hcons]
  simp [h1, h2, *]
 clear S; intro h45 S
 refine qt_y S rfl rfl rfl (fun w M => y_fieldAddr (k := 3) S (by kernel_rfl) rfl) ?_; clear S a; intro a S
 refine qt_y S rfl rfl rfl (fun w M => y_load S (by kernel_rfl) rfl (M.cell 1 rfl rfl)) ?_; clear S a; intro a S
 refine qt_y S rfl rfl rfl (fun w M => y_fieldAddr (k := 3) S (by kernel_rfl) rfl) ?_; clear S a; intro a S
 refine qt_y S rfl rfl rfl (fun w M => y_load S (by kernel_rfl) rfl (M.cell 0 rfl rfl)) ?_; clear S a; intro a S
 refine qt_y S rfl rfl rfl (fun w M => y_int S rfl rfl rfl) ?_; clear S a; intro a S
 refine qt_y S rfl rfl rfl (fun w M => y_pickT S rfl rfl) ?_; clear S a; intro a S
 refine qt_y S rfl rfl rfl (fun w M => y_move S rfl) ?_; clear S a; intro a S
 refine st_fi (t := 52) S rfl ?_ ?_
 ·clear S; intro h52 S
  refine qt_skip 5 S rfl ?_; clear S a; intro a S
  refine qt_y S rfl rfl rfl (fun w M => y_pickF S rfl rfl) ?_; clear S a; intro a S
  refine qt_y S rfl rfl rfl (fun w M => y_move S rfl) ?_; clear S a; intro a S
  refine qt_skip 5 S rfl ?_; clear S a; intro a S
  refine qt_y S rfl rfl rfl (fun w M => y_pickF S rfl rfl) ?_; clear S a; intro a S
  refine qt_y S rfl rfl rfl (fun w M => y_assign S rfl) ?_; clear S a; intro a S
  refine wpQuiet_nil ?_; clear M; intro w8 M
  replace S := S.keep [0, 1, 3, 21, 27, 5, 4]
  refine then_normal (wp_ret (end_one S rfl (res_tmp rfl) ?_))
  refine ⟨ret_bool ?_, Mem.backA (X := m.ents b s) ((M.drop 0).drop 0)⟩; clear S M
  have hcons : s.begun = g.pl :: (m.fs.drop 1).map FrM.pl := by
   rw [O.begun]
   cases hf : m.fs with
   | nil => rw [hf] at hg; cases hg
   | cons x t => rw [hf] at hg; cases hg; rfl
  have h1 : f.seq = s.seq := by omega
  have h2 : ¬ f.inc < s.inc := by omega
  unfold goodP
  rw [hlen]
  simp only [hcons]
  simp [h1, h2, *]
 clear S; intro h52 S
 refine qt_y S rfl rfl rfl (fun w M => y_fieldAddr (k := 4) S (by kernel_rfl) rfl) ?_; clear S a; intro a S
 refine qt_y S rfl rfl rfl (fun w M => y_load S (by kernel_rfl) rfl (M.cell 1 rfl rfl)) ?_; clear S a; intro a S
 refine qt_y S rfl rfl rfl (fun w M => y_fieldAddr (k := 4) S (by kernel_rfl) rfl) ?_; clear S a; intro a S
 refine qt_y S rfl rfl rfl (fun w M => y_load S (by kernel_rfl) rfl (M.cell 0 rfl rfl)) ?_; clear S a; intro a S
 refine qt_y S rfl rfl rfl (fun w M => y_eql32 S rfl rfl) ?_; clear S a; intro a S
 refine qt_y S rfl rfl rfl (fun w M => y_pickT S rfl rfl) ?_; clear S a; intro a S
 refine qt_y S rfl rfl rfl (fun w M => y_move S rfl) ?_; clear S a; intro a S
 refine st_fi (t := 59) S rfl ?_ ?_
 ·clear S; intro h59 S
  refine qt_skip 5 S rfl ?_; clear S a; intro a S
  refine qt_y S rfl rfl rfl (fun w M => y_pickF S rfl rfl) ?_; clear S a; intro a S
  refine qt_y S rfl rfl rfl (fun w M => y_assign S rfl) ?_; clear S a; intro a S
  refine wpQuiet_nil ?_; clear M; intro w7 M
  replace S := S.keep [0, 1, 3, 21, 27, 5, 4]
  refine then_normal (wp_ret (end_one S rfl (res_tmp rfl) ?_))
  refine ⟨ret_bool ?_, Mem.backA (X := m.ents b s) ((M.drop 0).drop 0)⟩; clear S M
  have hcons : s.begun = g.pl :: (m.fs.drop 1).map FrM.pl := by
   rw [O.begun]
   cases hf : m.fs with
   | nil => rw [hf] at hg; cases hg
   | cons x t => rw [hf] at hg; cases hg; rfl
  have h1 : f.seq = s.seq := by omega
  have h2 : ¬ f.inc < s.inc := by omega
  unfold goodP
  rw [hlen]
  simp only [hcons]
  simp [h1, h2, *]
 clear S; intro h59 S
 refine qt_y S rfl rfl rfl (fun w M => y_fieldAddr (k := 1) S (by kernel_rfl) rfl) ?_; clear S a; intro a S
 refine qt_y S rfl rfl rfl (fun w M => y_load S (by kernel_rfl) rfl (M.cell 1 rfl rfl)) ?_; clear S a; intro a S
 refine qt_y S rfl rfl rfl (fun w M => y_fieldAddr (k := 1) S (by kernel_rfl) rfl) ?_; clear S a; intro a S
 refine qt_y S rfl rfl rfl (fun w M => y_load S (by kernel_rfl) rfl (M.cell 0 rfl rfl)) ?_; clear S a; intro a S
 refine qt_y S rfl rfl rfl (fun w M => y_int S rfl rfl rfl) ?_; clear S a; intro a S
 refine qt_y S rfl rfl rfl (fun w M => y_pickT S rfl rfl) ?_; clear S a; intro a S
 refine qt_y S rfl rfl rfl (fun w M => y_assign S rfl) ?_; clear S a; intro a S
 refine wpQuiet_nil ?_; clear M; intro w6 M
 replace S := S.keep [0, 1, 3, 21, 27, 5, 4]
 refine then_normal (wp_ret (end_one S rfl (res_tmp rfl) ?_))
 refine ⟨ret_bool ?_, Mem.backA (X := m.ents b s) ((M.drop 0).drop 0)⟩; clear S M
 have hcons : s.begun = g.pl :: (m.fs.drop 1).map FrM.pl := by
  rw [O.begun]
  cases hf : m.fs with
  | nil => rw [hf] at hg; cases hg
  | cons x t => rw [hf] at hg; cases hg; rfl
 have h1 : f.seq = s.seq := by omega
 have h2 : ¬ f.inc < s.inc := by omega
 unfold goodP
 rw [hlen]
 simp only [hcons]
 simp [h1, h2, *]
end Go.Proofs.YtndabhdepjnbcaaGreat

namespace Go.Proofs.YtndabhdepjnbcaaGreat
open Go.RowKit Go.Sort
theorem frC_snoc (fs : List FrM) (x : FrM) : frC (fs ++ [x]) = frC fs ++ x.cellsL := by simp [frC]
theorem fdC_snoc (ls : List FdM) (x : FdM) : fdC (ls ++ [x]) = fdC ls ++ x.cellsL := by simp [fdC]
theorem perm_in {α : Type} (r : α) (X A : List α) : (r :: (X ++ A)).Perm ((X ++ [r]) ++ A) := by
 rw [List.append_assoc]; exact List.perm_middle.symm
set_option maxHeartbeats 2000000 in
theorem take_any {wc w : World} {A E : List Ent} {b : Nat} {s : Sc} (f : Fr) (r : RB) (hE : ScE b s E) (M : Mem wc w (r.ent :: (A ++ E))) (hb : s.begun.length ≤ 900) (hl : s.l.length ≤ 1000) (hs : -1099511627776 ≤ s.seq ∧ s.seq ≤ 1099511627776) (hm : f.may r.bs.length = true) :
 Calls Tryz.prog 110 #[.pointer (some ⟨b, 0, none⟩), .agg (f.cells r.val).toArray] w fun e w' => e = .returned (.bool (takeP s (f, r.bs)).2) ∧ ∃ E', ScE b (takeP s (f, r.bs)).1 E' ∧ Mem wc w' (A ++ E') := by
 obtain ⟨m, O, rfl⟩ := hE
 replace M : Mem wc w (.blk b (scC s m).toArray 145 :: rowE m.lo m.hi 191 6 m.bv m.fs.length (frC m.fs) :: rowE m.lo2 m.hi2 149 2 m.lv m.ls.length (fdC m.ls) :: (r.ent :: (m.rows ++ A))) := M.perm ((List.Perm.cons _ List.perm_append_comm).trans (List.perm_middle (l₁ := [_, _, _]) (l₂ := m.rows ++ A)).symm)
 have hlen : s.begun.length = m.fs.length := by rw [O.begun, List.length_map]
 have hlen2 : s.l.length = m.ls.length := by rw [O.l, List.length_map]
 rw [hlen] at hb
 rw [hlen2] at hl
 obtain ⟨fs2, hfs2⟩ : ∃ fs2, fs2 = m.fs ++ [(f, r)] := ⟨_, rfl⟩
 have hf2l : fs2.length = m.fs.length + 1 := by rw [hfs2, List.length_append]; rfl
 have hpl2 : fs2.map FrM.pl = s.begun ++ [(f, r.bs)] := by rw [hfs2, List.map_append, O.begun]; rfl
 have hmay2 : ∀ p ∈ fs2, p.1.may p.2.bs.length = true := fun p hp => by
  rw [hfs2] at hp
  rcases List.mem_append.1 hp with h | h
  ·exact O.may p h
  ·rw [List.mem_singleton.1 h]; exact hm
 have hin : ∀ p ∈ fs2, p.2.ent ∈ r.ent :: (m.rows ++ A) := fun p hp => by
  rw [hfs2] at hp
  rcases List.mem_append.1 hp with h | h
  ·exact .tail _ (List.mem_append_left _ (by unfold ScM.rows; exact List.mem_append_left _ (List.mem_map_of_mem h)))
  ·rw [List.mem_singleton.1 h]; exact .head _
 have hbig : ∀ x ∈ fs2.map FrM.pl, x.2.length ≤ 1000 := fun x hx => by
  obtain ⟨p, hp, rfl⟩ := List.mem_map.1 hx
  have := hmay2 p hp
  simp only [Fr.may, decide_eq_true_eq] at this
  show p.2.bs.length ≤ 1000
  omega
 have hsq : ∀ x ∈ fs2.map FrM.pl, -9223372036854775808 ≤ x.1.seq ∧ x.1.seq ≤ 9223372036854775807 := fun x hx => by
  obtain ⟨p, hp, rfl⟩ := List.mem_map.1 hx
  have := hmay2 p hp
  simp only [Fr.may, decide_eq_true_eq] at this
  show -9223372036854775808 ≤ p.1.seq ∧ p.1.seq ≤ 9223372036854775807
  omega
 have hlenT : ((s.begun ++ [((f, r.bs) : FrB)]).length : Int) = ((m.fs.length + 1 : Nat) : Int) := by rw [List.length_append, hlen]; rfl
 refine calls_enter Tryz.func110 rfl 75 rfl rfl ?_; intro a S
 refine wp_seq ?_
 skip
 refine wp_region_lit (st_box S M rfl rfl rfl #[_, _, _, _, _, _] rfl ?_); clear S M a; intro a w1 bF S M hB
 refine qG [1] S ?_; clear S a; intro a S
 refine nxA (qR [1, 1, 1, 2] S M ?_); clear S a; intro a S
 (first | refine qY S (y_addN S rfl rfl (by omega)) ?_ | refine qY S (y_int S rfl rfl rfl) ?_); clear S a; intro a S
 refine qG [1, 1] S ?_; clear S a; intro a S
 refine qS (sz := 1) (us := [_]) S M 1 ?_; clear M; intro w2 M
 refine nxA (qR [1, 2, 1, 1, 2] S M ?_); clear S a; intro a S
 refine qS (sz := 1) (us := [_]) S M 1 ?_; clear M; intro w3 M
 refine nxC (wp_seq (wp_regionK [7, 10] #[false, false, false, false, false, false, false, false, false, false, false] rfl M (by kernel_rfl) ?_)); clear M; intro w4 M
 refine k_pure 0 S rfl (fun w => y_move S rfl) ?_; clear S a; intro a S
 refine k_pure 1 S rfl (fun w => y_move S rfl) ?_; clear S a; intro a S
 refine k_pure 2 S rfl (fun w => y_nilCheck S rfl) ?_; clear S a; intro a S
 refine k_pure 3 S rfl (fun w => y_fieldAddr (k := 2) S (by kernel_rfl) rfl) ?_; clear S a; intro a S
 refine k_read 4 S rfl (fun w hW => have M := M.grow hW; y_load S (by kernel_rfl) rfl (M.cell 1 rfl rfl)) ?_; clear S a; intro a S
 refine k_read 5 S rfl (fun w hW => have M := M.grow hW; y_loadAgg (cs := [_, _, _, _, _, _]) S (by kernel_rfl) rfl rfl (M.cellsAt (k := 6) 0 rfl rfl)) ?_; clear S a; intro a S
 refine k_one 6 rfl (by kernel_rfl) ?_
 refine st_lit (ps := [(0, .tmp 24)]) (e := 191) (sz := 6) (zl := [.int .i64 0, .int .i64 0, .int .i64 0, .int .i64 0, .int .u32 0, .slice none 0 0]) (cs := [_, _, _, _, _, _]) S M rfl rfl (by kernel_rfl) rfl (rfl) ?_; clear S M a; intro a w5 bZ S M hB
 refine wpList_nil ?_; refine then_normal ?_; refine ⟨fun _ => hB, ?_⟩
 refine k_one 7 rfl (by kernel_rfl) ?_
 refine st_append (e := 191) (sz := 6) (by_ := 64) (zc := [.int .i64 0, .int .i64 0, .int .i64 0, .int .i64 0, .int .u32 0, .slice none 0 0]) S M 3 rfl rfl (by kernel_rfl) rfl (by decide) rfl rfl rfl (show Rd _ _ _ 6 _ 1 (f.cells r.val) from M.sliceAt 0 rfl (M.cellsAt (k := 6) 0 rfl rfl) rfl (Nat.le_refl _) (by unfold maxLen; omega)) (rfl) (by omega) (by unfold maxLen; omega) ?_; clear S M a; intro a w6 vA loA hiA S M
 refine wpList_nil ?_; refine then_normal ?_; refine ⟨fun h => absurd h (by decide), ?_⟩
 refine k_pure 8 S rfl (fun w => y_nilCheck S rfl) ?_; clear S a; intro a S
 refine k_pure 9 S rfl (fun w => y_fieldAddr (k := 2) S (by kernel_rfl) rfl) ?_; clear S a; intro a S
 refine k_one 10 rfl (by kernel_rfl) ?_
 obtain ⟨aA, cA, rfl, -, -⟩ := (M.readAll 0 rfl (by unfold maxLen; omega)).form
 refine qS (sz := 1) (us := [_]) S M 3 ?_; clear M; intro w7 M
 refine wpList_nil ?_; refine then_normal ?_; refine ⟨fun h => absurd h (by decide), ?_⟩
 refine k_end (by kernel_rfl) ?_
 replace S := S.keep [0, 1, 3, 4]
 refine then_normal (wp_seq (wp_seq ?_))
 skip
 replace M := M.drop 1
 simp only [List.eraseIdx_cons_succ, List.eraseIdx_cons_zero] at M
 replace M := M.ord [3, 1, 3] (by simp only [ordO, oG, oS, oE, oZ, oB] <;> rfl)
 have hM2 : rowE loA hiA 191 6 (.slice aA (m.fs.length + 1) cA) (m.fs.length + 1) (frC m.fs ++ f.cells r.val) = rowE loA hiA 191 6 (.slice aA fs2.length cA) fs2.length (frC fs2) := by rw [hf2l, hfs2, frC_snoc]
 replace M : Mem wc w7 (.blk b #[.int .i64 (s.seq + 1), .int .i64 f.inc, .slice aA (m.fs.length + 1) cA, m.lv, .int .i64 s.next] 145 :: rowE loA hiA 191 6 (.slice aA (m.fs.length + 1) cA) (m.fs.length + 1) (frC m.fs ++ f.cells r.val) :: rowE m.lo2 m.hi2 149 2 m.lv m.ls.length (fdC m.ls) :: .blk bF (f.cells r.val).toArray 191 :: (r.ent :: (m.rows ++ A))) := M
 rw [hM2, ← hf2l] at M
 obtain ⟨m2, hm2⟩ : ∃ m2 : ScM, m2 = { m with fs := fs2, ba := aA, bc := cA, lo := loA, hi := hiA } := ⟨_, rfl⟩
 have hmid : ∀ {W : World} {X Y : Ent} {R : List Ent}, Mem wc W (X :: Y :: R ++ (r.ent :: (m.rows ++ A))) → Mem wc W ((X :: Y :: R) ++ (m2.rows ++ A)) := fun M => M.perm (List.Perm.append_left _ (by rw [hm2, hfs2]; unfold ScM.rows; simp only [List.map_append, List.map_cons, List.map_nil, List.append_assoc, List.cons_append, List.nil_append]; exact List.perm_middle.symm))
 refine wp_quiet M (by kernel_rfl) (by kernel_rfl) ?_
 refine qt_y S rfl rfl rfl (fun w M => y_move S rfl) ?_; clear S a; intro a S
 refine qt_y S rfl rfl rfl (fun w M => y_nilCheck S rfl) ?_; clear S a; intro a S
 refine qt_y S rfl rfl rfl (fun w M => y_fieldAddr (k := 2) S (by kernel_rfl) rfl) ?_; clear S a; intro a S
 refine qt_y S rfl rfl rfl (fun w M => y_load S (by kernel_rfl) rfl (M.cell 0 rfl rfl)) ?_; clear S a; intro a S
 refine qt_y S rfl rfl rfl (fun w M => y_lenR (E := 191) S rfl (M.readAll 1 rfl (by unfold maxLen; omega)) (by kernel_rfl)) ?_; clear S a; intro a S
 refine qt_y S rfl rfl rfl (fun w M => y_fieldAddr (k := 3) S (by kernel_rfl) rfl) ?_; clear S a; intro a S
 refine qt_y S rfl rfl rfl (fun w M => y_load S (by kernel_rfl) rfl (M.cell 3 rfl rfl)) ?_; clear S a; intro a S
 refine qt_y S rfl rfl rfl (fun w M => y_int S rfl rfl rfl) ?_; clear S a; intro a S
 refine wpQuiet_nil ?_; clear M; intro w8 M
 refine then_normal (st_if (t := 36) S rfl ?_ ?_)
 ·clear S; intro h36 S
  refine st_condT S rfl (nxD (qG [1] S ?_)); clear S a; intro a S
  refine nxC (wp_ret (then_ret (end_one S rfl (res_tmp rfl) ?_)))
  have hlt : ((s.begun ++ [((f, r.bs) : FrB)]).length : Int) < f.of := by rw [hlenT]; omega
  unfold takeP
  rw [if_pos hlt]
  refine ⟨rfl, m2.ents b ⟨s.seq + 1, f.inc, s.begun ++ [(f, r.bs)], s.l, s.next⟩, ⟨m2, ⟨by rw [hm2]; exact hpl2.symm, by rw [hm2]; exact O.l, by rw [hm2]; exact hmay2, by rw [hm2]; exact O.short⟩, rfl⟩, ?_⟩
  replace M := M.drop 3
  simp only [List.eraseIdx_cons_succ, List.eraseIdx_cons_zero] at M
  refine Mem.backA ?_
  have M5 := hmid (R := [_]) M
  rw [hm2] at M5 ⊢
  exact M5
 clear S; intro h36 S
 refine st_condF S rfl (wp_skip (then_normal (wp_seq ?_)))
 have hnl : ¬ ((s.begun ++ [((f, r.bs) : FrB)]).length : Int) < f.of := by rw [hlenT]; omega
 refine wp_region_lit (qR [1, 1, 3, 1] S M ?_); clear S a; intro a S
 refine qC (xs := [.tmp 41]) S (qE Tryz.func152) rfl (join_any (.slice aA fs2.length cA) (frC fs2) (fs2.map FrM.pl) _ (frs_of M (.tail _ (.head _)) (by omega) (fun p hp => .tail _ (.tail _ (.tail _ (.tail _ (hin p hp))))) hmay2) hbig hsq) ?_
 rintro _ w9 ⟨vj, rfl, hK, hJ1, hJ2⟩; refine ⟨_, rfl, ?_⟩; clear S a; intro a S
 rw [hpl2] at hJ1 hJ2 S
 refine qG [1, 1, 1, 1, 1] S ?_; clear S a; intro a S
 replace S := S.keep [0, 1, 3, 4, 36, 5, 6]
 refine nxC (wp_seq (nxD (qG [1, 1] S ?_))); clear S a; intro a S
 refine nxC (st_split (t := 46) S rfl ?_ ?_)
 ·clear S; intro h46 S
  refine st_condT S rfl (nxD (qG [1] S ?_)); clear S a; intro a S
  refine nxC (wp_ret (then_ret (end_one S rfl (res_tmp rfl) ?_)))
  have hnj : ¬ joinOk (s.begun ++ [((f, r.bs) : FrB)]) := fun h => by unfold joinE at h46; rw [if_pos h] at h46; simp at h46
  unfold takeP
  rw [if_neg hnl, if_neg hnj]
  replace M := M.grow hK
  refine ⟨rfl, m2.ents b ⟨s.seq + 1, f.inc, s.begun ++ [(f, r.bs)], s.l, s.next⟩, ⟨m2, ⟨by rw [hm2]; exact hpl2.symm, by rw [hm2]; exact O.l, by rw [hm2]; exact hmay2, by rw [hm2]; exact O.short⟩, rfl⟩, ?_⟩
  replace M := M.drop 3
  simp only [List.eraseIdx_cons_succ, List.eraseIdx_cons_zero] at M
  refine Mem.backA ?_
  have M5 := hmid (R := [_]) M
  rw [hm2] at M5 ⊢
  exact M5
 clear S; intro h46 S
 refine st_condF S rfl (wp_skip (then_normal (wp_seq ?_)))
 have hjo : joinOk (s.begun ++ [((f, r.bs) : FrB)]) := by
  by_cases h : joinOk (s.begun ++ [((f, r.bs) : FrB)])
  ·exact h
  ·unfold joinE at h46; rw [if_neg h] at h46; simp at h46
 have ho90 : (outF (s.begun ++ [((f, r.bs) : FrB)])).length ≤ 90 := by obtain ⟨_, _, _, -, -, -, h, -⟩ := hjo; exact h.2.2.2.1
 obtain ⟨lj, hj, -, M2⟩ := M.pushFresh (hJ1 hjo); clear M; have M := M2; clear M2
 obtain ⟨ja, jc, rfl, -, -⟩ := ((hJ1 hjo).rd (by unfold maxLen; omega)).form
 obtain ⟨g, hg⟩ : ∃ g, fs2[0]? = some g := ⟨_, List.getElem?_eq_getElem (by omega)⟩
 refine wp_regionK [15, 18] #[false, false, false, false, false, false, false, false, false, false, false, false, false, false, false, false, false, false, false] rfl M (by kernel_rfl) ?_; clear M; intro w10 M
 refine k_pure 0 S rfl (fun w => y_move S rfl) ?_; clear S a; intro a S
 refine k_pure 1 S rfl (fun w => y_move S rfl) ?_; clear S a; intro a S
 refine k_pure 2 S rfl (fun w => y_nilCheck S rfl) ?_; clear S a; intro a S
 refine k_pure 3 S rfl (fun w => y_fieldAddr (k := 3) S (by kernel_rfl) rfl) ?_; clear S a; intro a S
 refine k_read 4 S rfl (fun w hW => have M := M.grow hW; y_load S (by kernel_rfl) rfl (M.cell 1 rfl rfl)) ?_; clear S a; intro a S
 refine k_pure 5 S rfl (fun w => y_move S rfl) ?_; clear S a; intro a S
 refine k_pure 6 S rfl (fun w => y_nilCheck S rfl) ?_; clear S a; intro a S
 refine k_pure 7 S rfl (fun w => y_fieldAddr (k := 2) S (by kernel_rfl) rfl) ?_; clear S a; intro a S
 refine k_read 8 S rfl (fun w hW => have M := M.grow hW; y_load S (by kernel_rfl) rfl (M.cell 1 rfl rfl)) ?_; clear S a; intro a S
 refine k_read 9 S rfl (fun w hW => have M := M.grow hW; y_indexR (e := 191) (sz := 6) S (by kernel_rfl) rfl (M.readAll 2 rfl (by unfold maxLen; omega)) rfl (by first | omega | (simp; done) | (simp; omega))) ?_; clear S a; intro a S
 refine k_pure 10 S rfl (fun w => y_fieldAddr (k := 0) S (by kernel_rfl) rfl) ?_; clear S a; intro a S
 refine k_read 11 S rfl (fun w hW => have M := M.grow hW; y_load S (by kernel_rfl) rfl ((M.readAll 2 rfl (by unfold maxLen; omega)).at_.row (i := 0) (frC_get hg) rfl 0 (by show 0 < 6; omega))) ?_; clear S a; intro a S
 refine k_pure 12 S rfl (fun w => y_move S rfl) ?_; clear S a; intro a S
 refine k_pure 13 S rfl (fun w => y_build (ps := [(0, .tmp 58), (1, .tmp 59)]) (pl := [(0, 1), (1, 1)]) (z := [.int .i64 0, .slice none 0 0]) (cs := [_, _]) S (by kernel_rfl) rfl (rfl)) ?_; clear S a; intro a S
 refine k_one 14 rfl (by kernel_rfl) ?_
 refine st_lit (ps := [(0, .tmp 60)]) (e := 149) (sz := 2) (zl := [.int .i64 0, .slice none 0 0]) (cs := [_, _]) S M rfl rfl (by kernel_rfl) rfl (rfl) ?_; clear S M a; intro a w11 bY S M hB
 refine wpList_nil ?_; refine then_normal ?_; refine ⟨fun _ => hB, ?_⟩
 refine k_one 15 rfl (by kernel_rfl) ?_
 refine st_append (e := 149) (sz := 2) (by_ := 32) (zc := [.int .i64 0, .slice none 0 0]) S M 4 rfl rfl (by kernel_rfl) rfl (by decide) rfl rfl rfl (show Rd _ _ _ 2 _ 1 [Value.int .i64 g.1.seq, _] from M.sliceAt 0 rfl (M.cellsAt (k := 2) 0 rfl rfl) rfl (Nat.le_refl _) (by unfold maxLen; omega)) (rfl) (by omega) (by unfold maxLen; omega) ?_; clear S M a; intro a w12 vA loA hiA S M
 refine wpList_nil ?_; refine then_normal ?_; refine ⟨fun h => absurd h (by decide), ?_⟩
 refine k_pure 16 S rfl (fun w => y_nilCheck S rfl) ?_; clear S a; intro a S
 refine k_pure 17 S rfl (fun w => y_fieldAddr (k := 3) S (by kernel_rfl) rfl) ?_; clear S a; intro a S
 refine k_one 18 rfl (by kernel_rfl) ?_
 obtain ⟨aD, cD, rfl, -, -⟩ := (M.readAll 0 rfl (by unfold maxLen; omega)).form
 refine qS (sz := 1) (us := [_]) S M 3 ?_; clear M; intro w13 M
 refine wpList_nil ?_; refine then_normal ?_; refine ⟨fun h => absurd h (by decide), ?_⟩
 refine k_end (by kernel_rfl) ?_
 replace S := S.keep [0, 1, 3, 4, 36, 5, 6, 46]
 refine nxE (qG [1, 1, 3] S ?_); clear S a; intro a S
 refine qS (sz := 1) (us := [_]) S M 3 ?_; clear M; intro w14 M
 refine nxA (qR [1, 1, 1, 1, 4, 1, 5] S M ?_); clear S a; intro a S
 refine qS (sz := 1) (us := [_]) S M 3 ?_; clear M; intro w15 M
 refine nxA (qG [1] S ?_); clear S a; intro a S
 refine nxC (wp_ret (end_one S rfl (res_tmp rfl) ?_))
 have hnl2 := hnl
 replace M := M.drop 1
 simp only [List.eraseIdx_cons_succ, List.eraseIdx_cons_zero] at M
 replace M := M.drop 3
 simp only [List.eraseIdx_cons_succ, List.eraseIdx_cons_zero] at M
 replace M := M.drop 3
 simp only [List.eraseIdx_cons_succ, List.eraseIdx_cons_zero] at M
 replace M := M.ord [1, 1, 2] (by simp only [ordO, oG, oS, oE, oZ, oB] <;> rfl)
 have M3 := (M.rowNil 191 6).perm (List.Perm.swap _ _ _)
 clear M
 obtain ⟨r2, hr2⟩ : ∃ r2 : RB, r2 = ⟨lj, hj, ja, jc, outF (s.begun ++ [((f, r.bs) : FrB)])⟩ := ⟨_, rfl⟩
 obtain ⟨ls2, hls2⟩ : ∃ ls2, ls2 = m.ls ++ [(g.1.seq, r2)] := ⟨_, rfl⟩
 have hl2l : ls2.length = m.ls.length + 1 := by rw [hls2, List.length_append]; rfl
 unfold takeP
 rw [if_neg hnl, if_pos hjo]
 have hhd : (s.begun ++ [((f, r.bs) : FrB)]).head?.elim 0 (·.1.seq) = g.1.seq := by
  rw [← hpl2, List.head?_eq_getElem?, List.getElem?_map, hg]; rfl
 rw [hhd]
 obtain ⟨m3, hm3⟩ : ∃ m3 : ScM, m3 = ⟨[], ls2, none, 0, aD, cD, w15.heap.size, w15.heap.size, loA, hiA⟩ := ⟨_, rfl⟩
 refine ⟨rfl, m3.ents b ⟨s.seq + 1, f.inc, [], s.l ++ [(g.1.seq, outF (s.begun ++ [((f, r.bs) : FrB)]))], s.seq + 1⟩, ⟨m3, ⟨by rw [hm3]; rfl, ?_, ?_, ?_⟩, rfl⟩, ?_⟩
 ·rw [hm3]
  show _ = ls2.map FdM.pl
  rw [hls2, List.map_append, O.l, hr2]; rfl
 ·rw [hm3]; intro p hp; cases hp
 ·rw [hm3]
  intro p hp
  replace hp : p ∈ ls2 := hp
  rw [hls2] at hp
  rcases List.mem_append.1 hp with h | h
  ·exact O.short p h
  ·rw [List.mem_singleton.1 h, hr2]; exact ho90
 ·refine Mem.backA ?_
  have hr2e : r2.ent = rowE lj hj 5 1 (.slice ja (outF (s.begun ++ [((f, r.bs) : FrB)])).length jc) (outF (s.begun ++ [((f, r.bs) : FrB)])).length (bcells (outF (s.begun ++ [((f, r.bs) : FrB)]))) := by rw [hr2]; rfl
  have hrow : rowE loA hiA 149 2 (.slice aD (m.ls.length + 1) cD) (m.ls.length + 1) (fdC m.ls ++ [.int .i64 g.1.seq, r2.val]) = rowE loA hiA 149 2 (.slice aD ls2.length cD) ls2.length (fdC ls2) := by rw [hl2l, hls2, fdC_snoc]
  have M4 : Mem wc w15 (.blk b #[.int .i64 (s.seq + 1), .int .i64 f.inc, .slice none 0 0, .slice aD (m.ls.length + 1) cD, .int .i64 (s.seq + 1)] 145 :: rowE w15.heap.size w15.heap.size 191 6 (.slice none 0 0) 0 [] :: rowE loA hiA 149 2 (.slice aD (m.ls.length + 1) cD) (m.ls.length + 1) (fdC m.ls ++ [.int .i64 g.1.seq, r2.val]) :: r2.ent :: (m.ls.map (fun p => p.2.ent) ++ A)) := by
   rw [hr2e, show r2.val = .slice ja (outF (s.begun ++ [((f, r.bs) : FrB)])).length jc by rw [hr2]]
   exact M3.sub (.cons_cons _ (.cons_cons _ (.cons_cons _ (.cons_cons _ (.cons _ (by unfold ScM.rows; rw [List.append_assoc]; exact List.sublist_append_right _ _))))))
  rw [hrow, ← hl2l] at M4
  have hro : m3.rows = m.ls.map (fun p => p.2.ent) ++ [r2.ent] := by
   rw [hm3]; unfold ScM.rows
   show [] ++ ls2.map (fun p => p.2.ent) = _
   rw [hls2, List.map_append]; rfl
  have M6 : Mem wc w15 (_ :: _ :: _ :: (m3.rows ++ A)) := M4.perm (List.Perm.append_left [_, _, _] (by rw [hro]; exact perm_in _ _ _))
  rw [hm3] at M6 ⊢
  exact M6
end Go.Proofs.YtndabhdepjnbcaaGreat

