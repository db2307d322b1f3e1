/-
  Package move: Tick, Writes; law25: name, did.
-/
import Derived.Test.YtgocjpcmjljeoaaMa
namespace Go.Proofs.Ytgocjpcmjljeoaa
open Go.RowKit Go.Sort

theorem Mem.two {w0 w : World} {H : List Ent} {e f : Ent} (M : Mem w0 w (e :: f :: H)) : Mem w0 w [e, f] := M.sub (by simp)
def nm25 : Nm := ⟨4, 1, 1⟩
theorem name25_any (w : World) : Calls Try.prog 14 #[] w fun e w' => e = .returned (.agg nm25.cells) ∧ Below w.heap.size w w' := by
  have M := Mem.start w
  refine calls_enter Try.func14 rfl 2 rfl rfl ?_; intro a S
  refine wp_seq ?_
  -- region 0 law.go:14
  refine wp_region_lit ?_
  refine st_alloc S M rfl rfl #[.int .i64 0, .int .i64 0, .int .i64 0] (by kernel_rfl) ?_; clear S M a; intro a w1 b1 S M hB
  refine wpList_nil ?_
  replace S := S.sub [(0, _)] rfl
  refine then_normal ?_
  refine wp_seq ?_
  -- region 1 law.go:14
  refine wp_region_lit ?_
  refine st_y S rfl rfl rfl (y_build (ps := [(0, (Operand.const (Value.int IntKind.i64 4))), (1, (Operand.const (Value.int IntKind.i64 1))), (2, (Operand.const (Value.int IntKind.i64 1)))]) (pl := [(0, 1), (1, 1), (2, 1)]) (z := [.int .i64 0, .int .i64 0, .int .i64 0]) (cs := [_, _, _]) S (by kernel_rfl) rfl (rfl)) ?_; clear S a; intro a S
  refine st_store (sz := 3) (us := [_, _, _]) S M 0 rfl (by kernel_rfl) rfl rfl rfl rfl rfl rfl (by first | decide | (simp; done) | (simp; omega)) ?_; clear M; intro w2 M
  simp only [putL, List.set_cons_zero, List.set_cons_succ, Nat.reduceAdd] at M
  refine wpList_nil ?_
  replace S := S.sub [(0, _)] rfl
  refine then_normal ?_
  refine wp_ret ?_
  refine end_one S rfl (res_agg (cs := [_, _, _]) (by kernel_rfl) rfl rfl (M.cellsAt (k := 3) 0 rfl rfl)) ?_
  exact ⟨rfl, M.below⟩
def didM (n e : Int) (b : UInt8) : Msg := ⟨3, 1, 0, 1, 0, nm25, n, 0, 0, if e = 0 then ⟨b, 0, 0, 0, 0, 0, 0, 0⟩ else ⟨0, 0, 0, 0, 0, 0, 0, 0⟩, e, false, 0, 0⟩
theorem did_any (n e : Int) (b : UInt8) (w : World) : Calls Try.prog 15 #[.int .i64 n, .int .i64 e, .int .u8 (b.toNat : Int)] w fun r w' => r = .returned (.agg ((didM n e b).cells (.slice none 0 0))) ∧ Below w.heap.size w w' := by
  have M := Mem.start w
  refine calls_enter Try.func15 rfl 18 rfl rfl ?_; intro a S
  refine wp_seq ?_
  -- region 0 law.go:17
  refine wp_region_lit ?_
  refine st_alloc S M rfl rfl #[.int .i8 0, .int .i64 0, .int .i64 0, .int .i64 0, .int .i64 0, .int .i64 0, .int .i64 0, .int .i64 0, .int .i64 0, .int .i8 0, .int .i64 0, .int .u8 0, .int .u8 0, .int .u8 0, .int .u8 0, .int .u8 0, .int .u8 0, .int .u8 0, .int .u8 0, .int .i64 0, .bool false, .int .i64 0, .int .i64 0, .slice none 0 0] (by kernel_rfl) ?_; clear S M a; intro a w1 b1 S M hB
  refine wpList_nil ?_
  replace S := S.sub [(0, _), (1, _), (2, _), (6, _)] rfl
  refine then_normal ?_
  refine wp_seq ?_
  -- region 1 law.go:18
  refine wp_region_lit ?_
  refine st_call (xs := []) S (enters_of Try.func14 (by decide) rfl) rfl rfl rfl (name25_any _) ?_
  rintro _ w2 ⟨rfl, hK⟩; refine ⟨_, rfl, ?_⟩; clear S a; intro a S; replace M := M.grow hK
  refine st_y S rfl rfl rfl (y_move S rfl) ?_; clear S a; intro a S
  refine st_y S rfl rfl rfl (y_move S rfl) ?_; clear S a; intro a S
  refine st_y S rfl rfl rfl (y_build (ps := [(0, (Operand.const (Value.int IntKind.i8 3))), (1, (Operand.const (Value.int IntKind.i64 1))), (3, (Operand.const (Value.int IntKind.i64 1))), (5, (Operand.tmp 8)), (6, (Operand.tmp 9)), (10, (Operand.tmp 10))]) (pl := [(0, 1), (1, 1), (2, 1), (3, 1), (4, 1), (5, 3), (8, 1), (9, 1), (10, 1), (11, 8), (19, 1), (20, 1), (21, 1), (22, 1), (23, 1)]) (z := [.int .i8 0, .int .i64 0, .int .i64 0, .int .i64 0, .int .i64 0, .int .i64 0, .int .i64 0, .int .i64 0, .int .i64 0, .int .i8 0, .int .i64 0, .int .u8 0, .int .u8 0, .int .u8 0, .int .u8 0, .int .u8 0, .int .u8 0, .int .u8 0, .int .u8 0, .int .i64 0, .bool false, .int .i64 0, .int .i64 0, .slice none 0 0]) (cs := [_, _, _, _, _, _, _, _, _, _, _, _, _, _, _, _, _, _, _, _, _, _, _, _]) S (by kernel_rfl) rfl (rfl)) ?_; clear S a; intro a S
  refine st_alloc S M rfl rfl #[.int .i8 0, .int .i64 0, .int .i64 0, .int .i64 0, .int .i64 0, .int .i64 0, .int .i64 0, .int .i64 0, .int .i64 0, .int .i8 0, .int .i64 0, .int .u8 0, .int .u8 0, .int .u8 0, .int .u8 0, .int .u8 0, .int .u8 0, .int .u8 0, .int .u8 0, .int .i64 0, .bool false, .int .i64 0, .int .i64 0, .slice none 0 0] (by kernel_rfl) ?_; clear S M a; intro a w3 b2 S M hB
  refine st_store (sz := 24) (us := [_, _, _, _, _, _, _, _, _, _, _, _, _, _, _, _, _, _, _, _, _, _, _, _]) S M 0 rfl (by kernel_rfl) rfl rfl rfl rfl rfl rfl (by first | decide | (simp; done) | (simp; omega)) ?_; clear M; intro w4 M
  simp only [putL, List.set_cons_zero, List.set_cons_succ, Nat.reduceAdd] at M
  refine wpList_nil ?_
  replace S := S.sub [(0, _), (1, _), (2, _), (6, _), (7, _)] rfl
  refine then_normal ?_
  refine wp_seq ?_
  refine wp_seq ?_
  -- region 2 law.go:19
  refine wp_region_lit ?_
  refine st_y S rfl rfl rfl (y_move S rfl) ?_; clear S a; intro a S
  refine st_y S rfl rfl rfl (y_int S rfl rfl rfl) ?_; clear S a; intro a S
  refine wpList_nil ?_
  replace S := S.sub [(0, _), (1, _), (2, _), (6, _), (7, _), (13, _)] rfl
  refine then_normal ?_
  refine st_split (t := 13) S rfl ?_ ?_
  · clear S; intro h13 S
    first | replace h13 := nrmA h13 | replace h13 := nrmB h13 | skip
    first | replace h13 := nrm1 h13 | replace h13 := nrm2 h13 | replace h13 := nrm3 h13 | replace h13 := nrm4 h13 | replace h13 := nrm5 h13 | replace h13 := nrm6 h13 | replace h13 := of_decide_eq_true h13 | replace h13 := of_decide_eq_false h13 | skip
    refine st_condT S rfl ?_
    -- region 3 law.go:20
    refine wp_region_lit ?_
    refine st_y S rfl rfl rfl (y_move S rfl) ?_; clear S a; intro a S
    refine st_y S rfl rfl rfl (y_buildA (ps := [(0, (Operand.tmp 14))]) (sz := 1) (z := [.int .u8 0, .int .u8 0, .int .u8 0, .int .u8 0, .int .u8 0, .int .u8 0, .int .u8 0, .int .u8 0]) (cs := [_, _, _, _, _, _, _, _]) S (by kernel_rfl) rfl rfl) ?_; clear S a; intro a S
    refine st_y S rfl rfl rfl (y_fieldAddr (k := 11) S (by kernel_rfl) rfl) ?_; clear S a; intro a S
    refine st_store (sz := 8) (us := [_, _, _, _, _, _, _, _]) S M 0 rfl (by kernel_rfl) rfl rfl rfl rfl rfl rfl (by first | decide | (simp; done) | (simp; omega)) ?_; clear M; intro w5 M
    simp only [putL, List.set_cons_zero, List.set_cons_succ, Nat.reduceAdd] at M
    refine wpList_nil ?_
    replace S := S.sub [(0, _), (1, _), (2, _), (6, _), (7, _), (13, _)] rfl
    refine then_normal ?_
    refine wp_seq ?_
    -- region 4 law.go:22
    refine wp_region_lit ?_
    refine st_y S rfl rfl rfl (y_loadAgg (cs := [_, _, _, _, _, _, _, _, _, _, _, _, _, _, _, _, _, _, _, _, _, _, _, _]) S (by kernel_rfl) rfl rfl (M.cellsAt (k := 24) 0 rfl rfl)) ?_; clear S a; intro a S
    refine st_store (sz := 24) (us := [_, _, _, _, _, _, _, _, _, _, _, _, _, _, _, _, _, _, _, _, _, _, _, _]) S M 1 rfl (by kernel_rfl) rfl rfl rfl rfl rfl rfl (by first | decide | (simp; done) | (simp; omega)) ?_; clear M; intro w6 M
    simp only [putL, List.set_cons_zero, List.set_cons_succ, Nat.reduceAdd] at M
    refine wpList_nil ?_
    replace S := S.sub [(0, _), (1, _), (2, _), (6, _), (7, _), (13, _)] rfl
    refine then_normal ?_
    refine wp_ret ?_
    refine end_one S rfl (res_agg (cs := [_, _, _, _, _, _, _, _, _, _, _, _, _, _, _, _, _, _, _, _, _, _, _, _]) (by kernel_rfl) rfl rfl (M.cellsAt (k := 24) 1 rfl rfl)) ?_
    refine ⟨?_, M.below⟩; unfold didM
    first
      | (rw [if_pos (by assumption)]; rfl)
      | (rw [if_neg (by assumption)]; rfl)
  · clear S; intro h13 S
    first | replace h13 := nrmA h13 | replace h13 := nrmB h13 | skip
    first | replace h13 := nrm1 h13 | replace h13 := nrm2 h13 | replace h13 := nrm3 h13 | replace h13 := nrm4 h13 | replace h13 := nrm5 h13 | replace h13 := nrm6 h13 | replace h13 := of_decide_eq_true h13 | replace h13 := of_decide_eq_false h13 | skip
    refine st_condF S rfl ?_
    refine wp_skip ?_
    refine then_normal ?_
    refine wp_seq ?_
    -- region 4 law.go:22
    refine wp_region_lit ?_
    refine st_y S rfl rfl rfl (y_loadAgg (cs := [_, _, _, _, _, _, _, _, _, _, _, _, _, _, _, _, _, _, _, _, _, _, _, _]) S (by kernel_rfl) rfl rfl (M.cellsAt (k := 24) 0 rfl rfl)) ?_; clear S a; intro a S
    refine st_store (sz := 24) (us := [_, _, _, _, _, _, _, _, _, _, _, _, _, _, _, _, _, _, _, _, _, _, _, _]) S M 1 rfl (by kernel_rfl) rfl rfl rfl rfl rfl rfl (by first | decide | (simp; done) | (simp; omega)) ?_; clear M; intro w7 M
    simp only [putL, List.set_cons_zero, List.set_cons_succ, Nat.reduceAdd] at M
    refine wpList_nil ?_
    replace S := S.sub [(0, _), (1, _), (2, _), (6, _), (7, _), (13, _)] rfl
    refine then_normal ?_
    refine wp_ret ?_
    refine end_one S rfl (res_agg (cs := [_, _, _, _, _, _, _, _, _, _, _, _, _, _, _, _, _, _, _, _, _, _, _, _]) (by kernel_rfl) rfl rfl (M.cellsAt (k := 24) 1 rfl rfl)) ?_
    refine ⟨?_, M.below⟩; unfold didM
    first
      | (rw [if_pos (by assumption)]; rfl)
      | (rw [if_neg (by assumption)]; rfl)

theorem ok_len {m : Mv} {x : List V8} (h : m.ok x = true) : x.length ≤ 4 := by
  unfold Mv.ok at h
  split at h
  · rw [Mv.same_iff] at h; rw [h.2]; simp
  · split at h
    · simp only [Bool.and_eq_true, decide_eq_true_eq] at h; omega
    · split at h
      · simp only [Bool.and_eq_true, decide_eq_true_eq] at h; omega
      · cases h
theorem ok_way {m : Mv} {x : List V8} (h : m.ok x = true) (hp : m.phase ≠ 0) : (0 ≤ m.cs ∧ m.cs < 8) ∧ (1 ≤ m.n ∧ m.n ≤ 4) := by
  unfold Mv.ok at h
  rw [if_neg hp] at h
  unfold wayB at h
  split at h
  · simp only [Bool.and_eq_true, decide_eq_true_eq] at h; omega
  · split at h
    · simp only [Bool.and_eq_true, decide_eq_true_eq] at h; omega
    · cases h
theorem chk_ok {m : Mv} {x : List V8} (h : m.ok x = true) : m.chk x = 0 := by unfold Mv.chk; rw [if_pos h]
theorem chk_no {m : Mv} {x : List V8} (h : m.ok x = false) : m.chk x = 2 := by unfold Mv.chk; rw [h]; rfl

/-- messages without writes, as cells -/
def msC (l : List Msg) : List Value := l.flatMap fun m => (m.cells (.slice none 0 0)).toList
def askM (m : Mv) : List Msg := if m.phase = 1 then [execM m] else []

theorem tickNo_any (m : Mv) (va : Option Addr) (vn vc : Nat) (x : List V8) (w : World) (hv : Vs 0 w.heap.size w (.slice va vn vc) x) (hb : m.ok x = false) :
    Calls Try.prog 8 #[.agg (m.cells (.slice va vn vc))] w fun e w' => e = .returned (.tuple #[.agg (Mv.zero.cells (.slice none 0 0)), .slice none 0 0, .int .i64 2]) ∧ Below w.heap.size w w' := by
  have M := Mem.start w
  refine calls_enter Try.func8 rfl 22 rfl rfl ?_; intro a S
  refine wp_seq ?_
  -- region 0 move.go:104
  refine wp_region_lit ?_
  refine st_box S M rfl rfl rfl #[_, _, _, _, _, _, _, _, _] rfl ?_; clear S M a; intro a w1 bA S M hB
  refine st_alloc S M rfl rfl #[.int .i8 0, .int .i64 0, .int .i64 0, .int .i64 0, .int .i64 0, .int .i64 0, .int .i64 0, .int .i64 0, .slice none 0 0] (by kernel_rfl) ?_; clear S M a; intro a w2 bO S M hB
  refine st_y S rfl rfl rfl (y_assign S rfl) ?_; clear S a; intro a S
  refine st_y S rfl rfl rfl (y_assign S rfl) ?_; clear S a; intro a S
  refine wpList_nil ?_
  replace S := S.sub [(0, _), (1, _), (2, _), (3, _), (4, _)] rfl
  refine then_normal ?_
  refine wp_seq ?_
  refine wp_seq ?_
  -- region 1 move.go:105
  refine wp_region_lit ?_
  refine st_y S rfl rfl rfl (y_loadAgg (cs := [_, _, _, _, _, _, _, _, _]) S (by kernel_rfl) rfl rfl (M.cellsAt (k := 9) 1 rfl rfl)) ?_; clear S a; intro a S
  refine st_call (xs := [(Operand.tmp 6)]) S (enters_of Try.func11 (by decide) rfl) rfl rfl rfl (check_any m va vn vc x _ (M.argW hv)) ?_
  rintro _ w3 ⟨rfl, hK⟩; refine ⟨_, rfl, ?_⟩; clear S a; intro a S; replace M := M.grow hK
  rw [chk_no hb] at S
  refine st_y S rfl rfl rfl (y_assign S rfl) ?_; clear S a; intro a S
  refine wpList_nil ?_
  replace S := S.sub [(0, _), (1, _), (2, _), (3, _), (4, _), (5, _)] rfl
  refine then_normal ?_
  refine wp_seq ?_
  -- region 2 move.go:105
  refine wp_region_lit ?_
  refine st_y S rfl rfl rfl (y_move S rfl) ?_; clear S a; intro a S
  refine st_y S rfl rfl rfl (y_int S rfl rfl rfl) ?_; clear S a; intro a S
  refine wpList_nil ?_
  replace S := S.sub [(0, _), (1, _), (2, _), (3, _), (4, _), (5, _), (9, _)] rfl
  refine then_normal ?_
  refine st_split (t := 9) S rfl ?_ ?_
  · clear S; intro h9 S
    first | replace h9 := nrmA h9 | replace h9 := nrmB h9 | skip
    first | replace h9 := nrm1 h9 | replace h9 := nrm2 h9 | replace h9 := nrm3 h9 | replace h9 := nrm4 h9 | replace h9 := nrm5 h9 | replace h9 := nrm6 h9 | replace h9 := of_decide_eq_true h9 | replace h9 := of_decide_eq_false h9 | skip
    refine st_condT S rfl ?_
    refine wp_seq ?_
    -- region 3 move.go:106
    refine wp_region_lit ?_
    refine st_y S rfl rfl rfl (y_build (ps := []) (pl := [(0, 1), (1, 3), (4, 2), (6, 1), (7, 1), (8, 1)]) (z := [.int .i8 0, .int .i64 0, .int .i64 0, .int .i64 0, .int .i64 0, .int .i64 0, .int .i64 0, .int .i64 0, .slice none 0 0]) (cs := [_, _, _, _, _, _, _, _, _]) S (by kernel_rfl) rfl (rfl)) ?_; clear S a; intro a S
    refine st_y S rfl rfl rfl (y_move S rfl) ?_; clear S a; intro a S
    refine st_store (sz := 9) (us := [_, _, _, _, _, _, _, _, _]) S M 0 rfl (by kernel_rfl) rfl rfl rfl rfl rfl rfl (by first | decide | (simp; done) | (simp; omega)) ?_; clear M; intro w4 M
    simp only [putL, List.set_cons_zero, List.set_cons_succ, Nat.reduceAdd] at M
    refine st_y S rfl rfl rfl (y_assign S rfl) ?_; clear S a; intro a S
    refine st_y S rfl rfl rfl (y_assign S rfl) ?_; clear S a; intro a S
    refine wpList_nil ?_
    replace S := S.sub [(0, _), (1, _), (2, _), (5, _), (9, _), (3, _), (4, _)] rfl
    refine then_normal ?_
    refine wp_ret ?_
    refine then_ret ?_
    refine end_three S rfl (res_agg (cs := [_, _, _, _, _, _, _, _, _]) (by kernel_rfl) rfl rfl (M.cellsAt (k := 9) 0 rfl rfl)) (res_tmp rfl) (res_tmp rfl) ?_
    exact ⟨rfl, M.below⟩
  · clear S; intro h9 S
    first | replace h9 := nrmA h9 | replace h9 := nrmB h9 | skip
    first | replace h9 := nrm1 h9 | replace h9 := nrm2 h9 | replace h9 := nrm3 h9 | replace h9 := nrm4 h9 | replace h9 := nrm5 h9 | replace h9 := nrm6 h9 | replace h9 := of_decide_eq_true h9 | replace h9 := of_decide_eq_false h9 | skip
    simp at h9
theorem tick_any (m : Mv) (va : Option Addr) (vn vc : Nat) (x : List V8) (w : World) (hv : Vs 0 w.heap.size w (.slice va vn vc) x) (ho : m.ok x = true) :
    Calls Try.prog 8 #[.agg (m.cells (.slice va vn vc))] w fun e w' => ∃ ad cp lv l1 h1 l2 h2, e = .returned (.tuple #[.agg (m.cells (.slice ad x.length cp)), lv, .int .i64 0]) ∧ Mem w w' [rowE l1 h1 39 24 lv (askM m).length (msC (askM m)), rowE l2 h2 36 8 (.slice ad x.length cp) x.length (vcells x)] := by
  have M := Mem.start w
  have hl := ok_len ho
  refine calls_enter Try.func8 rfl 22 rfl rfl ?_; intro a S
  refine wp_seq ?_
  -- region 0 move.go:104
  refine wp_region_lit ?_
  refine st_box S M rfl rfl rfl #[_, _, _, _, _, _, _, _, _] rfl ?_; clear S M a; intro a w1 bA S M hB
  refine st_alloc S M rfl rfl #[.int .i8 0, .int .i64 0, .int .i64 0, .int .i64 0, .int .i64 0, .int .i64 0, .int .i64 0, .int .i64 0, .slice none 0 0] (by kernel_rfl) ?_; clear S M a; intro a w2 bO S M hB
  refine st_y S rfl rfl rfl (y_assign S rfl) ?_; clear S a; intro a S
  refine st_y S rfl rfl rfl (y_assign S rfl) ?_; clear S a; intro a S
  refine wpList_nil ?_
  replace S := S.sub [(0, _), (1, _), (2, _), (3, _), (4, _)] rfl
  refine then_normal ?_
  refine wp_seq ?_
  refine wp_seq ?_
  -- region 1 move.go:105
  refine wp_region_lit ?_
  refine st_y S rfl rfl rfl (y_loadAgg (cs := [_, _, _, _, _, _, _, _, _]) S (by kernel_rfl) rfl rfl (M.cellsAt (k := 9) 1 rfl rfl)) ?_; clear S a; intro a S
  refine st_call (xs := [(Operand.tmp 6)]) S (enters_of Try.func11 (by decide) rfl) rfl rfl rfl (check_any m va vn vc x _ (M.argW hv)) ?_
  rintro _ w3 ⟨rfl, hK⟩; refine ⟨_, rfl, ?_⟩; clear S a; intro a S; replace M := M.grow hK
  rw [chk_ok ho] at S
  refine st_y S rfl rfl rfl (y_assign S rfl) ?_; clear S a; intro a S
  refine wpList_nil ?_
  replace S := S.sub [(0, _), (1, _), (2, _), (3, _), (4, _), (5, _)] rfl
  refine then_normal ?_
  refine wp_seq ?_
  -- region 2 move.go:105
  refine wp_region_lit ?_
  refine st_y S rfl rfl rfl (y_move S rfl) ?_; clear S a; intro a S
  refine st_y S rfl rfl rfl (y_int S rfl rfl rfl) ?_; clear S a; intro a S
  refine wpList_nil ?_
  replace S := S.sub [(0, _), (1, _), (2, _), (3, _), (4, _), (5, _), (9, _)] rfl
  refine then_normal ?_
  refine st_split (t := 9) S rfl ?_ ?_
  · clear S; intro h9 S
    first | replace h9 := nrmA h9 | replace h9 := nrmB h9 | skip
    first | replace h9 := nrm1 h9 | replace h9 := nrm2 h9 | replace h9 := nrm3 h9 | replace h9 := nrm4 h9 | replace h9 := nrm5 h9 | replace h9 := nrm6 h9 | replace h9 := of_decide_eq_true h9 | replace h9 := of_decide_eq_false h9 | skip
    simp at h9
  · clear S; intro h9 S
    first | replace h9 := nrmA h9 | replace h9 := nrmB h9 | skip
    first | replace h9 := nrm1 h9 | replace h9 := nrm2 h9 | replace h9 := nrm3 h9 | replace h9 := nrm4 h9 | replace h9 := nrm5 h9 | replace h9 := nrm6 h9 | replace h9 := of_decide_eq_true h9 | replace h9 := of_decide_eq_false h9 | skip
    refine st_condF S rfl ?_
    refine wp_skip ?_
    refine then_normal ?_
    refine wp_seq ?_
    refine wp_seq ?_
    -- region 4 move.go:108
    refine wp_region_lit ?_
    refine st_y S rfl rfl rfl (y_fieldAddr (k := 0) S (by kernel_rfl) rfl) ?_; clear S a; intro a S
    refine st_y S rfl rfl rfl (y_load S (by kernel_rfl) rfl (M.cell 1 rfl rfl)) ?_; clear S a; intro a S
    refine st_y S rfl rfl rfl (y_int S rfl rfl rfl) ?_; clear S a; intro a S
    refine wpList_nil ?_
    replace S := S.sub [(0, _), (1, _), (2, _), (3, _), (4, _), (5, _), (9, _), (14, _)] rfl
    refine then_normal ?_
    refine st_split (t := 14) S rfl ?_ ?_
    · clear S; intro h14 S
      first | replace h14 := nrmA h14 | replace h14 := nrmB h14 | skip
      first | replace h14 := nrm1 h14 | replace h14 := nrm2 h14 | replace h14 := nrm3 h14 | replace h14 := nrm4 h14 | replace h14 := nrm5 h14 | replace h14 := nrm6 h14 | replace h14 := of_decide_eq_true h14 | replace h14 := of_decide_eq_false h14 | skip
      refine st_condT S rfl ?_
      refine wp_seq ?_
      -- region 5 move.go:109
      refine wp_region_lit ?_
      refine st_y S rfl rfl rfl (y_loadAgg (cs := [_, _, _, _, _, _, _, _, _]) S (by kernel_rfl) rfl rfl (M.cellsAt (k := 9) 1 rfl rfl)) ?_; clear S a; intro a S
      refine st_call (xs := [(Operand.tmp 15)]) S (enters_of Try.func18 (by decide) rfl) rfl rfl rfl (copied_any m va vn vc x _ (M.argW hv) (by omega)) ?_
      rintro _ w4 ⟨ad, cp, rfl, hF⟩; refine ⟨_, rfl, ?_⟩; clear S a; intro a S
      have hK := hF.below
      obtain ⟨lo, hi, -, M⟩ := M.pushFresh hF
      refine st_store (sz := 9) (us := [_, _, _, _, _, _, _, _, _]) S M 1 rfl (by kernel_rfl) rfl rfl rfl rfl rfl rfl (by first | decide | (simp; done) | (simp; omega)) ?_; clear M; intro w5 M
      simp only [putL, List.set_cons_zero, List.set_cons_succ, Nat.reduceAdd] at M
      refine st_y S rfl rfl rfl (y_assign S rfl) ?_; clear S a; intro a S
      refine st_y S rfl rfl rfl (y_assign S rfl) ?_; clear S a; intro a S
      refine wpList_nil ?_
      replace S := S.sub [(0, _), (1, _), (2, _), (5, _), (9, _), (14, _), (3, _), (4, _)] rfl
      refine then_normal ?_
      refine wp_ret ?_
      refine then_ret ?_
      refine end_three S rfl (res_agg (cs := [_, _, _, _, _, _, _, _, _]) (by kernel_rfl) rfl rfl (M.cellsAt (k := 9) 1 rfl rfl)) (res_tmp rfl) (res_tmp rfl) ?_
      replace M := M.rowNil 39 24
      rw [show askM m = [] by unfold askM; rw [if_neg (by assumption)]]
      exact ⟨ad, cp, _, _, _, lo, hi, rfl, M.two⟩
    · clear S; intro h14 S
      first | replace h14 := nrmA h14 | replace h14 := nrmB h14 | skip
      first | replace h14 := nrm1 h14 | replace h14 := nrm2 h14 | replace h14 := nrm3 h14 | replace h14 := nrm4 h14 | replace h14 := nrm5 h14 | replace h14 := nrm6 h14 | replace h14 := of_decide_eq_true h14 | replace h14 := of_decide_eq_false h14 | skip
      refine st_condF S rfl ?_
      refine wp_skip ?_
      refine then_normal ?_
      refine wp_seq ?_
      -- region 6 move.go:111
      refine wp_regionK [5] #[false, false, false, false, false, false, false, false] rfl M (by kernel_rfl) ?_; clear M; intro w6 M
      refine k_read (listed' := #[true, false, false, false, false, false, false, false]) 0 S rfl rfl rfl rfl (by kernel_rfl) rfl (fun _ d _ _ _ h => by cases d <;> exact h) (fun w hW => have M := M.grow hW; y_loadAgg (cs := [_, _, _, _, _, _, _, _, _]) S (by kernel_rfl) rfl rfl (M.cellsAt (k := 9) 1 rfl rfl)) ?_; clear S a; intro a S
      refine k_read (listed' := #[true, false, true, false, false, false, false, false]) 2 S rfl rfl rfl rfl (by kernel_rfl) rfl (fun _ d _ _ _ h => by cases d <;> exact h) (fun w hW => have M := M.grow hW; y_loadAgg (cs := [_, _, _, _, _, _, _, _, _]) S (by kernel_rfl) rfl rfl (M.cellsAt (k := 9) 1 rfl rfl)) ?_; clear S a; intro a S
      refine k_one (listed' := #[true, true, true, false, false, false, false, false]) 1 rfl (by kernel_rfl) rfl ?_
      refine st_call (xs := [(Operand.tmp 17)]) S (enters_of Try.func18 (by decide) rfl) rfl rfl rfl (copied_any m va vn vc x _ (M.argW hv) (by omega)) ?_
      rintro _ w7 ⟨ad, cp, rfl, hF⟩; refine ⟨_, rfl, ?_⟩; clear S a; intro a S
      have hK := hF.below
      obtain ⟨lo, hi, -, M⟩ := M.pushFresh hF
      refine wpList_nil ?_; refine then_normal ?_; refine ⟨fun _ => hK, ?_⟩
      refine k_one (listed' := #[true, true, true, true, false, false, false, false]) 3 rfl (by kernel_rfl) rfl ?_
      refine st_call (xs := [(Operand.tmp 19)]) S (enters_of Try.func17 (by decide) rfl) rfl rfl rfl (exec_any m va vn vc _ (ok_way ho (by omega))) ?_
      rintro _ w8 ⟨rfl, hK⟩; refine ⟨_, rfl, ?_⟩; clear S a; intro a S; replace M := M.grow hK
      refine wpList_nil ?_; refine then_normal ?_; refine ⟨fun _ => hK, ?_⟩
      refine k_two (l1 := #[true, true, true, true, true, false, false, false]) (l2 := #[true, true, true, true, false, true, false, false]) 4 5 rfl rfl (by kernel_rfl) rfl rfl ?_ ?_
      · skip
        refine st_lit (ps := [(0, (Operand.tmp 20))]) (e := 39) (sz := 24) (zl := [.int .i8 0, .int .i64 0, .int .i64 0, .int .i64 0, .int .i64 0, .int .i64 0, .int .i64 0, .int .i64 0, .int .i64 0, .int .i8 0, .int .i64 0, .int .u8 0, .int .u8 0, .int .u8 0, .int .u8 0, .int .u8 0, .int .u8 0, .int .u8 0, .int .u8 0, .int .i64 0, .bool false, .int .i64 0, .int .i64 0, .slice none 0 0]) (cs := ((execM m).cells (.slice none 0 0)).toList) S M rfl rfl (by kernel_rfl) rfl (by kernel_rfl) ?_; clear S M a; intro a w9 bL S M hB
        refine wpList_nil ?_; refine then_normal ?_; refine ⟨fun _ => hB, ?_⟩
        refine k_one (listed' := #[true, true, true, true, true, true, false, false]) 5 rfl (by kernel_rfl) rfl ?_
        refine st_store (sz := 9) (us := [_, _, _, _, _, _, _, _, _]) S M 2 rfl (by kernel_rfl) rfl rfl rfl rfl rfl rfl (by first | decide | (simp; done) | (simp; omega)) ?_; clear M; intro w10 M
        simp only [putL, List.set_cons_zero, List.set_cons_succ, Nat.reduceAdd] at M
        refine wpList_nil ?_; refine then_normal ?_; refine ⟨fun h => absurd h (by decide), ?_⟩
        refine k_pure (listed' := #[true, true, true, true, true, true, true, false]) 6 S rfl rfl rfl rfl (by kernel_rfl) rfl (fun _ d _ _ _ h => by cases d <;> exact h) (fun w => y_assign S rfl) ?_; clear S a; intro a S
        refine k_pure (listed' := #[true, true, true, true, true, true, true, true]) 7 S rfl rfl rfl rfl (by kernel_rfl) rfl (fun _ d _ _ _ h => by cases d <;> exact h) (fun w => y_assign S rfl) ?_; clear S a; intro a S
        refine k_end (by kernel_rfl) ?_
        replace S := S.sub [(0, _), (1, _), (2, _), (5, _), (9, _), (14, _), (3, _), (4, _)] rfl
        refine then_normal ?_
        refine wp_ret ?_
        refine end_three S rfl (res_agg (cs := [_, _, _, _, _, _, _, _, _]) (by kernel_rfl) rfl rfl (M.cellsAt (k := 9) 2 rfl rfl)) (res_tmp rfl) (res_tmp rfl) ?_
        replace M := M.front 1 rfl
        simp only [List.eraseIdx_cons_succ, List.eraseIdx_cons_zero] at M
        replace M := M.toRow (m := 1) (cap := 1) (sz := 24) (xs := msC [execM m]) 1 rfl rfl (Nat.le_refl _) (by unfold maxLen; omega) rfl rfl
        rw [show askM m = [execM m] by unfold askM; rw [if_pos (by assumption)]]
        exact ⟨ad, cp, _, _, _, lo, hi, rfl, M.two⟩
      · skip
        refine st_store (sz := 9) (us := [_, _, _, _, _, _, _, _, _]) S M 1 rfl (by kernel_rfl) rfl rfl rfl rfl rfl rfl (by first | decide | (simp; done) | (simp; omega)) ?_; clear M; intro w11 M
        simp only [putL, List.set_cons_zero, List.set_cons_succ, Nat.reduceAdd] at M
        refine wpList_nil ?_; refine then_normal ?_; refine ⟨fun h => absurd h (by decide), ?_⟩
        refine k_one (listed' := #[true, true, true, true, true, true, false, false]) 4 rfl (by kernel_rfl) rfl ?_
        refine st_lit (ps := [(0, (Operand.tmp 20))]) (e := 39) (sz := 24) (zl := [.int .i8 0, .int .i64 0, .int .i64 0, .int .i64 0, .int .i64 0, .int .i64 0, .int .i64 0, .int .i64 0, .int .i64 0, .int .i8 0, .int .i64 0, .int .u8 0, .int .u8 0, .int .u8 0, .int .u8 0, .int .u8 0, .int .u8 0, .int .u8 0, .int .u8 0, .int .i64 0, .bool false, .int .i64 0, .int .i64 0, .slice none 0 0]) (cs := ((execM m).cells (.slice none 0 0)).toList) S M rfl rfl (by kernel_rfl) rfl (by kernel_rfl) ?_; clear S M a; intro a w12 bL S M hB
        refine wpList_nil ?_; refine then_normal ?_; refine ⟨fun _ => hB, ?_⟩
        refine k_pure (listed' := #[true, true, true, true, true, true, true, false]) 6 S rfl rfl rfl rfl (by kernel_rfl) rfl (fun _ d _ _ _ h => by cases d <;> exact h) (fun w => y_assign S rfl) ?_; clear S a; intro a S
        refine k_pure (listed' := #[true, true, true, true, true, true, true, true]) 7 S rfl rfl rfl rfl (by kernel_rfl) rfl (fun _ d _ _ _ h => by cases d <;> exact h) (fun w => y_assign S rfl) ?_; clear S a; intro a S
        refine k_end (by kernel_rfl) ?_
        replace S := S.sub [(0, _), (1, _), (2, _), (5, _), (9, _), (14, _), (3, _), (4, _)] rfl
        refine then_normal ?_
        refine wp_ret ?_
        refine end_three S rfl (res_agg (cs := [_, _, _, _, _, _, _, _, _]) (by kernel_rfl) rfl rfl (M.cellsAt (k := 9) 2 rfl rfl)) (res_tmp rfl) (res_tmp rfl) ?_
        replace M := M.front 1 rfl
        simp only [List.eraseIdx_cons_succ, List.eraseIdx_cons_zero] at M
        replace M := M.toRow (m := 1) (cap := 1) (sz := 24) (xs := msC [execM m]) 1 rfl rfl (Nat.le_refl _) (by unfold maxLen; omega) rfl rfl
        rw [show askM m = [execM m] by unfold askM; rw [if_pos (by assumption)]]
        exact ⟨ad, cp, _, _, _, lo, hi, rfl, M.two⟩

theorem wcellsA (x y : List Wr) : wcells (x ++ y) = wcells x ++ wcells y := by simp [wcells]
def wrsF (c : Int) : Nat → List V8 → List Wr
  | _, [] => []
  | i, v :: l => ⟨c * 4 + (i : Int), v⟩ :: wrsF c (i + 1) l
theorem wrsF_len (c : Int) : ∀ (i : Nat) (l : List V8), (wrsF c i l).length = l.length
  | _, [] => rfl
  | i, v :: l => by simp [wrsF, wrsF_len c (i + 1) l]
theorem wrsF_snoc (c : Int) : ∀ (i : Nat) (l : List V8) (v : V8), wrsF c i (l ++ [v]) = wrsF c i l ++ [⟨c * 4 + ((i + l.length : Nat) : Int), v⟩]
  | _, [], _ => by simp [wrsF]
  | i, u :: l, v => by
    have e : i + 1 + l.length = i + (u :: l).length := by simp; omega
    simp only [List.cons_append, wrsF, wrsF_snoc c (i + 1) l v, e]
noncomputable def wrM (m : Mv) (x : List V8) : List Wr := if m.phase = 2 ∧ m.ok x = true then wrsF m.cs 0 x else []
theorem writesM_any (m : Mv) (va : Option Addr) (vn vc : Nat) (x : List V8) (w : World) (hv : Vs 0 w.heap.size w (.slice va vn vc) x) :
    Calls Try.prog 12 #[.agg (m.cells (.slice va vn vc))] w fun e w' => ∃ v', e = .returned v' ∧ Fresh w w' 48 9 v' (wrM m x).length (wcells (wrM m x)) := by
  have M := Mem.start w
  have hvn : vn = x.length := by obtain ⟨ad, cp, e, -, -⟩ := hv.form; cases e; rfl
  have hl := hv.2.1
  unfold maxLen at hl
  refine calls_enter Try.func12 rfl 39 rfl rfl ?_; intro a S
  refine wp_seq ?_
  -- region 0 move.go:123
  refine wp_region_lit ?_
  refine st_box S M rfl rfl rfl #[_, _, _, _, _, _, _, _, _] rfl ?_; clear S M a; intro a w1 bA S M hB
  refine st_y S rfl rfl rfl (y_assign S rfl) ?_; clear S a; intro a S
  refine wpList_nil ?_
  replace S := S.sub [(0, _), (1, _), (2, _)] rfl
  refine then_normal ?_
  refine wp_seq ?_
  refine wp_seq ?_
  -- region 1 move.go:124
  refine wp_region_lit ?_
  refine st_y S rfl rfl rfl (y_fieldAddr (k := 0) S (by kernel_rfl) rfl) ?_; clear S a; intro a S
  refine st_y S rfl rfl rfl (y_load S (by kernel_rfl) rfl (M.cell 0 rfl rfl)) ?_; clear S a; intro a S
  refine st_y S rfl rfl rfl (y_int S rfl rfl rfl) ?_; clear S a; intro a S
  refine st_y S rfl rfl rfl (y_move S rfl) ?_; clear S a; intro a S
  refine st_split (t := 9) S rfl ?_ ?_
  · clear S; intro h9 S
    first | replace h9 := nrmA h9 | replace h9 := nrmB h9 | skip
    first | replace h9 := nrm1 h9 | replace h9 := nrm2 h9 | replace h9 := nrm3 h9 | replace h9 := nrm4 h9 | replace h9 := nrm5 h9 | replace h9 := nrm6 h9 | replace h9 := of_decide_eq_true h9 | replace h9 := of_decide_eq_false h9 | skip
    refine st_skip 3 S rfl ?_; clear S a; intro a S
    refine st_y S rfl rfl rfl (y_pickT S rfl rfl) ?_; clear S a; intro a S
    refine wpList_nil ?_
    replace S := S.sub [(0, _), (1, _), (2, _), (13, _)] rfl
    refine then_normal ?_
    refine st_condT S rfl ?_
    refine wp_seq ?_
    -- region 2 move.go:125
    refine wp_region_lit ?_
    refine st_y S rfl rfl rfl (y_assign S rfl) ?_; clear S a; intro a S
    refine wpList_nil ?_
    replace S := S.sub [(0, _), (1, _), (13, _), (2, _)] rfl
    refine then_normal ?_
    refine wp_ret ?_
    refine then_ret ?_
    refine end_one S rfl (res_tmp rfl) ?_
    rw [show wrM m x = [] by
      unfold wrM
      rw [if_neg]
      rintro ⟨q1, q2⟩
      first
        | omega
        | (rw [chk_ok q2] at h13; omega)]
    exact ⟨_, rfl, M.freshNil _ _⟩
  · clear S; intro h9 S
    first | replace h9 := nrmA h9 | replace h9 := nrmB h9 | skip
    first | replace h9 := nrm1 h9 | replace h9 := nrm2 h9 | replace h9 := nrm3 h9 | replace h9 := nrm4 h9 | replace h9 := nrm5 h9 | replace h9 := nrm6 h9 | replace h9 := of_decide_eq_true h9 | replace h9 := of_decide_eq_false h9 | skip
    refine st_y S rfl rfl rfl (y_loadAgg (cs := [_, _, _, _, _, _, _, _, _]) S (by kernel_rfl) rfl rfl (M.cellsAt (k := 9) 0 rfl rfl)) ?_; clear S a; intro a S
    refine st_call (xs := [(Operand.tmp 10)]) S (enters_of Try.func11 (by decide) rfl) rfl rfl rfl (check_any m va vn vc x _ (M.argW hv)) ?_
    rintro _ w2 ⟨rfl, hK⟩; refine ⟨_, rfl, ?_⟩; clear S a; intro a S; replace M := M.grow hK
    refine st_y S rfl rfl rfl (y_int S rfl rfl rfl) ?_; clear S a; intro a S
    refine st_y S rfl rfl rfl (y_pickF S rfl rfl) ?_; clear S a; intro a S
    refine wpList_nil ?_
    replace S := S.sub [(0, _), (1, _), (2, _), (13, _)] rfl
    refine then_normal ?_
    refine st_split (t := 13) S rfl ?_ ?_
    · clear S; intro h13 S
      first | replace h13 := nrmA h13 | replace h13 := nrmB h13 | skip
      first | replace h13 := nrm1 h13 | replace h13 := nrm2 h13 | replace h13 := nrm3 h13 | replace h13 := nrm4 h13 | replace h13 := nrm5 h13 | replace h13 := nrm6 h13 | replace h13 := of_decide_eq_true h13 | replace h13 := of_decide_eq_false h13 | skip
      refine st_condT S rfl ?_
      refine wp_seq ?_
      -- region 2 move.go:125
      refine wp_region_lit ?_
      refine st_y S rfl rfl rfl (y_assign S rfl) ?_; clear S a; intro a S
      refine wpList_nil ?_
      replace S := S.sub [(0, _), (1, _), (13, _), (2, _)] rfl
      refine then_normal ?_
      refine wp_ret ?_
      refine then_ret ?_
      refine end_one S rfl (res_tmp rfl) ?_
      rw [show wrM m x = [] by
        unfold wrM
        rw [if_neg]
        rintro ⟨q1, q2⟩
        first
          | omega
          | (rw [chk_ok q2] at h13; omega)]
      exact ⟨_, rfl, M.freshNil _ _⟩
    · clear S; intro h13 S
      first | replace h13 := nrmA h13 | replace h13 := nrmB h13 | skip
      first | replace h13 := nrm1 h13 | replace h13 := nrm2 h13 | replace h13 := nrm3 h13 | replace h13 := nrm4 h13 | replace h13 := nrm5 h13 | replace h13 := nrm6 h13 | replace h13 := of_decide_eq_true h13 | replace h13 := of_decide_eq_false h13 | skip
      refine st_condF S rfl ?_
      refine wp_skip ?_
      refine then_normal ?_
      refine wp_seq ?_
      -- region 3 move.go:127
      have hp : m.phase = 2 := by omega
      have ho : m.ok x = true := by
        cases e : m.ok x with
        | true => rfl
        | false => rw [chk_no e] at h13; omega
      have hx4 := ok_len ho
      have hw := ok_way ho (by omega)
      have hwr : wrM m x = wrsF m.cs 0 x := by unfold wrM; rw [if_pos ⟨hp, ho⟩]
      refine wp_region_lit ?_
      refine st_y S rfl rfl rfl (y_fieldAddr (k := 8) S (by kernel_rfl) rfl) ?_; clear S a; intro a S
      refine st_y S rfl rfl rfl (y_load S (by kernel_rfl) rfl (M.cell 0 rfl rfl)) ?_; clear S a; intro a S
      refine st_y S rfl rfl rfl (y_lenS (E := 36) S rfl (by kernel_rfl)) ?_; clear S a; intro a S
      refine st_make (e := 48) (sz := 9) (by_ := 16) (zc := [.int .i64 0, .int .u8 0, .int .u8 0, .int .u8 0, .int .u8 0, .int .u8 0, .int .u8 0, .int .u8 0, .int .u8 0]) S M rfl rfl (by kernel_rfl) rfl rfl (by omega) (by omega) (by omega) (by omega) ?_; clear S M a; intro a w3 bL S M hB
      try simp only [Int.toNat_natCast, Int.reduceToNat, Nat.reduceMul] at S M
      refine st_y S rfl rfl rfl (y_assign S rfl) ?_; clear S a; intro a S
      refine wpList_nil ?_
      replace S := S.sub [(0, _), (1, _), (2, _), (13, _), (3, _)] rfl
      refine then_normal ?_
      refine wp_seq ?_
      refine wp_seq ?_
      -- region 4 move.go:128
      refine wp_region_lit ?_
      replace M := M.toRow (m := 0) (cap := vn) (sz := 9) (xs := []) 0 rfl rfl (Nat.zero_le _) (by unfold maxLen; omega) (by simp [madeL_length]) (by simp)
      refine st_y S rfl rfl rfl (y_fieldAddr (k := 8) S (by kernel_rfl) rfl) ?_; clear S a; intro a S
      refine st_y S rfl rfl rfl (y_load S (by kernel_rfl) rfl (M.cell 1 rfl rfl)) ?_; clear S a; intro a S
      refine st_y S rfl rfl rfl (y_lenS (E := 36) S rfl (by kernel_rfl)) ?_; clear S a; intro a S
      refine st_y S rfl rfl rfl (y_move S rfl) ?_; clear S a; intro a S
      refine wpList_nil ?_
      replace S := S.sub [(0, _), (1, _), (2, _), (13, _), (3, _), (19, _), (20, _), (21, _)] rfl
      refine then_normal ?_
      refine wp_block ?_
      refine wp_loop_g (fun q a w' => ∃ (k : Nat) (v : Value) (lo hi : Nat), k ≤ x.length ∧ q = x.length - k ∧ Sees 39 a [(1, .pointer (some ⟨bA, 0, none⟩)), (3, v), (19, .slice va vn vc), (20, .int .i64 (vn : Int)), (21, .int .i64 (k : Int))] ∧ Mem w w' [rowE lo hi 48 9 v (wrsF m.cs 0 (x.take k)).length (wcells (wrsF m.cs 0 (x.take k))), .blk bA (m.cells (.slice va vn vc)) 31]) (x.length) ?_ ?_
      · skip
        exact ⟨0, _, _, _, Nat.zero_le _, rfl, S.sub _ rfl, M⟩
      · clear S M a; intro m a wl
        rintro ⟨k, v, lo, hi, hk, rfl, S, M⟩
        have hkl : (wrsF m.cs 0 (x.take k)).length = k := by rw [wrsF_len, List.length_take]; omega
        refine wp_seq ?_
        -- region 5 move.go:128
        refine wp_region_lit ?_
        refine st_y S rfl rfl rfl (y_int S rfl rfl rfl) ?_; clear S a; intro a S
        refine wpList_nil ?_
        replace S := S.sub [(1, _), (3, _), (19, _), (20, _), (21, _), (22, _)] rfl
        refine then_normal ?_
        refine wp_seq ?_
        refine st_split (t := 22) S rfl ?_ ?_
        · clear S; intro h22 S
          first | replace h22 := nrmA h22 | replace h22 := nrmB h22 | skip
          first | replace h22 := nrm1 h22 | replace h22 := nrm2 h22 | replace h22 := nrm3 h22 | replace h22 := nrm4 h22 | replace h22 := nrm5 h22 | replace h22 := nrm6 h22 | replace h22 := of_decide_eq_true h22 | replace h22 := of_decide_eq_false h22 | skip
          refine st_condT S rfl ?_
          refine wp_skip ?_
          refine then_normal ?_
          refine wp_seq ?_
          refine wp_block ?_
          refine wp_seq ?_
          -- region 6 move.go:128
          obtain ⟨y, hy⟩ : ∃ y, x[k]? = some y := ⟨_, List.getElem?_eq_getElem (by omega)⟩
          refine wp_region_lit ?_
          refine st_y S rfl rfl rfl (y_move S rfl) ?_; clear S a; intro a S
          refine st_y S rfl rfl rfl (y_indexR (e := 36) (sz := 8) S (by kernel_rfl) rfl ((M.arg hv)) rfl (by first | omega | (simp; done) | (simp; omega))) ?_; clear S a; intro a S
          try simp only [Int.toNat_natCast, Nat.mul_one, Nat.zero_add] at S
          refine st_y S rfl rfl rfl (y_loadAgg S (by kernel_rfl) rfl rfl ((M.arg hv).at_.row (i := k) (vcells_get hy) rfl)) ?_; clear S a; intro a S
          refine st_alloc S M rfl rfl #[.int .u8 0, .int .u8 0, .int .u8 0, .int .u8 0, .int .u8 0, .int .u8 0, .int .u8 0, .int .u8 0] (by kernel_rfl) ?_; clear S M a; intro a w4 bY S M hB
          refine st_y S rfl rfl rfl (y_assign S rfl) ?_; clear S a; intro a S
          refine st_store (sz := 8) (us := [_, _, _, _, _, _, _, _]) S M 0 rfl (by kernel_rfl) rfl rfl rfl rfl rfl rfl (by first | decide | (simp; done) | (simp; omega)) ?_; clear M; intro w5 M
          simp only [putL, List.set_cons_zero, List.set_cons_succ, Nat.reduceAdd] at M
          refine wpList_nil ?_
          replace S := S.sub [(1, _), (3, _), (19, _), (20, _), (21, _), (22, _), (5, _), (4, _)] rfl
          refine then_normal ?_
          -- region 7 move.go:129
          refine wp_region_lit ?_
          refine st_y S rfl rfl rfl (y_move S rfl) ?_; clear S a; intro a S
          refine st_y S rfl rfl rfl (y_fieldAddr (k := 4) S (by kernel_rfl) rfl) ?_; clear S a; intro a S
          refine st_y S rfl rfl rfl (y_fieldAddr (k := 0) S (by kernel_rfl) rfl) ?_; clear S a; intro a S
          refine st_y S rfl rfl rfl (y_load S (by kernel_rfl) rfl (M.cell 2 rfl rfl)) ?_; clear S a; intro a S
          (first | refine st_y S rfl rfl rfl (y_mulN S rfl rfl (by omega)) ?_ | refine st_y S rfl rfl rfl (y_int S rfl rfl rfl) ?_); clear S a; intro a S
          refine st_y S rfl rfl rfl (y_move S rfl) ?_; clear S a; intro a S
          (first | refine st_y S rfl rfl rfl (y_addN S rfl rfl (by omega)) ?_ | refine st_y S rfl rfl rfl (y_int S rfl rfl rfl) ?_); clear S a; intro a S
          refine st_y S rfl rfl rfl (y_loadAgg (cs := [_, _, _, _, _, _, _, _]) S (by kernel_rfl) rfl rfl (M.cellsAt (k := 8) 0 rfl rfl)) ?_; clear S a; intro a S
          refine st_y S rfl rfl rfl (y_build (ps := [(0, (Operand.tmp 32)), (1, (Operand.tmp 33))]) (pl := [(0, 1), (1, 8)]) (z := [.int .i64 0, .int .u8 0, .int .u8 0, .int .u8 0, .int .u8 0, .int .u8 0, .int .u8 0, .int .u8 0, .int .u8 0]) (cs := [_, _, _, _, _, _, _, _, _]) S (by kernel_rfl) rfl (rfl)) ?_; clear S a; intro a S
          refine st_lit (ps := [(0, (Operand.tmp 34))]) (e := 48) (sz := 9) (zl := [.int .i64 0, .int .u8 0, .int .u8 0, .int .u8 0, .int .u8 0, .int .u8 0, .int .u8 0, .int .u8 0, .int .u8 0]) (cs := [_, _, _, _, _, _, _, _, _]) S M rfl rfl (by kernel_rfl) rfl (rfl) ?_; clear S M a; intro a w6 bZ S M hB
          refine st_append (e := 48) (sz := 9) (by_ := 16) (zc := [.int .i64 0, .int .u8 0, .int .u8 0, .int .u8 0, .int .u8 0, .int .u8 0, .int .u8 0, .int .u8 0, .int .u8 0]) S M 2 rfl rfl (by kernel_rfl) rfl (by decide) rfl rfl rfl (show Rd _ _ _ 9 _ 1 (wcells [⟨m.cs * 4 + (k : Int), y⟩]) from M.sliceAt 0 rfl (M.cellsAt (k := 9) 0 rfl rfl) rfl (Nat.le_refl _) (by unfold maxLen; omega)) (allOne_wcells _) (by omega) (by unfold maxLen; omega) ?_; clear S M a; intro a w7 vA loA hiA S M
          refine st_y S rfl rfl rfl (y_assign S rfl) ?_; clear S a; intro a S
          refine wpList_nil ?_
          replace S := S.sub [(1, _), (19, _), (20, _), (21, _), (22, _), (5, _), (4, _), (3, _)] rfl
          refine block_normal ?_
          refine then_normal ?_
          -- region 8 move.go:128
          refine wp_region_lit ?_
          (first | refine st_y S rfl rfl rfl (y_addN S rfl rfl (by omega)) ?_ | refine st_y S rfl rfl rfl (y_int S rfl rfl rfl) ?_); clear S a; intro a S
          refine st_y S rfl rfl rfl (y_move S rfl) ?_; clear S a; intro a S
          refine wpList_nil ?_
          replace S := S.sub [(1, _), (19, _), (20, _), (22, _), (5, _), (4, _), (3, _), (21, _)] rfl
          refine then_normal ?_
          refine ⟨x.length - (k + 1), by omega, k + 1, vA, loA, hiA, by omega, rfl, S.sub _ rfl, ?_⟩
          rw [List.take_add_one, hy, Option.toList_some, wrsF_snoc, List.length_take, Nat.min_eq_left hk, Nat.zero_add, wcellsA, List.length_append]
          exact M.sub (by simp)
        · clear S; intro h22 S
          first | replace h22 := nrmA h22 | replace h22 := nrmB h22 | skip
          first | replace h22 := nrm1 h22 | replace h22 := nrm2 h22 | replace h22 := nrm3 h22 | replace h22 := nrm4 h22 | replace h22 := nrm5 h22 | replace h22 := nrm6 h22 | replace h22 := of_decide_eq_true h22 | replace h22 := of_decide_eq_false h22 | skip
          refine st_condF S rfl ?_
          refine wp_exit ?_
          refine then_exit ?_
          refine then_exit ?_
          refine block_hit ?_
          refine then_normal ?_
          refine wp_seq ?_
          -- region 9 move.go:131
          refine wp_region_lit ?_
          refine st_y S rfl rfl rfl (y_move S rfl) ?_; clear S a; intro a S
          refine st_y S rfl rfl rfl (y_assign S rfl) ?_; clear S a; intro a S
          refine wpList_nil ?_
          replace S := S.sub [(1, _), (3, _), (19, _), (20, _), (21, _), (22, _), (2, _)] rfl
          refine then_normal ?_
          refine wp_ret ?_
          refine end_one S rfl (res_tmp rfl) ?_
          obtain rfl : k = x.length := by omega
          rw [List.take_length] at M
          rw [hwr]
          exact ⟨_, rfl, M.fresh 0 rfl⟩

end Go.Proofs.Ytgocjpcmjljeoaa
