/-
  law25: MoveAsks.
-/
import Derived.Test.YtgocjpcmjljeoaaMe
import Derived.Test.YtgocjpcmjljeoaaMs
namespace Go.Proofs.Ytgocjpcmjljeoaa
open Go.RowKit Go.Sort

theorem great25_any (m : Msg) (ad : Option Addr) (l c : Nat) (w : World) : Calls Try.prog 7 #[.agg (m.cells (.slice ad l c))] w fun e w' => e = .returned (.bool (decide ((40 : Int) < (l : Int)))) ∧ Below w.heap.size w w' := by
  have M := Mem.start w
  refine calls_enter Try.func7 rfl 7 rfl rfl ?_; intro a S
  refine wp_seq ?_
  -- region 0 ref.go:184
  refine wp_region_lit ?_
  refine st_box S M rfl rfl rfl #[_, _, _, _, _, _, _, _, _, _, _, _, _, _, _, _, _, _, _, _, _, _, _, _] rfl ?_; clear S M a; intro a w1 b1 S M hB
  refine st_y S rfl rfl rfl (y_assign S rfl) ?_; clear S a; intro a S
  refine wpList_nil ?_
  replace S := S.sub [(0, _), (1, _), (2, _)] rfl
  refine then_normal ?_
  refine wp_seq ?_
  -- region 1 ref.go:184
  refine wp_region_lit ?_
  refine st_y S rfl rfl rfl (y_fieldAddr (k := 23) S (by kernel_rfl) rfl) ?_; clear S a; intro a S
  refine st_y S rfl rfl rfl (y_load S (by kernel_rfl) rfl (M.cell 0 rfl rfl)) ?_; clear S a; intro a S
  refine st_y S rfl rfl rfl (y_lenS (E := 48) S rfl (by kernel_rfl)) ?_; clear S a; intro a S
  refine st_y S rfl rfl rfl (y_int S rfl rfl rfl) ?_; clear S a; intro a S
  refine st_y S rfl rfl rfl (y_assign S rfl) ?_; clear S a; intro a S
  refine wpList_nil ?_
  replace S := S.sub [(0, _), (1, _), (2, _)] rfl
  refine then_normal ?_
  refine wp_ret ?_
  refine end_one S rfl (res_tmp rfl) ?_
  exact ⟨rfl, M.below⟩
theorem beginNo_any (s t f : Int) (n : Nm) (w : World) (hw : wayB s t f n = false) :
    Calls Try.prog 6 #[.agg (Mv.zero.cells (.slice none 0 0)), .agg #[.int .i64 s, .int .i64 t], .int .i64 f, .agg n.cells] w fun e w' => e = .returned (.tuple #[.agg (Mv.zero.cells (.slice none 0 0)), .slice none 0 0, .int .i64 2]) ∧ Below w.heap.size w w' := by
  have M := Mem.start w
  have ho : Mv.zero.ok [] = true := by unfold Mv.ok; rw [if_pos (show Mv.zero.phase = 0 from rfl)]; exact Mv.same_iff.2 ⟨rfl, rfl⟩
  refine calls_enter Try.func6 rfl 34 rfl rfl ?_; intro a S
  refine wp_seq ?_
  -- region 0 move.go:66
  refine wp_region_lit ?_
  refine st_box S M rfl rfl rfl #[_, _, _, _, _, _, _, _, _] rfl ?_; clear S M a; intro a w1 bA S M hB
  refine st_box S M rfl rfl rfl #[_, _] rfl ?_; clear S M a; intro a w2 b1 S M hB
  refine st_box S M rfl rfl rfl #[_, _, _] rfl ?_; clear S M a; intro a w3 b2 S M hB
  refine st_alloc S M rfl rfl #[.int .i8 0, .int .i64 0, .int .i64 0, .int .i64 0, .int .i64 0, .int .i64 0, .int .i64 0, .int .i64 0, .slice none 0 0] (by kernel_rfl) ?_; clear S M a; intro a w4 bO S M hB
  refine st_y S rfl rfl rfl (y_assign S rfl) ?_; clear S a; intro a S
  refine st_y S rfl rfl rfl (y_assign S rfl) ?_; clear S a; intro a S
  refine wpList_nil ?_
  replace S := S.sub [(0, _), (1, _), (2, _), (3, _), (4, _), (5, _), (7, _), (8, _), (9, _), (10, _)] rfl
  refine then_normal ?_
  refine wp_seq ?_
  refine wp_seq ?_
  -- region 1 move.go:67
  refine wp_region_lit ?_
  refine st_y S rfl rfl rfl (y_loadAgg (cs := [_, _, _, _, _, _, _, _, _]) S (by kernel_rfl) rfl rfl (M.cellsAt (k := 9) 3 rfl rfl)) ?_; clear S a; intro a S
  refine st_call (xs := [(Operand.tmp 11)]) S (enters_of Try.func11 (by decide) rfl) rfl rfl rfl (check_any Mv.zero none 0 0 [] _ (Rd.nil _ _ _ _)) ?_
  rintro _ w5 ⟨rfl, hK⟩; refine ⟨_, rfl, ?_⟩; clear S a; intro a S; replace M := M.grow hK
  rw [chk_ok ho] at S
  refine st_y S rfl rfl rfl (y_int S rfl rfl rfl) ?_; clear S a; intro a S
  refine st_y S rfl rfl rfl (y_move S rfl) ?_; clear S a; intro a S
  refine st_split (t := 14) S rfl ?_ ?_
  · clear S; intro h14 S
    first | replace h14 := nrmA h14 | replace h14 := nrmB h14 | skip
    first | replace h14 := nrm1 h14 | replace h14 := nrm2 h14 | replace h14 := nrm3 h14 | replace h14 := nrm4 h14 | replace h14 := nrm5 h14 | replace h14 := nrm6 h14 | replace h14 := of_decide_eq_true h14 | replace h14 := of_decide_eq_false h14 | skip
    exact absurd rfl h14
  · clear S; intro h14 S
    first | replace h14 := nrmA h14 | replace h14 := nrmB h14 | skip
    first | replace h14 := nrm1 h14 | replace h14 := nrm2 h14 | replace h14 := nrm3 h14 | replace h14 := nrm4 h14 | replace h14 := nrm5 h14 | replace h14 := nrm6 h14 | replace h14 := of_decide_eq_true h14 | replace h14 := of_decide_eq_false h14 | skip
    refine st_y S rfl rfl rfl (y_loadAgg (cs := [_, _]) S (by kernel_rfl) rfl rfl (M.cellsAt (k := 2) 2 rfl rfl)) ?_; clear S a; intro a S
    refine st_y S rfl rfl rfl (y_move S rfl) ?_; clear S a; intro a S
    refine st_y S rfl rfl rfl (y_loadAgg (cs := [_, _, _]) S (by kernel_rfl) rfl rfl (M.cellsAt (k := 3) 1 rfl rfl)) ?_; clear S a; intro a S
    refine st_call (xs := [(Operand.tmp 15), (Operand.tmp 16), (Operand.tmp 17)]) S (enters_of Try.func16 (by decide) rfl) rfl rfl rfl (wayMay_any s t f n _) ?_
    rintro _ w6 ⟨rfl, hK⟩; refine ⟨_, rfl, ?_⟩; clear S a; intro a S; replace M := M.grow hK
    rw [hw] at S
    refine st_y S rfl rfl rfl (y_not S rfl) ?_; clear S a; intro a S
    refine st_y S rfl rfl rfl (y_pickF S rfl rfl) ?_; clear S a; intro a S
    refine wpList_nil ?_
    replace S := S.sub [(0, _), (1, _), (2, _), (3, _), (4, _), (5, _), (7, _), (8, _), (9, _), (10, _), (20, _)] rfl
    refine then_normal ?_
    refine st_split (t := 20) S rfl ?_ ?_
    · clear S; intro h20 S
      first | replace h20 := nrmA h20 | replace h20 := nrmB h20 | skip
      first | replace h20 := nrm1 h20 | replace h20 := nrm2 h20 | replace h20 := nrm3 h20 | replace h20 := nrm4 h20 | replace h20 := nrm5 h20 | replace h20 := nrm6 h20 | replace h20 := of_decide_eq_true h20 | replace h20 := of_decide_eq_false h20 | skip
      refine st_condT S rfl ?_
      refine wp_seq ?_
      -- region 2 move.go:68
      refine wp_region_lit ?_
      refine st_y S rfl rfl rfl (y_build (ps := []) (pl := [(0, 1), (1, 3), (4, 2), (6, 1), (7, 1), (8, 1)]) (z := [.int .i8 0, .int .i64 0, .int .i64 0, .int .i64 0, .int .i64 0, .int .i64 0, .int .i64 0, .int .i64 0, .slice none 0 0]) (cs := [_, _, _, _, _, _, _, _, _]) S (by kernel_rfl) rfl (rfl)) ?_; clear S a; intro a S
      refine st_store (sz := 9) (us := [_, _, _, _, _, _, _, _, _]) S M 0 rfl (by kernel_rfl) rfl rfl rfl rfl rfl rfl (by first | decide | (simp; done) | (simp; omega)) ?_; clear M; intro w7 M
      simp only [putL, List.set_cons_zero, List.set_cons_succ, Nat.reduceAdd] at M
      refine st_y S rfl rfl rfl (y_assign S rfl) ?_; clear S a; intro a S
      refine st_y S rfl rfl rfl (y_assign S rfl) ?_; clear S a; intro a S
      refine wpList_nil ?_
      replace S := S.sub [(0, _), (1, _), (2, _), (3, _), (4, _), (5, _), (7, _), (8, _), (20, _), (9, _), (10, _)] rfl
      refine then_normal ?_
      refine wp_ret ?_
      refine then_ret ?_
      refine end_three S rfl (res_agg (cs := [_, _, _, _, _, _, _, _, _]) (by kernel_rfl) rfl rfl (M.cellsAt (k := 9) 0 rfl rfl)) (res_tmp rfl) (res_tmp rfl) ?_
      exact ⟨rfl, M.below⟩
    · clear S; intro h20 S
      first | replace h20 := nrmA h20 | replace h20 := nrmB h20 | skip
      first | replace h20 := nrm1 h20 | replace h20 := nrm2 h20 | replace h20 := nrm3 h20 | replace h20 := nrm4 h20 | replace h20 := nrm5 h20 | replace h20 := nrm6 h20 | replace h20 := of_decide_eq_true h20 | replace h20 := of_decide_eq_false h20 | skip
      simp at h20
theorem asksNo_any (s t f : Int) (n : Nm) (v : Value) (cs : List Value) (L : List (Msg × List Wr)) (w : World) (hv : MsC cs 0 w.heap.size w v L) (hw : wayB s t f n = false) :
    Calls Try.prog 3 #[.agg #[.int .i64 s, .int .i64 t], .int .i64 f, .agg n.cells, v] w fun e w' => e = .returned (.bool true) ∧ Below w.heap.size w w' := by
  have M := Mem.start w
  refine calls_enter Try.func3 rfl 254 rfl rfl ?_; intro a S
  refine wp_seq ?_
  -- region 0 law.go:72
  refine wp_region_lit ?_
  refine st_box S M rfl rfl rfl #[_, _] rfl ?_; clear S M a; intro a w1 bC S M hB
  refine st_box S M rfl rfl rfl #[_, _, _] rfl ?_; clear S M a; intro a w2 bN S M hB
  refine st_y S rfl rfl rfl (y_assign S rfl) ?_; clear S a; intro a S
  refine wpList_nil ?_
  replace S := S.sub [(0, _), (1, _), (2, _), (3, _), (4, _), (6, _), (8, _)] rfl
  refine then_normal ?_
  refine wp_seq ?_
  refine wp_seq ?_
  -- region 1 law.go:73
  refine wp_region_lit ?_
  refine st_y S rfl rfl rfl (y_move S rfl) ?_; clear S a; intro a S
  refine st_y S rfl rfl rfl (y_lenR (E := 39) S rfl ((M.ms hv).1) (by kernel_rfl)) ?_; clear S a; intro a S
  refine st_y S rfl rfl rfl (y_int S rfl rfl rfl) ?_; clear S a; intro a S
  refine wpList_nil ?_
  replace S := S.sub [(0, _), (1, _), (2, _), (3, _), (4, _), (6, _), (8, _), (30, _)] rfl
  refine then_normal ?_
  refine st_split (t := 30) S rfl ?_ ?_
  · clear S; intro h30 S
    first | replace h30 := nrmA h30 | replace h30 := nrmB h30 | skip
    first | replace h30 := nrm1 h30 | replace h30 := nrm2 h30 | replace h30 := nrm3 h30 | replace h30 := nrm4 h30 | replace h30 := nrm5 h30 | replace h30 := nrm6 h30 | replace h30 := of_decide_eq_true h30 | replace h30 := of_decide_eq_false h30 | skip
    refine st_condT S rfl ?_
    refine wp_seq ?_
    -- region 2 law.go:74
    refine wp_region_lit ?_
    refine st_call (xs := []) S (enters_of Try.func5 (by decide) rfl) rfl rfl rfl (wakes_any _) ?_
    rintro _ w3 ⟨rfl, hK⟩; refine ⟨_, rfl, ?_⟩; clear S a; intro a S; replace M := M.grow hK
    refine st_y S rfl rfl rfl (y_assign S rfl) ?_; clear S a; intro a S
    refine wpList_nil ?_
    replace S := S.sub [(0, _), (1, _), (2, _), (3, _), (4, _), (6, _), (30, _), (8, _)] rfl
    refine then_normal ?_
    refine wp_ret ?_
    refine then_ret ?_
    refine end_one S rfl (res_tmp rfl) ?_
    exact ⟨rfl, M.below⟩
  · clear S; intro h30 S
    first | replace h30 := nrmA h30 | replace h30 := nrmB h30 | skip
    first | replace h30 := nrm1 h30 | replace h30 := nrm2 h30 | replace h30 := nrm3 h30 | replace h30 := nrm4 h30 | replace h30 := nrm5 h30 | replace h30 := nrm6 h30 | replace h30 := of_decide_eq_true h30 | replace h30 := of_decide_eq_false h30 | skip
    refine st_condF S rfl ?_
    refine wp_skip ?_
    refine then_normal ?_
    refine wp_seq ?_
    -- region 3 law.go:76
    refine wp_region_lit ?_
    refine st_y S rfl rfl rfl (y_build (ps := []) (pl := [(0, 1), (1, 3), (4, 2), (6, 1), (7, 1), (8, 1)]) (z := [.int .i8 0, .int .i64 0, .int .i64 0, .int .i64 0, .int .i64 0, .int .i64 0, .int .i64 0, .int .i64 0, .slice none 0 0]) (cs := [_, _, _, _, _, _, _, _, _]) S (by kernel_rfl) rfl (rfl)) ?_; clear S a; intro a S
    refine st_y S rfl rfl rfl (y_loadAgg (cs := [_, _]) S (by kernel_rfl) rfl rfl (M.cellsAt (k := 2) 1 rfl rfl)) ?_; clear S a; intro a S
    refine st_y S rfl rfl rfl (y_move S rfl) ?_; clear S a; intro a S
    refine st_y S rfl rfl rfl (y_loadAgg (cs := [_, _, _]) S (by kernel_rfl) rfl rfl (M.cellsAt (k := 3) 0 rfl rfl)) ?_; clear S a; intro a S
    refine st_call (xs := [(Operand.tmp 33), (Operand.tmp 34), (Operand.tmp 35), (Operand.tmp 36)]) S (enters_of Try.func6 (by decide) rfl) rfl rfl rfl (beginNo_any s t f n _ hw) ?_
    rintro _ w4 ⟨rfl, hK⟩; refine ⟨_, rfl, ?_⟩; clear S a; intro a S; replace M := M.grow hK
    refine st_y S rfl rfl rfl (y_move S rfl) ?_; clear S a; intro a S
    refine st_y S rfl rfl rfl (y_extract S rfl rfl) ?_; clear S a; intro a S
    refine st_y S rfl rfl rfl (y_extract S rfl rfl) ?_; clear S a; intro a S
    refine st_y S rfl rfl rfl (y_extract S rfl rfl) ?_; clear S a; intro a S
    refine st_alloc S M rfl rfl #[.int .i8 0, .int .i64 0, .int .i64 0, .int .i64 0, .int .i64 0, .int .i64 0, .int .i64 0, .int .i64 0, .slice none 0 0] (by kernel_rfl) ?_; clear S M a; intro a w5 bK S M hB
    refine st_store (sz := 9) (us := [_, _, _, _, _, _, _, _, _]) S M 0 rfl (by kernel_rfl) rfl rfl rfl rfl rfl rfl (by first | decide | (simp; done) | (simp; omega)) ?_; clear M; intro w6 M
    simp only [putL, List.set_cons_zero, List.set_cons_succ, Nat.reduceAdd] at M
    refine st_y S rfl rfl rfl (y_assign S rfl) ?_; clear S a; intro a S
    refine st_y S rfl rfl rfl (y_assign S rfl) ?_; clear S a; intro a S
    refine wpList_nil ?_
    replace S := S.sub [(0, _), (1, _), (2, _), (3, _), (4, _), (6, _), (8, _), (30, _), (9, _), (10, _), (11, _)] rfl
    refine then_normal ?_
    refine wp_seq ?_
    refine wp_seq ?_
    -- region 4 law.go:77
    refine wp_region_lit ?_
    refine st_y S rfl rfl rfl (y_move S rfl) ?_; clear S a; intro a S
    refine st_y S rfl rfl rfl (y_int S rfl rfl rfl) ?_; clear S a; intro a S
    refine wpList_nil ?_
    replace S := S.sub [(0, _), (1, _), (2, _), (3, _), (4, _), (6, _), (8, _), (30, _), (9, _), (10, _), (11, _), (42, _)] rfl
    refine then_normal ?_
    refine st_split (t := 42) S rfl ?_ ?_
    · clear S; intro h42 S
      first | replace h42 := nrmA h42 | replace h42 := nrmB h42 | skip
      first | replace h42 := nrm1 h42 | replace h42 := nrm2 h42 | replace h42 := nrm3 h42 | replace h42 := nrm4 h42 | replace h42 := nrm5 h42 | replace h42 := nrm6 h42 | replace h42 := of_decide_eq_true h42 | replace h42 := of_decide_eq_false h42 | skip
      refine st_condT S rfl ?_
      refine wp_seq ?_
      -- region 5 law.go:78
      refine wp_region_lit ?_
      refine st_y S rfl rfl rfl (y_move S rfl) ?_; clear S a; intro a S
      refine st_y S rfl rfl rfl (y_int S rfl rfl rfl) ?_; clear S a; intro a S
      refine st_y S rfl rfl rfl (y_move S rfl) ?_; clear S a; intro a S
      refine st_split (t := 45) S rfl ?_ ?_
      · clear S; intro h45 S
        first | replace h45 := nrmA h45 | replace h45 := nrmB h45 | skip
        first | replace h45 := nrm1 h45 | replace h45 := nrm2 h45 | replace h45 := nrm3 h45 | replace h45 := nrm4 h45 | replace h45 := nrm5 h45 | replace h45 := nrm6 h45 | replace h45 := of_decide_eq_true h45 | replace h45 := of_decide_eq_false h45 | skip
        refine st_call (xs := []) S (enters_of Try.func5 (by decide) rfl) rfl rfl rfl (wakes_any _) ?_
        rintro _ w7 ⟨rfl, hK⟩; refine ⟨_, rfl, ?_⟩; clear S a; intro a S; replace M := M.grow hK
        refine st_y S rfl rfl rfl (y_pickT S rfl rfl) ?_; clear S a; intro a S
        refine st_y S rfl rfl rfl (y_assign S rfl) ?_; clear S a; intro a S
        refine wpList_nil ?_
        replace S := S.sub [(0, _), (1, _), (2, _), (3, _), (4, _), (6, _), (30, _), (9, _), (10, _), (11, _), (42, _), (8, _)] rfl
        refine then_normal ?_
        refine wp_ret ?_
        refine then_ret ?_
        refine end_one S rfl (res_tmp rfl) ?_
        exact ⟨rfl, M.below⟩
      · clear S; intro h45 S
        first | replace h45 := nrmA h45 | replace h45 := nrmB h45 | skip
        first | replace h45 := nrm1 h45 | replace h45 := nrm2 h45 | replace h45 := nrm3 h45 | replace h45 := nrm4 h45 | replace h45 := nrm5 h45 | replace h45 := nrm6 h45 | replace h45 := of_decide_eq_true h45 | replace h45 := of_decide_eq_false h45 | skip
        simp at h45
    · clear S; intro h42 S
      first | replace h42 := nrmA h42 | replace h42 := nrmB h42 | skip
      first | replace h42 := nrm1 h42 | replace h42 := nrm2 h42 | replace h42 := nrm3 h42 | replace h42 := nrm4 h42 | replace h42 := nrm5 h42 | replace h42 := nrm6 h42 | replace h42 := of_decide_eq_true h42 | replace h42 := of_decide_eq_false h42 | skip
      simp at h42

def mvA (s t f : Int) (n : Nm) (k : Nat) : Mv := ⟨1, n, s, t, f, (k : Int)⟩
def mvC (s t f : Int) (n : Nm) : Mv := ⟨2, n, s, t, f, 4⟩
theorem okA {s t f : Int} {n : Nm} {x : List V8} (hw : wayB s t f n = true) (h : x.length ≤ 3) : (mvA s t f n (x.length + 1)).ok x = true := by
  unfold Mv.ok mvA
  simp only
  rw [if_neg (by decide), if_pos trivial, hw, Bool.and_true, decide_eq_true_eq]
  omega
theorem okC {s t f : Int} {n : Nm} {x : List V8} (hw : wayB s t f n = true) (h : x.length = 4) : (mvC s t f n).ok x = true := by
  unfold Mv.ok mvC
  simp only
  rw [if_neg (by decide), if_neg (by decide), if_pos trivial, hw, Bool.and_true, decide_eq_true_eq]
  exact ⟨trivial, by omega⟩
theorem hear_asks {s t f : Int} {n : Nm} {x : List V8} {g : Msg} {y : List Wr} (hw : wayB s t f n = true) (hx : x.length ≤ 3) :
    ∃ m' x' ms' how er, hearM (mvA s t f n (x.length + 1)) x g y = (m', x', ms', how, er) ∧ x'.length ≤ 4 ∧ ms'.length ≤ 1 ∧ (er = 0 →
      (¬ (g.name = n ∧ g.n = ((x.length + 1 : Nat) : Int) ∧ g.frm = f) → m' = mvA s t f n (x.length + 1) ∧ x' = x ∧ ms' = [] ∧ how = 0) ∧
      ((g.name = n ∧ g.n = ((x.length + 1 : Nat) : Int) ∧ g.frm = f) → (g.e ≠ 0 → m' = Mv.zero ∧ x' = [] ∧ how = 2) ∧
        (g.e = 0 → x' = x ++ [g.val] ∧ ((x.length = 3 ∧ how = 1 ∧ m' = mvC s t f n ∧ ms' = []) ∨ (x.length < 3 ∧ how = 0 ∧ m' = mvA s t f n (x.length + 1 + 1) ∧ ms' = [execM (mvA s t f n (x.length + 1 + 1))]))))) := by
  have ho := okA (t := t) (f := f) hw hx
  by_cases h1 : g.kind = 3 ∧ g.may y = true
  · by_cases h2 : g.name = n ∧ g.n = ((x.length + 1 : Nat) : Int) ∧ g.frm = f
    · by_cases h3 : g.e = 0
      · by_cases h4 : x.length = 3
        · refine ⟨mvC s t f n, x ++ [g.val], [], 1, 0, ?_, by simp; omega, by simp, fun _ => ⟨fun h => absurd h2 h, fun _ => ⟨fun h => absurd h3 h, fun _ => ⟨rfl, .inl ⟨h4, rfl, rfl, rfl⟩⟩⟩⟩⟩
          unfold hearM
          rw [if_pos ⟨ho, h1.1, h1.2⟩, if_pos ⟨rfl, h2.1, h2.2.1, h2.2.2⟩, if_pos h3, if_pos (show (mvA s t f n (x.length + 1)).n = 4 by simp only [mvA]; omega)]
          simp only [mvA, mvC, Prod.mk.injEq, Mv.mk.injEq, and_true, true_and]
          omega
        · refine ⟨mvA s t f n (x.length + 1 + 1), x ++ [g.val], [execM (mvA s t f n (x.length + 1 + 1))], 0, 0, ?_, by simp; omega, by simp, fun _ => ⟨fun h => absurd h2 h, fun _ => ⟨fun h => absurd h3 h, fun _ => ⟨rfl, .inr ⟨by omega, rfl, rfl, rfl⟩⟩⟩⟩⟩
          unfold hearM
          rw [if_pos ⟨ho, h1.1, h1.2⟩, if_pos ⟨rfl, h2.1, h2.2.1, h2.2.2⟩, if_pos h3, if_neg (show ¬ (mvA s t f n (x.length + 1)).n = 4 by simp only [mvA]; omega)]
          rfl
      · refine ⟨Mv.zero, [], [], 2, 0, ?_, by simp, by simp, fun _ => ⟨fun h => absurd h2 h, fun _ => ⟨fun _ => ⟨rfl, rfl, rfl⟩, fun h => absurd h h3⟩⟩⟩
        unfold hearM
        rw [if_pos ⟨ho, h1.1, h1.2⟩, if_pos ⟨rfl, h2.1, h2.2.1, h2.2.2⟩, if_neg h3]
    · refine ⟨_, x, [], 0, 0, ?_, by omega, by simp, fun _ => ⟨fun _ => ⟨rfl, rfl, rfl, rfl⟩, fun h => absurd h h2⟩⟩
      unfold hearM
      rw [if_pos ⟨ho, h1.1, h1.2⟩, if_neg (fun h => h2 ⟨h.2.1, h.2.2.1, h.2.2.2⟩)]
  · refine ⟨Mv.zero, [], [], 0, 2, ?_, by simp, by simp, fun h => by omega⟩
    unfold hearM
    rw [if_neg (fun h => h1 h.2)]
theorem wrsF_get (c : Int) : ∀ {l : List V8} {b i : Nat} {v : V8}, l[i]? = some v → (wrsF c b l)[i]? = some ⟨c * 4 + ((b + i : Nat) : Int), v⟩
  | [], b, i, v, h => by simp at h
  | u :: l, b, 0, v, h => by
    obtain rfl : u = v := by simpa using h
    rfl
  | u :: l, b, i + 1, v, h => by
    have := wrsF_get c (l := l) (b := b + 1) (i := i) (v := v) (by simpa using h)
    simp only [wrsF, List.getElem?_cons_succ, this]
    congr 4; omega
theorem Mem.six {w0 w : World} {H : List Ent} {a b c d e f : Ent} (M : Mem w0 w (a :: b :: c :: d :: e :: f :: H)) : Mem w0 w [a, b, c, d, e, f] := M.sub (by simp)

end Go.Proofs.Ytgocjpcmjljeoaa
