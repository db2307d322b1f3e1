/-
  law25: MoveTicks.
-/
import Derived.Test.YtgocjpcmjljeoaaMd
namespace Go.Proofs.Ytgocjpcmjljeoaa
open Go.RowKit Go.Sort

theorem msC_get : ∀ {l : List Msg} {i : Nat} {q : Msg}, l[i]? = some q → ((msC l).drop (i * 24)).take 24 = (q.cells (.slice none 0 0)).toList
  | [], i, q, h => by simp at h
  | y :: l, 0, q, h => by
    obtain rfl : y = q := by simpa using h
    simp [msC]
  | y :: l, i + 1, q, h => by
    have := msC_get (l := l) (i := i) (q := q) (by simpa using h)
    rw [← this, msC, List.flatMap_cons, show (i + 1) * 24 = (y.cells (.slice none 0 0)).toList.length + i * 24 by simp; omega, ← List.drop_drop, List.drop_left]
    rfl
theorem ask_one {m : Mv} (h : m.phase = 1) : askM m = [execM m] := by unfold askM; rw [if_pos h]
theorem ask_no {m : Mv} (h : m.phase ≠ 1) : askM m = [] := by unfold askM; rw [if_neg h]
theorem ask_len (m : Mv) : (askM m).length ≤ 1 := by unfold askM; split <;> simp
theorem ask_iff (m : Mv) : (((askM m).length : Int) == 1) = (m.phase == 1) := by
  by_cases h : m.phase = 1
  · rw [ask_one h, h]; rfl
  · rw [ask_no h]; simp [h]
theorem ok_n {m : Mv} {x : List V8} (h : m.ok x = true) (hp : m.phase = 1) : (x.length : Int) = m.n - 1 := by
  unfold Mv.ok at h
  rw [if_neg (by omega), if_pos hp] at h
  simp only [Bool.and_eq_true, decide_eq_true_eq] at h; omega
theorem ok_4 {m : Mv} {x : List V8} (h : m.ok x = true) (hp : m.phase = 2) : x.length = 4 := by
  unfold Mv.ok at h
  rw [if_neg (by omega), if_neg (by omega), if_pos hp] at h
  simp only [Bool.and_eq_true, decide_eq_true_eq] at h; omega
theorem wr_len {m : Mv} {x : List V8} : (wrM m x).length ≤ x.length := by
  unfold wrM; split
  · rw [wrsF_len]; exact Nat.le_refl _
  · simp
theorem wr_zero {m : Mv} {x : List V8} (h : m.ok x = true) : ((wrM m x).length : Int) = 0 ↔ m.phase ≠ 2 := by
  unfold wrM
  by_cases hp : m.phase = 2
  · rw [if_pos ⟨hp, h⟩, wrsF_len, ok_4 h hp]; simp [hp]
  · rw [if_neg (fun q => hp q.1)]; simp [hp]

theorem wr_eq {m : Mv} {x : List V8} (h : m.ok x = true) : (((wrM m x).length : Int) == 0) = (m.phase != 2) := by
  rw [Bool.eq_iff_iff, beq_iff_eq, bne_iff_ne]; exact wr_zero h

theorem ticksNo_any (m : Mv) (va : Option Addr) (vn vc : Nat) (x : List V8) (w : World) (hv : Vs 0 w.heap.size w (.slice va vn vc) x) (hb : m.ok x = false) :
    Calls Try.prog 4 #[.agg (m.cells (.slice va vn vc))] w fun e w' => e = .returned (.bool true) ∧ Below w.heap.size w w' := by
  have M := Mem.start w
  refine calls_enter Try.func4 rfl 94 rfl rfl ?_; intro a S
  refine wp_seq ?_
  -- region 0 law.go:149
  refine wp_region_lit ?_
  refine st_box S M rfl rfl rfl #[_, _, _, _, _, _, _, _, _] rfl ?_; clear S M a; intro a w1 bA S M hB
  refine st_y S rfl rfl rfl (y_assign S rfl) ?_; clear S a; intro a S
  refine wpList_nil ?_
  replace S := S.sub [(0, _), (1, _), (2, _)] rfl
  refine then_normal ?_
  refine wp_seq ?_
  refine wp_seq ?_
  -- region 1 law.go:150
  refine wp_region_lit ?_
  refine st_y S rfl rfl rfl (y_loadAgg (cs := [_, _, _, _, _, _, _, _, _]) S (by kernel_rfl) rfl rfl (M.cellsAt (k := 9) 0 rfl rfl)) ?_; clear S a; intro a S
  refine st_call (xs := [(Operand.tmp 8)]) S (enters_of Try.func13 (by decide) rfl) rfl rfl rfl (greatV_any m _ _ _ _) ?_
  rintro _ w2 ⟨rfl, hK⟩; refine ⟨_, rfl, ?_⟩; clear S a; intro a S; replace M := M.grow hK
  refine wpList_nil ?_
  replace S := S.sub [(0, _), (1, _), (2, _), (9, _)] rfl
  refine then_normal ?_
  refine st_split (t := 9) S rfl ?_ ?_
  · clear S; intro h9 S
    first | replace h9 := nrmA h9 | replace h9 := nrmB h9 | skip
    first | replace h9 := nrm1 h9 | replace h9 := nrm2 h9 | replace h9 := nrm3 h9 | replace h9 := nrm4 h9 | replace h9 := nrm5 h9 | replace h9 := nrm6 h9 | replace h9 := of_decide_eq_true h9 | replace h9 := of_decide_eq_false h9 | skip
    refine st_condT S rfl ?_
    refine wp_seq ?_
    -- region 2 law.go:151
    refine wp_region_lit ?_
    refine st_call (xs := []) S (enters_of Try.func5 (by decide) rfl) rfl rfl rfl (wakes_any _) ?_
    rintro _ w3 ⟨rfl, hK⟩; refine ⟨_, rfl, ?_⟩; clear S a; intro a S; replace M := M.grow hK
    refine st_y S rfl rfl rfl (y_assign S rfl) ?_; clear S a; intro a S
    refine wpList_nil ?_
    replace S := S.sub [(0, _), (1, _), (9, _), (2, _)] rfl
    refine then_normal ?_
    refine wp_ret ?_
    refine then_ret ?_
    refine end_one S rfl (res_tmp rfl) ?_
    exact ⟨rfl, M.below⟩
  · clear S; intro h9 S
    first | replace h9 := nrmA h9 | replace h9 := nrmB h9 | skip
    first | replace h9 := nrm1 h9 | replace h9 := nrm2 h9 | replace h9 := nrm3 h9 | replace h9 := nrm4 h9 | replace h9 := nrm5 h9 | replace h9 := nrm6 h9 | replace h9 := of_decide_eq_true h9 | replace h9 := of_decide_eq_false h9 | skip
    refine st_condF S rfl ?_
    refine wp_skip ?_
    refine then_normal ?_
    refine wp_seq ?_
    -- region 3 law.go:153
    refine wp_region_lit ?_
    refine st_y S rfl rfl rfl (y_loadAgg (cs := [_, _, _, _, _, _, _, _, _]) S (by kernel_rfl) rfl rfl (M.cellsAt (k := 9) 0 rfl rfl)) ?_; clear S a; intro a S
    refine st_call (xs := [(Operand.tmp 12)]) S (enters_of Try.func8 (by decide) rfl) rfl rfl rfl (tickNo_any m va vn vc x _ (M.argW hv) hb) ?_
    rintro _ w4 ⟨rfl, hK⟩; refine ⟨_, rfl, ?_⟩; clear S a; intro a S; replace M := M.grow hK
    refine st_y S rfl rfl rfl (y_move S rfl) ?_; clear S a; intro a S
    refine st_y S rfl rfl rfl (y_extract S rfl rfl) ?_; clear S a; intro a S
    refine st_y S rfl rfl rfl (y_extract S rfl rfl) ?_; clear S a; intro a S
    refine st_y S rfl rfl rfl (y_extract S rfl rfl) ?_; clear S a; intro a S
    refine st_alloc S M rfl rfl #[.int .i8 0, .int .i64 0, .int .i64 0, .int .i64 0, .int .i64 0, .int .i64 0, .int .i64 0, .int .i64 0, .slice none 0 0] (by kernel_rfl) ?_; clear S M a; intro a w5 bO S M hB
    refine st_store (sz := 9) (us := [_, _, _, _, _, _, _, _, _]) S M 0 rfl (by kernel_rfl) rfl rfl rfl rfl rfl rfl (by first | decide | (simp; done) | (simp; omega)) ?_; clear M; intro w6 M
    simp only [putL, List.set_cons_zero, List.set_cons_succ, Nat.reduceAdd] at M
    refine st_y S rfl rfl rfl (y_assign S rfl) ?_; clear S a; intro a S
    refine st_y S rfl rfl rfl (y_assign S rfl) ?_; clear S a; intro a S
    refine wpList_nil ?_
    replace S := S.sub [(0, _), (1, _), (2, _), (9, _), (3, _), (4, _), (5, _)] rfl
    refine then_normal ?_
    refine wp_seq ?_
    refine wp_seq ?_
    -- region 4 law.go:154
    refine wp_region_lit ?_
    refine st_y S rfl rfl rfl (y_move S rfl) ?_; clear S a; intro a S
    refine st_y S rfl rfl rfl (y_int S rfl rfl rfl) ?_; clear S a; intro a S
    refine wpList_nil ?_
    replace S := S.sub [(0, _), (1, _), (2, _), (9, _), (3, _), (4, _), (5, _), (18, _)] rfl
    refine then_normal ?_
    refine st_split (t := 18) S rfl ?_ ?_
    · clear S; intro h18 S
      first | replace h18 := nrmA h18 | replace h18 := nrmB h18 | skip
      first | replace h18 := nrm1 h18 | replace h18 := nrm2 h18 | replace h18 := nrm3 h18 | replace h18 := nrm4 h18 | replace h18 := nrm5 h18 | replace h18 := nrm6 h18 | replace h18 := of_decide_eq_true h18 | replace h18 := of_decide_eq_false h18 | skip
      refine st_condT S rfl ?_
      refine wp_seq ?_
      -- region 5 law.go:155
      refine wp_region_lit ?_
      refine st_y S rfl rfl rfl (y_loadAgg (cs := [_, _, _, _, _, _, _, _, _]) S (by kernel_rfl) rfl rfl (M.cellsAt (k := 9) 1 rfl rfl)) ?_; clear S a; intro a S
      refine st_call (xs := [(Operand.tmp 19)]) S (enters_of Try.func11 (by decide) rfl) rfl rfl rfl (check_any m va vn vc x _ (M.argW hv)) ?_
      rintro _ w7 ⟨rfl, hK⟩; refine ⟨_, rfl, ?_⟩; clear S a; intro a S; replace M := M.grow hK
      rw [chk_no hb] at S
      refine st_y S rfl rfl rfl (y_int S rfl rfl rfl) ?_; clear S a; intro a S
      refine st_y S rfl rfl rfl (y_move S rfl) ?_; clear S a; intro a S
      refine st_split (t := 22) S rfl ?_ ?_
      · clear S; intro h22 S
        first | replace h22 := nrmA h22 | replace h22 := nrmB h22 | skip
        first | replace h22 := nrm1 h22 | replace h22 := nrm2 h22 | replace h22 := nrm3 h22 | replace h22 := nrm4 h22 | replace h22 := nrm5 h22 | replace h22 := nrm6 h22 | replace h22 := of_decide_eq_true h22 | replace h22 := of_decide_eq_false h22 | skip
        refine st_y S rfl rfl rfl (y_move S rfl) ?_; clear S a; intro a S
        refine st_y S rfl rfl rfl (y_lenS (E := 39) S rfl (by kernel_rfl)) ?_; clear S a; intro a S
        refine st_y S rfl rfl rfl (y_int S rfl rfl rfl) ?_; clear S a; intro a S
        refine st_y S rfl rfl rfl (y_pickT S rfl rfl) ?_; clear S a; intro a S
        refine st_y S rfl rfl rfl (y_move S rfl) ?_; clear S a; intro a S
        refine st_split (t := 27) S rfl ?_ ?_
        · clear S; intro h27 S
          first | replace h27 := nrmA h27 | replace h27 := nrmB h27 | skip
          first | replace h27 := nrm1 h27 | replace h27 := nrm2 h27 | replace h27 := nrm3 h27 | replace h27 := nrm4 h27 | replace h27 := nrm5 h27 | replace h27 := nrm6 h27 | replace h27 := of_decide_eq_true h27 | replace h27 := of_decide_eq_false h27 | skip
          refine st_call (xs := []) S (enters_of Try.func5 (by decide) rfl) rfl rfl rfl (wakes_any _) ?_
          rintro _ w8 ⟨rfl, hK⟩; refine ⟨_, rfl, ?_⟩; clear S a; intro a S; replace M := M.grow hK
          refine st_y S rfl rfl rfl (y_pickT S rfl rfl) ?_; clear S a; intro a S
          refine st_y S rfl rfl rfl (y_assign S rfl) ?_; clear S a; intro a S
          refine wpList_nil ?_
          replace S := S.sub [(0, _), (1, _), (9, _), (3, _), (4, _), (5, _), (18, _), (2, _)] rfl
          refine then_normal ?_
          refine wp_ret ?_
          refine then_ret ?_
          refine end_one S rfl (res_tmp rfl) ?_
          exact ⟨rfl, M.below⟩
        · clear S; intro h27 S
          first | replace h27 := nrmA h27 | replace h27 := nrmB h27 | skip
          first | replace h27 := nrm1 h27 | replace h27 := nrm2 h27 | replace h27 := nrm3 h27 | replace h27 := nrm4 h27 | replace h27 := nrm5 h27 | replace h27 := nrm6 h27 | replace h27 := of_decide_eq_true h27 | replace h27 := of_decide_eq_false h27 | skip
          simp at h27
      · clear S; intro h22 S
        first | replace h22 := nrmA h22 | replace h22 := nrmB h22 | skip
        first | replace h22 := nrm1 h22 | replace h22 := nrm2 h22 | replace h22 := nrm3 h22 | replace h22 := nrm4 h22 | replace h22 := nrm5 h22 | replace h22 := nrm6 h22 | replace h22 := of_decide_eq_true h22 | replace h22 := of_decide_eq_false h22 | skip
        simp at h22
    · clear S; intro h18 S
      first | replace h18 := nrmA h18 | replace h18 := nrmB h18 | skip
      first | replace h18 := nrm1 h18 | replace h18 := nrm2 h18 | replace h18 := nrm3 h18 | replace h18 := nrm4 h18 | replace h18 := nrm5 h18 | replace h18 := nrm6 h18 | replace h18 := of_decide_eq_true h18 | replace h18 := of_decide_eq_false h18 | skip
      simp at h18
theorem ticks_any (m : Mv) (va : Option Addr) (vn vc : Nat) (x : List V8) (w : World) (hv : Vs 0 w.heap.size w (.slice va vn vc) x) (ho : m.ok x = true) :
    Calls Try.prog 4 #[.agg (m.cells (.slice va vn vc))] w fun e w' => e = .returned (.bool true) ∧ Below w.heap.size w w' := by
  have M := Mem.start w
  have hvn : vn = x.length := by obtain ⟨ad, cp, e, -, -⟩ := hv.form; cases e; rfl
  have hx4 := ok_len ho
  have hal := ask_len m
  refine calls_enter Try.func4 rfl 94 rfl rfl ?_; intro a S
  refine wp_seq ?_
  -- region 0 law.go:149
  refine wp_region_lit ?_
  refine st_box S M rfl rfl rfl #[_, _, _, _, _, _, _, _, _] rfl ?_; clear S M a; intro a w1 bA S M hB
  refine st_y S rfl rfl rfl (y_assign S rfl) ?_; clear S a; intro a S
  refine wpList_nil ?_
  replace S := S.sub [(0, _), (1, _), (2, _)] rfl
  refine then_normal ?_
  refine wp_seq ?_
  refine wp_seq ?_
  -- region 1 law.go:150
  refine wp_region_lit ?_
  refine st_y S rfl rfl rfl (y_loadAgg (cs := [_, _, _, _, _, _, _, _, _]) S (by kernel_rfl) rfl rfl (M.cellsAt (k := 9) 0 rfl rfl)) ?_; clear S a; intro a S
  refine st_call (xs := [(Operand.tmp 8)]) S (enters_of Try.func13 (by decide) rfl) rfl rfl rfl (greatV_any m _ _ _ _) ?_
  rintro _ w2 ⟨rfl, hK⟩; refine ⟨_, rfl, ?_⟩; clear S a; intro a S; replace M := M.grow hK
  refine wpList_nil ?_
  replace S := S.sub [(0, _), (1, _), (2, _), (9, _)] rfl
  refine then_normal ?_
  refine st_split (t := 9) S rfl ?_ ?_
  · clear S; intro h9 S
    first | replace h9 := nrmA h9 | replace h9 := nrmB h9 | skip
    first | replace h9 := nrm1 h9 | replace h9 := nrm2 h9 | replace h9 := nrm3 h9 | replace h9 := nrm4 h9 | replace h9 := nrm5 h9 | replace h9 := nrm6 h9 | replace h9 := of_decide_eq_true h9 | replace h9 := of_decide_eq_false h9 | skip
    refine st_condT S rfl ?_
    refine wp_seq ?_
    -- region 2 law.go:151
    refine wp_region_lit ?_
    refine st_call (xs := []) S (enters_of Try.func5 (by decide) rfl) rfl rfl rfl (wakes_any _) ?_
    rintro _ w3 ⟨rfl, hK⟩; refine ⟨_, rfl, ?_⟩; clear S a; intro a S; replace M := M.grow hK
    refine st_y S rfl rfl rfl (y_assign S rfl) ?_; clear S a; intro a S
    refine wpList_nil ?_
    replace S := S.sub [(0, _), (1, _), (9, _), (2, _)] rfl
    refine then_normal ?_
    refine wp_ret ?_
    refine then_ret ?_
    refine end_one S rfl (res_tmp rfl) ?_
    exact ⟨rfl, M.below⟩
  · clear S; intro h9 S
    first | replace h9 := nrmA h9 | replace h9 := nrmB h9 | skip
    first | replace h9 := nrm1 h9 | replace h9 := nrm2 h9 | replace h9 := nrm3 h9 | replace h9 := nrm4 h9 | replace h9 := nrm5 h9 | replace h9 := nrm6 h9 | replace h9 := of_decide_eq_true h9 | replace h9 := of_decide_eq_false h9 | skip
    refine st_condF S rfl ?_
    refine wp_skip ?_
    refine then_normal ?_
    refine wp_seq ?_
    -- region 3 law.go:153
    refine wp_region_lit ?_
    refine st_y S rfl rfl rfl (y_loadAgg (cs := [_, _, _, _, _, _, _, _, _]) S (by kernel_rfl) rfl rfl (M.cellsAt (k := 9) 0 rfl rfl)) ?_; clear S a; intro a S
    refine st_call (xs := [(Operand.tmp 12)]) S (enters_of Try.func8 (by decide) rfl) rfl rfl rfl (tick_any m va vn vc x _ (M.argW hv) ho) ?_
    rintro _ w4 ⟨ad, cp, lv, l1, h1, l2, h2, rfl, M1⟩; refine ⟨_, rfl, ?_⟩; clear S a; intro a S
    have hK := M1.below
    obtain ⟨lad, lcp, hE, -, -⟩ := (M1.readRow 0 rfl (by unfold maxLen; omega)).form
    subst hE
    replace M := M.join M1
    simp only [List.cons_append, List.nil_append] at M
    refine st_y S rfl rfl rfl (y_move S rfl) ?_; clear S a; intro a S
    refine st_y S rfl rfl rfl (y_extract S rfl rfl) ?_; clear S a; intro a S
    refine st_y S rfl rfl rfl (y_extract S rfl rfl) ?_; clear S a; intro a S
    refine st_y S rfl rfl rfl (y_extract S rfl rfl) ?_; clear S a; intro a S
    refine st_alloc S M rfl rfl #[.int .i8 0, .int .i64 0, .int .i64 0, .int .i64 0, .int .i64 0, .int .i64 0, .int .i64 0, .int .i64 0, .slice none 0 0] (by kernel_rfl) ?_; clear S M a; intro a w5 bO S M hB
    refine st_store (sz := 9) (us := [_, _, _, _, _, _, _, _, _]) S M 0 rfl (by kernel_rfl) rfl rfl rfl rfl rfl rfl (by first | decide | (simp; done) | (simp; omega)) ?_; clear M; intro w6 M
    simp only [putL, List.set_cons_zero, List.set_cons_succ, Nat.reduceAdd] at M
    refine st_y S rfl rfl rfl (y_assign S rfl) ?_; clear S a; intro a S
    refine st_y S rfl rfl rfl (y_assign S rfl) ?_; clear S a; intro a S
    refine wpList_nil ?_
    replace S := S.sub [(0, _), (1, _), (2, _), (9, _), (3, _), (4, _), (5, _)] rfl
    refine then_normal ?_
    refine wp_seq ?_
    refine wp_seq ?_
    -- region 4 law.go:154
    refine wp_region_lit ?_
    refine st_y S rfl rfl rfl (y_move S rfl) ?_; clear S a; intro a S
    refine st_y S rfl rfl rfl (y_int S rfl rfl rfl) ?_; clear S a; intro a S
    refine wpList_nil ?_
    replace S := S.sub [(0, _), (1, _), (2, _), (9, _), (3, _), (4, _), (5, _), (18, _)] rfl
    refine then_normal ?_
    refine st_split (t := 18) S rfl ?_ ?_
    · clear S; intro h18 S
      first | replace h18 := nrmA h18 | replace h18 := nrmB h18 | skip
      first | replace h18 := nrm1 h18 | replace h18 := nrm2 h18 | replace h18 := nrm3 h18 | replace h18 := nrm4 h18 | replace h18 := nrm5 h18 | replace h18 := nrm6 h18 | replace h18 := of_decide_eq_true h18 | replace h18 := of_decide_eq_false h18 | skip
      simp at h18
    · clear S; intro h18 S
      first | replace h18 := nrmA h18 | replace h18 := nrmB h18 | skip
      first | replace h18 := nrm1 h18 | replace h18 := nrm2 h18 | replace h18 := nrm3 h18 | replace h18 := nrm4 h18 | replace h18 := nrm5 h18 | replace h18 := nrm6 h18 | replace h18 := of_decide_eq_true h18 | replace h18 := of_decide_eq_false h18 | skip
      refine st_condF S rfl ?_
      refine wp_skip ?_
      refine then_normal ?_
      refine wp_seq ?_
      refine wp_seq ?_
      -- region 6 law.go:157
      refine wp_region_lit ?_
      refine st_y S rfl rfl rfl (y_loadAgg (cs := [_, _, _, _, _, _, _, _, _]) S (by kernel_rfl) rfl rfl (M.cellsAt (k := 9) 0 rfl rfl)) ?_; clear S a; intro a S
      refine st_y S rfl rfl rfl (y_loadAgg (cs := [_, _, _, _, _, _, _, _, _]) S (by kernel_rfl) rfl rfl (M.cellsAt (k := 9) 3 rfl rfl)) ?_; clear S a; intro a S
      refine st_call (xs := [(Operand.tmp 30), (Operand.tmp 31)]) S (enters_of Try.func9 (by decide) rfl) rfl rfl rfl (sameV_any m m _ _ x x _ (M.readAll 2 rfl (by unfold maxLen; omega)) (M.argW hv)) ?_
      rintro _ w7 ⟨rfl, hK⟩; refine ⟨_, rfl, ?_⟩; clear S a; intro a S; replace M := M.grow hK
      rw [Mv.same_iff.2 ⟨rfl, rfl⟩] at S
      refine st_y S rfl rfl rfl (y_not S rfl) ?_; clear S a; intro a S
      refine st_y S rfl rfl rfl (y_move S rfl) ?_; clear S a; intro a S
      refine st_split (t := 34) S rfl ?_ ?_
      · clear S; intro h34 S
        first | replace h34 := nrmA h34 | replace h34 := nrmB h34 | skip
        first | replace h34 := nrm1 h34 | replace h34 := nrm2 h34 | replace h34 := nrm3 h34 | replace h34 := nrm4 h34 | replace h34 := nrm5 h34 | replace h34 := nrm6 h34 | replace h34 := of_decide_eq_true h34 | replace h34 := of_decide_eq_false h34 | skip
        simp at h34
      · clear S; intro h34 S
        first | replace h34 := nrmA h34 | replace h34 := nrmB h34 | skip
        first | replace h34 := nrm1 h34 | replace h34 := nrm2 h34 | replace h34 := nrm3 h34 | replace h34 := nrm4 h34 | replace h34 := nrm5 h34 | replace h34 := nrm6 h34 | replace h34 := of_decide_eq_true h34 | replace h34 := of_decide_eq_false h34 | skip
        refine st_y S rfl rfl rfl (y_move S rfl) ?_; clear S a; intro a S
        refine st_y S rfl rfl rfl (y_lenS (E := 39) S rfl (by kernel_rfl)) ?_; clear S a; intro a S
        refine st_y S rfl rfl rfl (y_int S rfl rfl rfl) ?_; clear S a; intro a S
        refine st_y S rfl rfl rfl (y_fieldAddr (k := 0) S (by kernel_rfl) rfl) ?_; clear S a; intro a S
        refine st_y S rfl rfl rfl (y_load S (by kernel_rfl) rfl (M.cell 3 rfl rfl)) ?_; clear S a; intro a S
        refine st_y S rfl rfl rfl (y_int S rfl rfl rfl) ?_; clear S a; intro a S
        refine st_y S rfl rfl rfl (y_neqBool (by kernel_rfl) S rfl rfl) ?_; clear S a; intro a S
        refine st_y S rfl rfl rfl (y_pickF S rfl rfl) ?_; clear S a; intro a S
        refine wpList_nil ?_
        replace S := S.sub [(0, _), (1, _), (2, _), (9, _), (3, _), (4, _), (5, _), (18, _), (42, _)] rfl
        refine then_normal ?_
        refine st_split (t := 42) S rfl ?_ ?_
        · clear S; intro h42 S
          exfalso; rw [ask_iff m] at h42; simp at h42
        · clear S; intro h42 S
          refine st_condF S rfl ?_
          refine wp_skip ?_
          refine then_normal ?_
          refine wp_seq ?_
          refine wp_seq ?_
          -- region 8 law.go:160
          refine wp_region_lit ?_
          refine st_y S rfl rfl rfl (y_move S rfl) ?_; clear S a; intro a S
          refine st_y S rfl rfl rfl (y_lenS (E := 39) S rfl (by kernel_rfl)) ?_; clear S a; intro a S
          refine st_y S rfl rfl rfl (y_move S rfl) ?_; clear S a; intro a S
          refine wpList_nil ?_
          replace S := S.sub [(0, _), (1, _), (2, _), (9, _), (3, _), (4, _), (5, _), (18, _), (42, _), (43, _), (44, _), (45, _)] rfl
          refine then_normal ?_
          refine wp_block ?_
          refine wp_loop_g (fun q a w' => ∃ (k : Nat), k ≤ (askM m).length ∧ q = (askM m).length - k ∧ Sees 94 a [(1, .pointer (some ⟨bA, 0, none⟩)), (43, .slice lad (askM m).length lcp), (44, .int .i64 ((askM m).length : Int)), (45, .int .i64 (k : Int))] ∧ Mem w w' [rowE l1 h1 39 24 (.slice lad (askM m).length lcp) (askM m).length (msC (askM m)), .blk bA (m.cells (.slice va vn vc)) 31]) ((askM m).length) ?_ ?_
          · skip
            replace M := M.front 3 rfl
            simp only [List.eraseIdx_cons_succ, List.eraseIdx_cons_zero] at M
            replace M := M.front 2 rfl
            simp only [List.eraseIdx_cons_succ, List.eraseIdx_cons_zero] at M
            exact ⟨0, Nat.zero_le _, rfl, S.sub _ rfl, M.two⟩
          · clear S M a; intro m a wl
            rintro ⟨k, hk, rfl, S, M⟩
            refine wp_seq ?_
            -- region 9 law.go:160
            refine wp_region_lit ?_
            refine st_y S rfl rfl rfl (y_int S rfl rfl rfl) ?_; clear S a; intro a S
            refine wpList_nil ?_
            replace S := S.sub [(1, _), (43, _), (44, _), (45, _), (46, _)] rfl
            refine then_normal ?_
            refine wp_seq ?_
            refine st_split (t := 46) S rfl ?_ ?_
            · clear S; intro h46 S
              first | replace h46 := nrmA h46 | replace h46 := nrmB h46 | skip
              first | replace h46 := nrm1 h46 | replace h46 := nrm2 h46 | replace h46 := nrm3 h46 | replace h46 := nrm4 h46 | replace h46 := nrm5 h46 | replace h46 := nrm6 h46 | replace h46 := of_decide_eq_true h46 | replace h46 := of_decide_eq_false h46 | skip
              refine st_condT S rfl ?_
              refine wp_skip ?_
              refine then_normal ?_
              refine wp_seq ?_
              refine wp_block ?_
              refine wp_seq ?_
              -- region 10 law.go:160
              have hp1 : m.phase = 1 := by
                by_cases h : m.phase = 1
                · exact h
                · rw [ask_no h] at h46; simp at h46; omega
              have hkq : (askM m)[k]? = some (execM m) := by
                rw [ask_one hp1] at h46 ⊢
                have : k = 0 := by simp at h46; omega
                subst this; rfl
              have hon := ok_n ho hp1
              refine wp_region_lit ?_
              refine st_y S rfl rfl rfl (y_indexR (e := 39) (sz := 24) S (by kernel_rfl) rfl ((M.readRow 0 rfl (by unfold maxLen; omega))) rfl (by first | omega | (simp; done) | (simp; omega))) ?_; clear S a; intro a S
              try simp only [Int.toNat_natCast, Nat.mul_one, Nat.zero_add] at S
              refine st_y S rfl rfl rfl (y_loadAgg S (by kernel_rfl) rfl rfl ((M.readRow 0 rfl (by unfold maxLen; omega)).at_.row (i := k) (msC_get hkq) rfl)) ?_; clear S a; intro a S
              refine st_alloc S M rfl rfl #[.int .i8 0, .int .i64 0, .int .i64 0, .int .i64 0, .int .i64 0, .int .i64 0, .int .i64 0, .int .i64 0, .int .i64 0, .int .i8 0, .int .i64 0, .int .u8 0, .int .u8 0, .int .u8 0, .int .u8 0, .int .u8 0, .int .u8 0, .int .u8 0, .int .u8 0, .int .i64 0, .bool false, .int .i64 0, .int .i64 0, .slice none 0 0] (by kernel_rfl) ?_; clear S M a; intro a w8 bX S M hB
              refine st_store (sz := 24) (us := [_, _, _, _, _, _, _, _, _, _, _, _, _, _, _, _, _, _, _, _, _, _, _, _]) S M 0 rfl (by kernel_rfl) rfl rfl rfl rfl rfl rfl (by first | decide | (simp; done) | (simp; omega)) ?_; clear M; intro w9 M
              simp only [putL, List.set_cons_zero, List.set_cons_succ, Nat.reduceAdd] at M
              refine wpList_nil ?_
              replace S := S.sub [(1, _), (43, _), (44, _), (45, _), (46, _), (7, _)] rfl
              refine then_normal ?_
              refine wp_seq ?_
              -- region 11 law.go:161
              refine wp_region_lit ?_
              refine st_y S rfl rfl rfl (y_fieldAddr (k := 0) S (by kernel_rfl) rfl) ?_; clear S a; intro a S
              refine st_y S rfl rfl rfl (y_load S (by kernel_rfl) rfl (M.cell 0 rfl rfl)) ?_; clear S a; intro a S
              refine st_y S rfl rfl rfl (y_int S rfl rfl rfl) ?_; clear S a; intro a S
              refine st_y S rfl rfl rfl (y_move S rfl) ?_; clear S a; intro a S
              refine st_split (t := 52) S rfl ?_ ?_
              · clear S; intro h52 S
                first | replace h52 := nrmA h52 | replace h52 := nrmB h52 | skip
                first | replace h52 := nrm1 h52 | replace h52 := nrm2 h52 | replace h52 := nrm3 h52 | replace h52 := nrm4 h52 | replace h52 := nrm5 h52 | replace h52 := nrm6 h52 | replace h52 := of_decide_eq_true h52 | replace h52 := of_decide_eq_false h52 | skip
                exact absurd rfl h52
              · clear S; intro h52 S
                first | replace h52 := nrmA h52 | replace h52 := nrmB h52 | skip
                first | replace h52 := nrm1 h52 | replace h52 := nrm2 h52 | replace h52 := nrm3 h52 | replace h52 := nrm4 h52 | replace h52 := nrm5 h52 | replace h52 := nrm6 h52 | replace h52 := of_decide_eq_true h52 | replace h52 := of_decide_eq_false h52 | skip
                refine st_y S rfl rfl rfl (y_fieldAddr (k := 2) S (by kernel_rfl) rfl) ?_; clear S a; intro a S
                refine st_y S rfl rfl rfl (y_load S (by kernel_rfl) rfl (M.cell 0 rfl rfl)) ?_; clear S a; intro a S
                refine st_y S rfl rfl rfl (y_fieldAddr (k := 6) S (by kernel_rfl) rfl) ?_; clear S a; intro a S
                refine st_y S rfl rfl rfl (y_load S (by kernel_rfl) rfl (M.cell 2 rfl rfl)) ?_; clear S a; intro a S
                refine st_y S rfl rfl rfl (y_int S rfl rfl rfl) ?_; clear S a; intro a S
                refine st_y S rfl rfl rfl (y_pickF S rfl rfl) ?_; clear S a; intro a S
                refine st_y S rfl rfl rfl (y_move S rfl) ?_; clear S a; intro a S
                refine st_split (t := 59) S rfl ?_ ?_
                · clear S; intro h59 S
                  first | replace h59 := nrmA h59 | replace h59 := nrmB h59 | skip
                  first | replace h59 := nrm1 h59 | replace h59 := nrm2 h59 | replace h59 := nrm3 h59 | replace h59 := nrm4 h59 | replace h59 := nrm5 h59 | replace h59 := nrm6 h59 | replace h59 := of_decide_eq_true h59 | replace h59 := of_decide_eq_false h59 | skip
                  exact absurd rfl h59
                · clear S; intro h59 S
                  first | replace h59 := nrmA h59 | replace h59 := nrmB h59 | skip
                  first | replace h59 := nrm1 h59 | replace h59 := nrm2 h59 | replace h59 := nrm3 h59 | replace h59 := nrm4 h59 | replace h59 := nrm5 h59 | replace h59 := nrm6 h59 | replace h59 := of_decide_eq_true h59 | replace h59 := of_decide_eq_false h59 | skip
                  refine st_y S rfl rfl rfl (y_fieldAddr (k := 5) S (by kernel_rfl) rfl) ?_; clear S a; intro a S
                  refine st_y S rfl rfl rfl (y_loadAgg (cs := [_, _, _]) S (by kernel_rfl) rfl rfl (M.cellsAt (k := 3) 0 rfl rfl)) ?_; clear S a; intro a S
                  refine st_y S rfl rfl rfl (y_fieldAddr (k := 1) S (by kernel_rfl) rfl) ?_; clear S a; intro a S
                  refine st_y S rfl rfl rfl (y_loadAgg (cs := [_, _, _]) S (by kernel_rfl) rfl rfl (M.cellsAt (k := 3) 2 rfl rfl)) ?_; clear S a; intro a S
                  refine st_y S rfl rfl rfl (y_neqG (by kernel_rfl) S rfl rfl (fun w => equalNm 9998 ⟨_, _, _⟩ ⟨_, _, _⟩ w)) ?_; clear S a; intro a S
                  refine st_y S rfl rfl rfl (y_pickF S rfl rfl) ?_; clear S a; intro a S
                  refine st_y S rfl rfl rfl (y_move S rfl) ?_; clear S a; intro a S
                  refine st_split (t := 66) S rfl ?_ ?_
                  · clear S; intro h66 S
                    exfalso; have e : (!m.name.eqb m.name) = true := h66; rw [Nm.eqb_iff.2 rfl] at e; simp at e
                  · clear S; intro h66 S
                    refine st_y S rfl rfl rfl (y_fieldAddr (k := 8) S (by kernel_rfl) rfl) ?_; clear S a; intro a S
                    refine st_y S rfl rfl rfl (y_load S (by kernel_rfl) rfl (M.cell 0 rfl rfl)) ?_; clear S a; intro a S
                    refine st_y S rfl rfl rfl (y_fieldAddr (k := 7) S (by kernel_rfl) rfl) ?_; clear S a; intro a S
                    refine st_y S rfl rfl rfl (y_load S (by kernel_rfl) rfl (M.cell 2 rfl rfl)) ?_; clear S a; intro a S
                    refine st_y S rfl rfl rfl (y_int S rfl rfl rfl) ?_; clear S a; intro a S
                    refine st_y S rfl rfl rfl (y_pickF S rfl rfl) ?_; clear S a; intro a S
                    refine st_y S rfl rfl rfl (y_move S rfl) ?_; clear S a; intro a S
                    refine st_split (t := 73) S rfl ?_ ?_
                    · clear S; intro h73 S
                      first | replace h73 := nrmA h73 | replace h73 := nrmB h73 | skip
                      first | replace h73 := nrm1 h73 | replace h73 := nrm2 h73 | replace h73 := nrm3 h73 | replace h73 := nrm4 h73 | replace h73 := nrm5 h73 | replace h73 := nrm6 h73 | replace h73 := of_decide_eq_true h73 | replace h73 := of_decide_eq_false h73 | skip
                      exact absurd rfl h73
                    · clear S; intro h73 S
                      first | replace h73 := nrmA h73 | replace h73 := nrmB h73 | skip
                      first | replace h73 := nrm1 h73 | replace h73 := nrm2 h73 | replace h73 := nrm3 h73 | replace h73 := nrm4 h73 | replace h73 := nrm5 h73 | replace h73 := nrm6 h73 | replace h73 := of_decide_eq_true h73 | replace h73 := of_decide_eq_false h73 | skip
                      refine st_y S rfl rfl rfl (y_fieldAddr (k := 8) S (by kernel_rfl) rfl) ?_; clear S a; intro a S
                      refine st_y S rfl rfl rfl (y_load S (by kernel_rfl) rfl (M.cell 0 rfl rfl)) ?_; clear S a; intro a S
                      refine st_y S rfl rfl rfl (y_fieldAddr (k := 8) S (by kernel_rfl) rfl) ?_; clear S a; intro a S
                      refine st_y S rfl rfl rfl (y_load S (by kernel_rfl) rfl (M.cell 2 rfl rfl)) ?_; clear S a; intro a S
                      refine st_y S rfl rfl rfl (y_lenS (E := 36) S rfl (by kernel_rfl)) ?_; clear S a; intro a S
                      (first | refine st_y S rfl rfl rfl (y_addN S rfl rfl (by omega)) ?_ | refine st_y S rfl rfl rfl (y_int S rfl rfl rfl) ?_); clear S a; intro a S
                      refine st_y S rfl rfl rfl (y_int S rfl rfl rfl) ?_; clear S a; intro a S
                      refine st_y S rfl rfl rfl (y_pickF S rfl rfl) ?_; clear S a; intro a S
                      refine wpList_nil ?_
                      replace S := S.sub [(1, _), (43, _), (44, _), (45, _), (46, _), (7, _), (81, _)] rfl
                      refine then_normal ?_
                      refine st_split (t := 81) S rfl ?_ ?_
                      · clear S; intro h81 S
                        first | replace h81 := nrmA h81 | replace h81 := nrmB h81 | skip
                        first | replace h81 := nrm1 h81 | replace h81 := nrm2 h81 | replace h81 := nrm3 h81 | replace h81 := nrm4 h81 | replace h81 := nrm5 h81 | replace h81 := nrm6 h81 | replace h81 := of_decide_eq_true h81 | replace h81 := of_decide_eq_false h81 | skip
                        exfalso; simp only [execM] at h81; omega
                      · clear S; intro h81 S
                        first | replace h81 := nrmA h81 | replace h81 := nrmB h81 | skip
                        first | replace h81 := nrm1 h81 | replace h81 := nrm2 h81 | replace h81 := nrm3 h81 | replace h81 := nrm4 h81 | replace h81 := nrm5 h81 | replace h81 := nrm6 h81 | replace h81 := of_decide_eq_true h81 | replace h81 := of_decide_eq_false h81 | skip
                        refine st_condF S rfl ?_
                        refine wp_skip ?_
                        refine block_normal ?_
                        refine then_normal ?_
                        -- region 13 law.go:160
                        refine wp_region_lit ?_
                        (first | refine st_y S rfl rfl rfl (y_addN S rfl rfl (by omega)) ?_ | refine st_y S rfl rfl rfl (y_int S rfl rfl rfl) ?_); clear S a; intro a S
                        refine st_y S rfl rfl rfl (y_move S rfl) ?_; clear S a; intro a S
                        refine wpList_nil ?_
                        replace S := S.sub [(1, _), (43, _), (44, _), (46, _), (7, _), (81, _), (45, _)] rfl
                        refine then_normal ?_
                        replace M := M.front 2 rfl
                        simp only [List.eraseIdx_cons_succ, List.eraseIdx_cons_zero] at M
                        replace M := M.front 2 rfl
                        simp only [List.eraseIdx_cons_succ, List.eraseIdx_cons_zero] at M
                        exact ⟨(askM m).length - (k + 1), by omega, k + 1, by omega, rfl, S.sub _ rfl, M.two⟩
            · clear S; intro h46 S
              first | replace h46 := nrmA h46 | replace h46 := nrmB h46 | skip
              first | replace h46 := nrm1 h46 | replace h46 := nrm2 h46 | replace h46 := nrm3 h46 | replace h46 := nrm4 h46 | replace h46 := nrm5 h46 | replace h46 := nrm6 h46 | replace h46 := of_decide_eq_true h46 | replace h46 := of_decide_eq_false h46 | skip
              refine st_condF S rfl ?_
              refine wp_exit ?_
              refine then_exit ?_
              refine then_exit ?_
              refine block_hit ?_
              refine then_normal ?_
              refine wp_seq ?_
              -- region 14 law.go:165
              refine wp_regionK [] #[false, false, false, false, false, false, false, false, false, false, false, false] rfl M (by kernel_rfl) ?_; clear M; intro w10 M
              refine k_read (listed' := #[true, false, false, false, false, false, false, false, false, false, false, false]) 0 S rfl rfl rfl rfl (by kernel_rfl) rfl (fun _ d _ _ _ h => by cases d <;> exact h) (fun w hW => have M := M.grow hW; y_loadAgg (cs := [_, _, _, _, _, _, _, _, _]) S (by kernel_rfl) rfl rfl (M.cellsAt (k := 9) 1 rfl rfl)) ?_; clear S a; intro a S
              refine k_pure (listed' := #[true, false, false, false, true, false, false, false, false, false, false, false]) 4 S rfl rfl rfl rfl (by kernel_rfl) rfl (fun _ d _ _ _ h => by cases d <;> exact h) (fun w => y_fieldAddr (k := 0) S (by kernel_rfl) rfl) ?_; clear S a; intro a S
              refine k_read (listed' := #[true, false, false, false, true, true, false, false, false, false, false, false]) 5 S rfl rfl rfl rfl (by kernel_rfl) rfl (fun _ d _ _ _ h => by cases d <;> exact h) (fun w hW => have M := M.grow hW; y_load S (by kernel_rfl) rfl (M.cell 1 rfl rfl)) ?_; clear S a; intro a S
              refine k_pure (listed' := #[true, false, false, false, true, true, true, false, false, false, false, false]) 6 S rfl rfl rfl rfl (by kernel_rfl) rfl (fun _ d _ _ _ h => by cases d <;> exact h) (fun w => y_int S rfl rfl rfl) ?_; clear S a; intro a S
              refine k_one (listed' := #[true, true, false, false, true, true, true, false, false, false, false, false]) 1 rfl (by kernel_rfl) rfl ?_
              refine st_call (xs := [(Operand.tmp 83)]) S (enters_of Try.func12 (by decide) rfl) rfl rfl rfl (writesM_any m va vn vc x _ (M.argW hv)) ?_
              rintro _ w11 ⟨v', rfl, hF⟩; refine ⟨_, rfl, ?_⟩; clear S a; intro a S
              have hK := hF.below
              have hwl := wr_len (m := m) (x := x)
              obtain ⟨wad, wcp, hE, -, -⟩ := (hF.rd (by unfold maxLen; omega)).form
              subst hE
              replace M := M.grow hK
              refine wpList_nil ?_; refine then_normal ?_; refine ⟨fun _ => hK, ?_⟩
              refine k_pure (listed' := #[true, true, true, false, true, true, true, false, false, false, false, false]) 2 S rfl rfl rfl rfl (by kernel_rfl) rfl (fun _ d _ _ _ h => by cases d <;> exact h) (fun w => y_lenS (E := 48) S rfl (by kernel_rfl)) ?_; clear S a; intro a S
              refine k_pure (listed' := #[true, true, true, true, true, true, true, false, false, false, false, false]) 3 S rfl rfl rfl rfl (by kernel_rfl) rfl (fun _ d _ _ _ h => by cases d <;> exact h) (fun w => y_int S rfl rfl rfl) ?_; clear S a; intro a S
              refine k_pure (listed' := #[true, true, true, true, true, true, true, true, false, false, false, false]) 7 S rfl rfl rfl rfl (by kernel_rfl) rfl (fun _ d _ _ _ h => by cases d <;> exact h) (fun w => y_eqlBool (by kernel_rfl) S rfl rfl) ?_; clear S a; intro a S
              refine k_pure (listed' := #[true, true, true, true, true, true, true, true, true, false, false, false]) 8 S rfl rfl rfl rfl (by kernel_rfl) rfl (fun _ d _ _ _ h => by cases d <;> exact h) (fun w => y_move S rfl) ?_; clear S a; intro a S
              refine st_split (t := 91) S rfl ?_ ?_
              · clear S; intro h91 S
                refine k_one (listed' := #[true, true, true, true, true, true, true, true, true, true, false, false]) 9 rfl (by kernel_rfl) rfl ?_
                refine st_call (xs := []) S (enters_of Try.func5 (by decide) rfl) rfl rfl rfl (wakes_any _) ?_
                rintro _ w12 ⟨rfl, hK⟩; refine ⟨_, rfl, ?_⟩; clear S a; intro a S; replace M := M.grow hK
                refine wpList_nil ?_; refine then_normal ?_; refine ⟨fun _ => hK, ?_⟩
                refine k_pure (listed' := #[true, true, true, true, true, true, true, true, true, true, true, false]) 10 S rfl rfl rfl rfl (by kernel_rfl) rfl (fun _ d _ _ _ h => by cases d <;> exact h) (fun w => y_pickT S rfl rfl) ?_; clear S a; intro a S
                refine k_pure (listed' := #[true, true, true, true, true, true, true, true, true, true, true, true]) 11 S rfl rfl rfl rfl (by kernel_rfl) rfl (fun _ d _ _ _ h => by cases d <;> exact h) (fun w => y_assign S rfl) ?_; clear S a; intro a S
                refine k_end (by kernel_rfl) ?_
                replace S := S.sub [(1, _), (43, _), (44, _), (45, _), (46, _), (2, _)] rfl
                refine then_normal ?_
                refine wp_ret ?_
                refine end_one S rfl (res_tmp rfl) ?_
                exact ⟨rfl, M.below⟩
              · clear S; intro h91 S
                exfalso; rw [wr_eq ho] at h91; simp at h91
theorem ticksL_any (m : Mv) (va : Option Addr) (vn vc : Nat) (x : List V8) (w : World) (hv : Vs 0 w.heap.size w (.slice va vn vc) x) :
    Calls Try.prog 4 #[.agg (m.cells (.slice va vn vc))] w fun e w' => e = .returned (.bool true) ∧ Below w.heap.size w w' := by
  cases h : m.ok x with
  | true => exact ticks_any m va vn vc x w hv h
  | false => exact ticksNo_any m va vn vc x w hv h

end Go.Proofs.Ytgocjpcmjljeoaa
