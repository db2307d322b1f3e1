/-
  What SessionOnce rests on, part 5.
-/
import Derived.Test.YtniijiipkfhjgaaP4
namespace Go.Proofs.Ytniijiipkfhjgaa
open Go.RowKit Go.Sort
/-- may an open one be? -/
def Ope.may (o : Ope) (inc : Int) : Bool :=
  if (o.nm.named && o.nm.inc == inc && decide (1 ≤ o.c ∧ o.c ≤ 1048576) && o.touchedMay) = true then
    if o.ph ≠ 1 ∧ o.ex.same zMg [] [] = false then false
    else if o.ph = 0 then o.at_ == 0
    else if o.ph = 1 then decide (1 ≤ o.at_ ∧ o.at_ ≤ 4) && (hasBit o.sh o.at_.toNat && o.execMay inc)
    else if o.ph = 2 then decide (1 ≤ o.at_ ∧ o.at_ ≤ 4) && o.sh == 1 * (2 : Int) ^ o.at_.toNat
    else if o.ph = 3 then o.at_ == 0 && andV o.sh (o.sh - 1) != 0
    else false
  else false
set_option maxHeartbeats 2000000 in
theorem openMay_any (o : Ope) (inc : Int) (w : World) (hsh : ShOk o.sh) :
    Calls Try.prog 28 #[.agg o.cellsL.toArray, .int .i64 inc] w fun e w' => e = .returned (.bool (o.may inc)) ∧ Below w.heap.size w w' := by
  have hshb : 0 ≤ o.sh ∧ o.sh ≤ 30 := by
    obtain ⟨k, hk, h⟩ := hsh
    omega
  have M := Mem.start w
  refine calls_enter Try.func28 rfl 100 rfl rfl ?_; intro a S
  refine nxD ?_
  refine st_box S M rfl rfl rfl #[_, _, _, _, _, _, _, _, _, _, _, _, _, _, _, _, _, _, _, _, _, _, _, _, _, _, _, _, _, _, _, _, _, _, _, _, _] rfl ?_; clear S M a; intro a w1 bB S M hB
  refine st_go [1] S rfl (by kernel_rfl) ?_; clear S a; intro a S
  refine nxC ?_
  refine wp_seq ?_
  refine nxD ?_
  refine st_go [3] S rfl (by kernel_rfl) ?_; clear S a; intro a S
  refine st_y S rfl rfl rfl (y_loadAgg (cs := [_, _, _]) S (by kernel_rfl) rfl rfl (M.cellsAt (k := 3) 0 rfl rfl)) ?_; clear S a; intro a S
  refine st_call (xs := [(Operand.tmp 6)]) S (enters_of Try.func30 (by decide) rfl) rfl rfl rfl (named_any o.nm _) ?_
  rintro _ w2 ⟨rfl, hK⟩; refine ⟨_, rfl, ?_⟩; clear S a; intro a S; replace M := M.grow hK
  refine st_go [1, 1] S rfl (by kernel_rfl) ?_; clear S a; intro a S
  refine st_if (t := 9) S rfl ?_ ?_
  · clear S; intro h9 S
    refine st_go [0, 0, 0, 0, 0, 1, 1, 0, 0, 0, 0, 1, 1, 0, 0, 0, 1] S rfl (by kernel_rfl) ?_; clear S a; intro a S
    replace S := S.sub [(0, _), (1, _), (2, _), (4, _), (26, _)] rfl
    refine nxC ?_
    refine st_condT S rfl ?_
    refine nxD ?_
    refine st_go [1] S rfl (by kernel_rfl) ?_; clear S a; intro a S
    refine nxC ?_
    refine wp_ret ?_
    refine then_ret ?_
    refine end_one S rfl (res_tmp rfl) ?_
    refine ⟨ret_bool ?_, M.below⟩; clear S M
    unfold Ope.may; refine (if_neg ?_).symm; simp [*]
  clear S; intro h9 S
  refine st_run [3, 2, 1, 1, 1, 1, 1] S M rfl (by kernel_rfl) ?_; clear S a; intro a S
  refine st_if (t := 16) S rfl ?_ ?_
  · clear S; intro h16 S
    refine st_go [0, 0, 0, 0, 1, 1, 0, 0, 0, 1] S rfl (by kernel_rfl) ?_; clear S a; intro a S
    replace S := S.sub [(0, _), (1, _), (2, _), (4, _), (26, _)] rfl
    refine nxC ?_
    refine st_condT S rfl ?_
    refine nxD ?_
    refine st_go [1] S rfl (by kernel_rfl) ?_; clear S a; intro a S
    refine nxC ?_
    refine wp_ret ?_
    refine then_ret ?_
    refine end_one S rfl (res_tmp rfl) ?_
    refine ⟨ret_bool ?_, M.below⟩; clear S M
    unfold Ope.may; refine (if_neg ?_).symm; simp [*]
  clear S; intro h16 S
  refine st_run [2, 1] S M rfl (by kernel_rfl) ?_; clear S a; intro a S
  refine st_call (xs := [(Operand.tmp 18)]) S (enters_of Try.func29 (by decide) rfl) rfl rfl rfl (clientIs_any o.c _) ?_
  rintro _ w3 ⟨rfl, hK⟩; refine ⟨_, rfl, ?_⟩; clear S a; intro a S; replace M := M.grow hK
  refine st_go [1, 1, 1] S rfl (by kernel_rfl) ?_; clear S a; intro a S
  refine st_if (t := 22) S rfl ?_ ?_
  · clear S; intro h22 S
    refine st_go [0, 0, 0, 1] S rfl (by kernel_rfl) ?_; clear S a; intro a S
    replace S := S.sub [(0, _), (1, _), (2, _), (4, _), (26, _)] rfl
    refine nxC ?_
    refine st_condT S rfl ?_
    refine nxD ?_
    refine st_go [1] S rfl (by kernel_rfl) ?_; clear S a; intro a S
    refine nxC ?_
    refine wp_ret ?_
    refine then_ret ?_
    refine end_one S rfl (res_tmp rfl) ?_
    refine ⟨ret_bool ?_, M.below⟩; clear S M
    unfold Ope.may; refine (if_neg ?_).symm; simp [*]
  clear S; intro h22 S
  refine st_y S rfl rfl rfl (y_loadAgg (cs := [_, _, _, _, _, _, _, _, _, _, _, _, _, _, _, _, _, _, _, _, _, _, _, _, _, _, _, _, _, _, _, _, _, _, _, _, _]) S (by kernel_rfl) rfl rfl (M.cellsAt (k := 37) 0 rfl rfl)) ?_; clear S a; intro a S
  refine st_call (xs := [(Operand.tmp 23)]) S (enters_of Try.func49 (by decide) rfl) rfl rfl rfl (touchedMay_any o _) ?_
  rintro _ w4 ⟨rfl, hK⟩; refine ⟨_, rfl, ?_⟩; clear S a; intro a S; replace M := M.grow hK
  refine st_go [1, 1] S rfl (by kernel_rfl) ?_; clear S a; intro a S
  replace S := S.sub [(0, _), (1, _), (2, _), (4, _), (26, _)] rfl
  refine nxC ?_
  refine st_if (t := 26) S rfl ?_ ?_
  · clear S; intro h26 S
    refine st_condT S rfl ?_
    refine nxD ?_
    refine st_go [1] S rfl (by kernel_rfl) ?_; clear S a; intro a S
    refine nxC ?_
    refine wp_ret ?_
    refine then_ret ?_
    refine end_one S rfl (res_tmp rfl) ?_
    refine ⟨ret_bool ?_, M.below⟩; clear S M
    unfold Ope.may; refine (if_neg ?_).symm; simp [*]
  clear S; intro h26 S
  refine st_condF S rfl ?_
  refine wp_skip ?_
  refine then_normal ?_
  refine wp_seq ?_
  refine nxD ?_
  refine st_run [6, 1, 1, 1] S M rfl (by kernel_rfl) ?_; clear S a; intro a S
  refine st_fi (t := 30) S rfl ?_ ?_
  · clear S; intro h30 S
    refine st_go [0, 0, 0, 0, 0, 1] S rfl (by kernel_rfl) ?_; clear S a; intro a S
    refine nxC ?_
    refine st_condF S rfl ?_
    refine wp_skip ?_
    refine then_normal ?_
    refine wp_seq ?_
    refine nxD ?_
    refine st_run [6, 1] S M rfl (by kernel_rfl) ?_; clear S a; intro a S
    refine nxC ?_
    refine wp_block ?_
    refine nxD ?_
    refine st_go [1, 1] S rfl (by kernel_rfl) ?_; clear S a; intro a S
    refine nxC ?_
    refine st_if (t := 39) S rfl ?_ ?_
    · clear S; intro h39 S
      refine st_condT S rfl ?_
      refine nxD ?_
      refine st_run [13, 1, 1, 1] S M rfl (by kernel_rfl) ?_; clear S a; intro a S
      replace S := S.sub [(0, _), (1, _), (2, _), (26, _), (36, _), (38, _), (39, _), (4, _)] rfl
      refine nxC ?_
      refine wp_ret ?_
      refine block_ret ?_
      refine then_ret ?_
      refine end_one S rfl (res_tmp rfl) ?_
      refine ⟨ret_bool ?_, M.below⟩; clear S M
      have hA : (o.nm.named && o.nm.inc == inc && decide (1 ≤ o.c ∧ o.c ≤ 1048576) && o.touchedMay) = true := by simp [*]
      unfold Ope.may; rw [if_pos hA]; clear hA
      first
        | (exfalso; omega)
        | (refine (?_ : _ = _).trans (if_neg ?_).symm
           rotate_left
           · rintro ⟨q1, q2⟩
             first
               | omega
               | (rw [q2] at h36; exact absurd h36 (by decide))
           rw [if_pos (by omega)])
    clear S; intro h39 S
    refine st_condF S rfl ?_
    refine nxD ?_
    refine st_go [1, 1] S rfl (by kernel_rfl) ?_; clear S a; intro a S
    refine nxC ?_
    refine st_fi (t := 44) S rfl ?_ ?_
    · clear S; intro h44 S
      refine st_condF S rfl ?_
      refine nxD ?_
      refine st_go [1, 1] S rfl (by kernel_rfl) ?_; clear S a; intro a S
      refine nxC ?_
      refine st_fi (t := 68) S rfl ?_ ?_
      · clear S; intro h68 S
        refine st_condF S rfl ?_
        refine nxD ?_
        refine st_go [1, 1] S rfl (by kernel_rfl) ?_; clear S a; intro a S
        replace S := S.sub [(0, _), (1, _), (2, _), (4, _), (26, _), (36, _), (38, _), (39, _), (44, _), (68, _), (86, _)] rfl
        refine nxC ?_
        refine st_fi (t := 86) S rfl ?_ ?_
        · clear S; intro h86 S
          refine st_condF S rfl ?_
          refine wp_skip ?_
          refine block_normal ?_
          refine nxE ?_
          refine st_go [1] S rfl (by kernel_rfl) ?_; clear S a; intro a S
          refine nxC ?_
          refine wp_ret ?_
          refine end_one S rfl (res_tmp rfl) ?_
          refine ⟨ret_bool ?_, M.below⟩; clear S M
          have hA : (o.nm.named && o.nm.inc == inc && decide (1 ≤ o.c ∧ o.c ≤ 1048576) && o.touchedMay) = true := by simp [*]
          unfold Ope.may; rw [if_pos hA]; clear hA
          first
            | (exfalso; omega)
            | (refine (?_ : _ = _).trans (if_neg ?_).symm
               rotate_left
               · rintro ⟨q1, q2⟩
                 first
                   | omega
                   | (rw [q2] at h36; exact absurd h36 (by decide))
               rw [if_neg (by omega), if_neg (by omega), if_neg (by omega), if_neg (by omega)])
        clear S; intro h86 S
        refine st_condT S rfl ?_
        refine nxD ?_
        refine st_run [13, 1, 1, 1] S M rfl (by kernel_rfl) ?_; clear S a; intro a S
        refine st_fi (t := 91) S rfl ?_ ?_
        · clear S; intro h91 S
          refine st_go [0, 0, 0, 0, 0, 0, 0, 1, 1] S rfl (by kernel_rfl) ?_; clear S a; intro a S
          refine nxC ?_
          refine wp_ret ?_
          refine block_ret ?_
          refine then_ret ?_
          refine end_one S rfl (res_tmp rfl) ?_
          refine ⟨ret_bool ?_, M.below⟩; clear S M
          have hA : (o.nm.named && o.nm.inc == inc && decide (1 ≤ o.c ∧ o.c ≤ 1048576) && o.touchedMay) = true := by simp [*]
          unfold Ope.may; rw [if_pos hA]; clear hA
          first
            | (exfalso; omega)
            | (refine (?_ : _ = _).trans (if_neg ?_).symm
               rotate_left
               · rintro ⟨q1, q2⟩
                 first
                   | omega
                   | (rw [q2] at h36; exact absurd h36 (by decide))
               rw [if_neg (by omega), if_neg (by omega), if_neg (by omega), if_pos (by omega)]
               rcases Bool.eq_false_or_eq_true (o.at_ == 0) with hd | hd
               · rw [hd]
                 simp at hd
                 unfold andV
                 first
                   | (exfalso; omega)
                   | (rw [Bool.true_and]; done)
               · rw [hd]
                 simp at hd
                 first
                   | (exfalso; omega)
                   | rfl)
        clear S; intro h91 S
        refine st_run [7, 1, 7, 1] S M rfl (by kernel_rfl) ?_; clear S a; intro a S
        (first | refine st_y S rfl rfl rfl (y_subN S rfl rfl (by omega)) ?_ | refine st_y S rfl rfl rfl (y_int S rfl rfl rfl) ?_); clear S a; intro a S
        refine st_y S rfl rfl rfl (y_int S rfl rfl rfl) ?_; clear S a; intro a S
        refine st_go [1, 1, 1] S rfl (by kernel_rfl) ?_; clear S a; intro a S
        refine nxC ?_
        refine wp_ret ?_
        refine block_ret ?_
        refine then_ret ?_
        refine end_one S rfl (res_tmp rfl) ?_
        refine ⟨ret_bool ?_, M.below⟩; clear S M
        have hA : (o.nm.named && o.nm.inc == inc && decide (1 ≤ o.c ∧ o.c ≤ 1048576) && o.touchedMay) = true := by simp [*]
        unfold Ope.may; rw [if_pos hA]; clear hA
        first
          | (exfalso; omega)
          | (refine (?_ : _ = _).trans (if_neg ?_).symm
             rotate_left
             · rintro ⟨q1, q2⟩
               first
                 | omega
                 | (rw [q2] at h36; exact absurd h36 (by decide))
             rw [if_neg (by omega), if_neg (by omega), if_neg (by omega), if_pos (by omega)]
             rcases Bool.eq_false_or_eq_true (o.at_ == 0) with hd | hd
             · rw [hd]
               simp at hd
               unfold andV
               first
                 | (exfalso; omega)
                 | (rw [Bool.true_and]; done)
             · rw [hd]
               simp at hd
               first
                 | (exfalso; omega)
                 | rfl)
      clear S; intro h68 S
      refine st_condT S rfl ?_
      refine wp_seq ?_
      refine wp_quiet M (by kernel_rfl) (by kernel_rfl) ?_
      refine qt_y S rfl rfl rfl (fun w M => y_fieldAddr (k := 12) S (by kernel_rfl) rfl) ?_; clear S a; intro a S
      refine qt_y S rfl rfl rfl (fun w M => y_load S (by kernel_rfl) rfl (M.cell 0 rfl rfl)) ?_; clear S a; intro a S
      refine qt_y S rfl rfl rfl (fun w M => y_int S rfl rfl rfl) ?_; clear S a; intro a S
      refine qt_y S rfl rfl rfl (fun w M => y_move S rfl) ?_; clear S a; intro a S
      refine st_fi (t := 73) S rfl ?_ ?_
      · clear S; intro h73 S
        refine qt_skip 3 S rfl ?_; clear S a; intro a S
        refine qt_y S rfl rfl rfl (fun w M => y_pickF S rfl rfl) ?_; clear S a; intro a S
        refine qt_y S rfl rfl rfl (fun w M => y_move S rfl) ?_; clear S a; intro a S
        refine qt_skip 6 S rfl ?_; clear S a; intro a S
        refine qt_y S rfl rfl rfl (fun w M => y_pickF S rfl rfl) ?_; clear S a; intro a S
        refine qt_y S rfl rfl rfl (fun w M => y_assign S rfl) ?_; clear S a; intro a S
        refine wpQuiet_nil ?_; clear M; intro w15 M
        replace S := S.sub [(0, _), (1, _), (2, _), (26, _), (36, _), (38, _), (39, _), (44, _), (68, _), (4, _)] rfl
        refine then_normal ?_
        refine wp_ret ?_
        refine block_ret ?_
        refine then_ret ?_
        refine end_one S rfl (res_tmp rfl) ?_
        refine ⟨ret_bool ?_, M.below⟩; clear S M
        have hA : (o.nm.named && o.nm.inc == inc && decide (1 ≤ o.c ∧ o.c ≤ 1048576) && o.touchedMay) = true := by simp [*]
        unfold Ope.may; rw [if_pos hA]; clear hA
        first
          | (exfalso; omega)
          | (refine (?_ : _ = _).trans (if_neg ?_).symm
             rotate_left
             · rintro ⟨q1, q2⟩
               first
                 | omega
                 | (rw [q2] at h36; exact absurd h36 (by decide))
             rw [if_neg (by omega), if_neg (by omega), if_pos (by omega)]
             rcases Bool.eq_false_or_eq_true (decide (1 ≤ o.at_ ∧ o.at_ ≤ 4)) with hd | hd
             · rw [hd]
               simp only [decide_eq_true_eq] at hd
               first
                 | (exfalso; omega)
                 | (simp; done)
             · rw [hd]
               simp only [decide_eq_false_iff_not] at hd
               first
                 | rfl
                 | (exfalso; omega))
      clear S; intro h73 S
      refine qt_y S rfl rfl rfl (fun w M => y_fieldAddr (k := 12) S (by kernel_rfl) rfl) ?_; clear S a; intro a S
      refine qt_y S rfl rfl rfl (fun w M => y_load S (by kernel_rfl) rfl (M.cell 0 rfl rfl)) ?_; clear S a; intro a S
      refine qt_y S rfl rfl rfl (fun w M => y_int S rfl rfl rfl) ?_; clear S a; intro a S
      refine qt_y S rfl rfl rfl (fun w M => y_pickT S rfl rfl) ?_; clear S a; intro a S
      refine qt_y S rfl rfl rfl (fun w M => y_move S rfl) ?_; clear S a; intro a S
      refine st_fi (t := 78) S rfl ?_ ?_
      · clear S; intro h78 S
        refine qt_skip 6 S rfl ?_; clear S a; intro a S
        refine qt_y S rfl rfl rfl (fun w M => y_pickF S rfl rfl) ?_; clear S a; intro a S
        refine qt_y S rfl rfl rfl (fun w M => y_assign S rfl) ?_; clear S a; intro a S
        refine wpQuiet_nil ?_; clear M; intro w14 M
        replace S := S.sub [(0, _), (1, _), (2, _), (26, _), (36, _), (38, _), (39, _), (44, _), (68, _), (4, _)] rfl
        refine then_normal ?_
        refine wp_ret ?_
        refine block_ret ?_
        refine then_ret ?_
        refine end_one S rfl (res_tmp rfl) ?_
        refine ⟨ret_bool ?_, M.below⟩; clear S M
        have hA : (o.nm.named && o.nm.inc == inc && decide (1 ≤ o.c ∧ o.c ≤ 1048576) && o.touchedMay) = true := by simp [*]
        unfold Ope.may; rw [if_pos hA]; clear hA
        first
          | (exfalso; omega)
          | (refine (?_ : _ = _).trans (if_neg ?_).symm
             rotate_left
             · rintro ⟨q1, q2⟩
               first
                 | omega
                 | (rw [q2] at h36; exact absurd h36 (by decide))
             rw [if_neg (by omega), if_neg (by omega), if_pos (by omega)]
             rcases Bool.eq_false_or_eq_true (decide (1 ≤ o.at_ ∧ o.at_ ≤ 4)) with hd | hd
             · rw [hd]
               simp only [decide_eq_true_eq] at hd
               first
                 | (exfalso; omega)
                 | (simp; done)
             · rw [hd]
               simp only [decide_eq_false_iff_not] at hd
               first
                 | rfl
                 | (exfalso; omega))
      clear S; intro h78 S
      refine qt_y S rfl rfl rfl (fun w M => y_fieldAddr (k := 6) S (by kernel_rfl) rfl) ?_; clear S a; intro a S
      refine qt_y S rfl rfl rfl (fun w M => y_load S (by kernel_rfl) rfl (M.cell 0 rfl rfl)) ?_; clear S a; intro a S
      refine qt_y S rfl rfl rfl (fun w M => y_fieldAddr (k := 12) S (by kernel_rfl) rfl) ?_; clear S a; intro a S
      refine qt_y S rfl rfl rfl (fun w M => y_load S (by kernel_rfl) rfl (M.cell 0 rfl rfl)) ?_; clear S a; intro a S
      (first | refine qt_y S rfl rfl rfl (fun w M => y_shlN S rfl rfl (by omega) (by exact shl_bd (by omega))) ?_ | refine qt_y S rfl rfl rfl (fun w M => y_shl S rfl rfl (by omega)) ?_); clear S a; intro a S
      refine qt_y S rfl rfl rfl (fun w M => y_int S rfl rfl rfl) ?_; clear S a; intro a S
      refine qt_y S rfl rfl rfl (fun w M => y_pickT S rfl rfl) ?_; clear S a; intro a S
      refine qt_y S rfl rfl rfl (fun w M => y_assign S rfl) ?_; clear S a; intro a S
      refine wpQuiet_nil ?_; clear M; intro w13 M
      replace S := S.sub [(0, _), (1, _), (2, _), (26, _), (36, _), (38, _), (39, _), (44, _), (68, _), (4, _)] rfl
      refine then_normal ?_
      refine wp_ret ?_
      refine block_ret ?_
      refine then_ret ?_
      refine end_one S rfl (res_tmp rfl) ?_
      refine ⟨ret_bool ?_, M.below⟩; clear S M
      have hA : (o.nm.named && o.nm.inc == inc && decide (1 ≤ o.c ∧ o.c ≤ 1048576) && o.touchedMay) = true := by simp [*]
      unfold Ope.may; rw [if_pos hA]; clear hA
      first
        | (exfalso; omega)
        | (refine (?_ : _ = _).trans (if_neg ?_).symm
           rotate_left
           · rintro ⟨q1, q2⟩
             first
               | omega
               | (rw [q2] at h36; exact absurd h36 (by decide))
           rw [if_neg (by omega), if_neg (by omega), if_pos (by omega)]
           rcases Bool.eq_false_or_eq_true (decide (1 ≤ o.at_ ∧ o.at_ ≤ 4)) with hd | hd
           · rw [hd]
             simp only [decide_eq_true_eq] at hd
             first
               | (exfalso; omega)
               | (simp; done)
           · rw [hd]
             simp only [decide_eq_false_iff_not] at hd
             first
               | rfl
               | (exfalso; omega))
    clear S; intro h44 S
    refine st_condT S rfl ?_
    refine wp_seq ?_
    refine wp_regionK [] #[false, false, false, false, false, false, false, false, false, false, false, false, false, false, false, false, false, false, false, false, false, false, false] rfl M (by kernel_rfl) ?_; clear M; intro w11 M
    refine k_pure 0 S rfl (fun w => y_fieldAddr (k := 12) S (by kernel_rfl) rfl) ?_; clear S a; intro a S
    refine k_read 1 S rfl (fun w hW => have M := M.grow hW; y_load S (by kernel_rfl) rfl (M.cell 0 rfl rfl)) ?_; clear S a; intro a S
    refine k_pure 2 S rfl (fun w => y_int S rfl rfl rfl) ?_; clear S a; intro a S
    refine k_pure 3 S rfl (fun w => y_move S rfl) ?_; clear S a; intro a S
    refine st_fi (t := 49) S rfl ?_ ?_
    · clear S; intro h49 S
      refine k_no 4 S rfl ?_; clear S a; intro a S
      refine k_no 5 S rfl ?_; clear S a; intro a S
      refine k_no 6 S rfl ?_; clear S a; intro a S
      refine k_pure 7 S rfl (fun w => y_pickF S rfl rfl) ?_; clear S a; intro a S
      refine k_pure 8 S rfl (fun w => y_move S rfl) ?_; clear S a; intro a S
      refine k_no 9 S rfl ?_; clear S a; intro a S
      refine k_no 10 S rfl ?_; clear S a; intro a S
      refine k_no 11 S rfl ?_; clear S a; intro a S
      refine k_no 12 S rfl ?_; clear S a; intro a S
      refine k_no 13 S rfl ?_; clear S a; intro a S
      refine k_no 14 S rfl ?_; clear S a; intro a S
      refine k_no 15 S rfl ?_; clear S a; intro a S
      refine k_pure 16 S rfl (fun w => y_pickF S rfl rfl) ?_; clear S a; intro a S
      refine k_pure 17 S rfl (fun w => y_move S rfl) ?_; clear S a; intro a S
      refine k_no 18 S rfl ?_; clear S a; intro a S
      refine k_no 19 S rfl ?_; clear S a; intro a S
      refine k_no 20 S rfl ?_; clear S a; intro a S
      refine k_pure 21 S rfl (fun w => y_pickF S rfl rfl) ?_; clear S a; intro a S
      refine k_pure 22 S rfl (fun w => y_assign S rfl) ?_; clear S a; intro a S
      refine k_end (by kernel_rfl) ?_
      replace S := S.sub [(0, _), (1, _), (2, _), (26, _), (36, _), (38, _), (39, _), (44, _), (4, _)] rfl
      refine then_normal ?_
      refine wp_ret ?_
      refine block_ret ?_
      refine then_ret ?_
      refine end_one S rfl (res_tmp rfl) ?_
      refine ⟨ret_bool ?_, M.below⟩; clear S M
      have hA : (o.nm.named && o.nm.inc == inc && decide (1 ≤ o.c ∧ o.c ≤ 1048576) && o.touchedMay) = true := by simp [*]
      unfold Ope.may; rw [if_pos hA]; clear hA
      first
        | (exfalso; omega)
        | (refine (?_ : _ = _).trans (if_neg ?_).symm
           rotate_left
           · rintro ⟨q1, q2⟩
             first
               | omega
               | (rw [q2] at h36; exact absurd h36 (by decide))
           rw [if_neg (by omega), if_pos (by omega)]
           rcases Bool.eq_false_or_eq_true (decide (1 ≤ o.at_ ∧ o.at_ ≤ 4)) with hd | hd
           · rw [hd]
             simp only [decide_eq_true_eq] at hd
             rcases Bool.eq_false_or_eq_true (hasBit o.sh o.at_.toNat) with hb | hb
             · rw [hb]
               first
                 | (simp; done)
                 | (exfalso; unfold hasBit andV at hb; simp at hb; simp at h63; exact hb h63)
                 | (exfalso; omega)
             · rw [hb]
               first
                 | (simp; done)
                 | (exfalso; unfold hasBit andV at hb; simp at hb; simp at h63; exact h63 hb)
                 | (exfalso; omega)
           · rw [hd]
             simp only [decide_eq_false_iff_not] at hd
             first
               | rfl
               | (exfalso; omega))
    clear S; intro h49 S
    refine k_pure 4 S rfl (fun w => y_fieldAddr (k := 12) S (by kernel_rfl) rfl) ?_; clear S a; intro a S
    refine k_read 5 S rfl (fun w hW => have M := M.grow hW; y_load S (by kernel_rfl) rfl (M.cell 0 rfl rfl)) ?_; clear S a; intro a S
    refine k_pure 6 S rfl (fun w => y_int S rfl rfl rfl) ?_; clear S a; intro a S
    refine k_pure 7 S rfl (fun w => y_pickT S rfl rfl) ?_; clear S a; intro a S
    refine k_pure 8 S rfl (fun w => y_move S rfl) ?_; clear S a; intro a S
    refine st_fi (t := 54) S rfl ?_ ?_
    · clear S; intro h54 S
      refine k_no 9 S rfl ?_; clear S a; intro a S
      refine k_no 10 S rfl ?_; clear S a; intro a S
      refine k_no 11 S rfl ?_; clear S a; intro a S
      refine k_no 12 S rfl ?_; clear S a; intro a S
      refine k_no 13 S rfl ?_; clear S a; intro a S
      refine k_no 14 S rfl ?_; clear S a; intro a S
      refine k_no 15 S rfl ?_; clear S a; intro a S
      refine k_pure 16 S rfl (fun w => y_pickF S rfl rfl) ?_; clear S a; intro a S
      refine k_pure 17 S rfl (fun w => y_move S rfl) ?_; clear S a; intro a S
      refine k_no 18 S rfl ?_; clear S a; intro a S
      refine k_no 19 S rfl ?_; clear S a; intro a S
      refine k_no 20 S rfl ?_; clear S a; intro a S
      refine k_pure 21 S rfl (fun w => y_pickF S rfl rfl) ?_; clear S a; intro a S
      refine k_pure 22 S rfl (fun w => y_assign S rfl) ?_; clear S a; intro a S
      refine k_end (by kernel_rfl) ?_
      replace S := S.sub [(0, _), (1, _), (2, _), (26, _), (36, _), (38, _), (39, _), (44, _), (4, _)] rfl
      refine then_normal ?_
      refine wp_ret ?_
      refine block_ret ?_
      refine then_ret ?_
      refine end_one S rfl (res_tmp rfl) ?_
      refine ⟨ret_bool ?_, M.below⟩; clear S M
      have hA : (o.nm.named && o.nm.inc == inc && decide (1 ≤ o.c ∧ o.c ≤ 1048576) && o.touchedMay) = true := by simp [*]
      unfold Ope.may; rw [if_pos hA]; clear hA
      first
        | (exfalso; omega)
        | (refine (?_ : _ = _).trans (if_neg ?_).symm
           rotate_left
           · rintro ⟨q1, q2⟩
             first
               | omega
               | (rw [q2] at h36; exact absurd h36 (by decide))
           rw [if_neg (by omega), if_pos (by omega)]
           rcases Bool.eq_false_or_eq_true (decide (1 ≤ o.at_ ∧ o.at_ ≤ 4)) with hd | hd
           · rw [hd]
             simp only [decide_eq_true_eq] at hd
             rcases Bool.eq_false_or_eq_true (hasBit o.sh o.at_.toNat) with hb | hb
             · rw [hb]
               first
                 | (simp; done)
                 | (exfalso; unfold hasBit andV at hb; simp at hb; simp at h63; exact hb h63)
                 | (exfalso; omega)
             · rw [hb]
               first
                 | (simp; done)
                 | (exfalso; unfold hasBit andV at hb; simp at hb; simp at h63; exact h63 hb)
                 | (exfalso; omega)
           · rw [hd]
             simp only [decide_eq_false_iff_not] at hd
             first
               | rfl
               | (exfalso; omega))
    clear S; intro h54 S
    refine k_pure 9 S rfl (fun w => y_fieldAddr (k := 6) S (by kernel_rfl) rfl) ?_; clear S a; intro a S
    refine k_read 10 S rfl (fun w hW => have M := M.grow hW; y_load S (by kernel_rfl) rfl (M.cell 0 rfl rfl)) ?_; clear S a; intro a S
    refine k_pure 11 S rfl (fun w => y_fieldAddr (k := 12) S (by kernel_rfl) rfl) ?_; clear S a; intro a S
    refine k_read 12 S rfl (fun w hW => have M := M.grow hW; y_load S (by kernel_rfl) rfl (M.cell 0 rfl rfl)) ?_; clear S a; intro a S
    (first | refine k_pure 13 S rfl (fun w => y_shlN S rfl rfl (by omega) (by exact shl_bd (by omega))) ?_ | refine k_pure 13 S rfl (fun w => y_shl S rfl rfl (by omega)) ?_); clear S a; intro a S
    refine k_pure 14 S rfl (fun w => y_int S rfl rfl rfl) ?_; clear S a; intro a S
    refine k_pure 15 S rfl (fun w => y_int S rfl rfl rfl) ?_; clear S a; intro a S
    refine k_pure 16 S rfl (fun w => y_pickT S rfl rfl) ?_; clear S a; intro a S
    refine k_pure 17 S rfl (fun w => y_move S rfl) ?_; clear S a; intro a S
    refine st_fi (t := 63) S rfl ?_ ?_
    · clear S; intro h63 S
      refine k_no 18 S rfl ?_; clear S a; intro a S
      refine k_no 19 S rfl ?_; clear S a; intro a S
      refine k_no 20 S rfl ?_; clear S a; intro a S
      refine k_pure 21 S rfl (fun w => y_pickF S rfl rfl) ?_; clear S a; intro a S
      refine k_pure 22 S rfl (fun w => y_assign S rfl) ?_; clear S a; intro a S
      refine k_end (by kernel_rfl) ?_
      replace S := S.sub [(0, _), (1, _), (2, _), (26, _), (36, _), (38, _), (39, _), (44, _), (4, _)] rfl
      refine then_normal ?_
      refine wp_ret ?_
      refine block_ret ?_
      refine then_ret ?_
      refine end_one S rfl (res_tmp rfl) ?_
      refine ⟨ret_bool ?_, M.below⟩; clear S M
      have hA : (o.nm.named && o.nm.inc == inc && decide (1 ≤ o.c ∧ o.c ≤ 1048576) && o.touchedMay) = true := by simp [*]
      unfold Ope.may; rw [if_pos hA]; clear hA
      first
        | (exfalso; omega)
        | (refine (?_ : _ = _).trans (if_neg ?_).symm
           rotate_left
           · rintro ⟨q1, q2⟩
             first
               | omega
               | (rw [q2] at h36; exact absurd h36 (by decide))
           rw [if_neg (by omega), if_pos (by omega)]
           rcases Bool.eq_false_or_eq_true (decide (1 ≤ o.at_ ∧ o.at_ ≤ 4)) with hd | hd
           · rw [hd]
             simp only [decide_eq_true_eq] at hd
             rcases Bool.eq_false_or_eq_true (hasBit o.sh o.at_.toNat) with hb | hb
             · rw [hb]
               first
                 | (simp; done)
                 | (exfalso; unfold hasBit andV at hb; simp at hb; simp at h63; exact hb h63)
                 | (exfalso; omega)
             · rw [hb]
               first
                 | (simp; done)
                 | (exfalso; unfold hasBit andV at hb; simp at hb; simp at h63; exact h63 hb)
                 | (exfalso; omega)
           · rw [hd]
             simp only [decide_eq_false_iff_not] at hd
             first
               | rfl
               | (exfalso; omega))
    clear S; intro h63 S
    refine k_read 18 S rfl (fun w hW => have M := M.grow hW; y_loadAgg (cs := [_, _, _, _, _, _, _, _, _, _, _, _, _, _, _, _, _, _, _, _, _, _, _, _, _, _, _, _, _, _, _, _, _, _, _, _, _]) S (by kernel_rfl) rfl rfl (M.cellsAt (k := 37) 0 rfl rfl)) ?_; clear S a; intro a S
    refine k_pure 19 S rfl (fun w => y_move S rfl) ?_; clear S a; intro a S
    refine k_one 20 rfl (by kernel_rfl) ?_
    refine st_call (xs := [(Operand.tmp 64), (Operand.tmp 65)]) S (enters_of Try.func50 (by decide) rfl) rfl rfl rfl (execMay_any o inc _ (by omega)) ?_
    rintro _ w12 ⟨rfl, hK⟩; refine ⟨_, rfl, ?_⟩; clear S a; intro a S; replace M := M.grow hK
    refine wpList_nil ?_; refine then_normal ?_; refine ⟨fun _ => hK, ?_⟩
    refine k_pure 21 S rfl (fun w => y_pickT S rfl rfl) ?_; clear S a; intro a S
    refine k_pure 22 S rfl (fun w => y_assign S rfl) ?_; clear S a; intro a S
    refine k_end (by kernel_rfl) ?_
    replace S := S.sub [(0, _), (1, _), (2, _), (26, _), (36, _), (38, _), (39, _), (44, _), (4, _)] rfl
    refine then_normal ?_
    refine wp_ret ?_
    refine block_ret ?_
    refine then_ret ?_
    refine end_one S rfl (res_tmp rfl) ?_
    refine ⟨ret_bool ?_, M.below⟩; clear S M
    have hA : (o.nm.named && o.nm.inc == inc && decide (1 ≤ o.c ∧ o.c ≤ 1048576) && o.touchedMay) = true := by simp [*]
    unfold Ope.may; rw [if_pos hA]; clear hA
    first
      | (exfalso; omega)
      | (refine (?_ : _ = _).trans (if_neg ?_).symm
         rotate_left
         · rintro ⟨q1, q2⟩
           first
             | omega
             | (rw [q2] at h36; exact absurd h36 (by decide))
         rw [if_neg (by omega), if_pos (by omega)]
         rcases Bool.eq_false_or_eq_true (decide (1 ≤ o.at_ ∧ o.at_ ≤ 4)) with hd | hd
         · rw [hd]
           simp only [decide_eq_true_eq] at hd
           rcases Bool.eq_false_or_eq_true (hasBit o.sh o.at_.toNat) with hb | hb
           · rw [hb]
             first
               | (simp; done)
               | (exfalso; unfold hasBit andV at hb; simp at hb; simp at h63; exact hb h63)
               | (exfalso; omega)
           · rw [hb]
             first
               | (simp; done)
               | (exfalso; unfold hasBit andV at hb; simp at hb; simp at h63; exact h63 hb)
               | (exfalso; omega)
         · rw [hd]
           simp only [decide_eq_false_iff_not] at hd
           first
             | rfl
             | (exfalso; omega))
  clear S; intro h30 S
  refine st_go [14] S rfl (by kernel_rfl) ?_; clear S a; intro a S
  refine st_y S rfl rfl rfl (y_loadAgg (cs := [_, _, _, _, _, _, _, _, _, _, _, _, _, _, _, _, _, _, _, _, _, _, _, _]) S (by kernel_rfl) rfl rfl (M.cellsAt (k := 24) 0 rfl rfl)) ?_; clear S a; intro a S
  refine st_y S rfl rfl rfl (y_build (ps := []) (pl := [(0, 1), (1, 1), (2, 1), (3, 1), (4, 1), (5, 3), (8, 1), (9, 1), (10, 1), (11, 8), (19, 1), (20, 1), (21, 1), (22, 1), (23, 1)]) (z := [.int .i8 0, .int .i64 0, .int .i64 0, .int .i64 0, .int .i64 0, .int .i64 0, .int .i64 0, .int .i64 0, .int .i64 0, .int .i8 0, .int .i64 0, .int .u8 0, .int .u8 0, .int .u8 0, .int .u8 0, .int .u8 0, .int .u8 0, .int .u8 0, .int .u8 0, .int .i64 0, .bool false, .int .i64 0, .int .i64 0, .slice none 0 0]) (cs := msgL zMg) S (by kernel_rfl) rfl (by kernel_rfl)) ?_; clear S a; intro a S
  refine st_call (xs := [(Operand.tmp 32), (Operand.tmp 33)]) S (enters_of Try.func43 (by decide) rfl) rfl rfl rfl (sameM_any o.ex zMg (.slice none 0 0) (.slice none 0 0) [] [] _ (Rd.nil _ _ _ _) (Rd.nil _ _ _ _)) ?_
  rintro _ w5 ⟨rfl, hK⟩; refine ⟨_, rfl, ?_⟩; clear S a; intro a S; replace M := M.grow hK
  refine st_go [1, 1] S rfl (by kernel_rfl) ?_; clear S a; intro a S
  refine nxC ?_
  refine st_if (t := 36) S rfl ?_ ?_
  · clear S; intro h36 S
    refine st_condT S rfl ?_
    refine nxD ?_
    refine st_go [1] S rfl (by kernel_rfl) ?_; clear S a; intro a S
    refine nxC ?_
    refine wp_ret ?_
    refine then_ret ?_
    refine end_one S rfl (res_tmp rfl) ?_
    refine ⟨ret_bool ?_, M.below⟩; clear S M
    have hA : (o.nm.named && o.nm.inc == inc && decide (1 ≤ o.c ∧ o.c ≤ 1048576) && o.touchedMay) = true := by simp [*]
    unfold Ope.may; rw [if_pos hA]; clear hA
    exact (if_pos ⟨by assumption, by assumption⟩).symm
  clear S; intro h36 S
  refine st_condF S rfl ?_
  refine wp_skip ?_
  refine then_normal ?_
  refine wp_seq ?_
  refine nxD ?_
  refine st_run [6, 1] S M rfl (by kernel_rfl) ?_; clear S a; intro a S
  refine nxC ?_
  refine wp_block ?_
  refine nxD ?_
  refine st_go [1, 1] S rfl (by kernel_rfl) ?_; clear S a; intro a S
  refine nxC ?_
  refine st_if (t := 39) S rfl ?_ ?_
  · clear S; intro h39 S
    refine st_condT S rfl ?_
    refine nxD ?_
    refine st_run [13, 1, 1, 1] S M rfl (by kernel_rfl) ?_; clear S a; intro a S
    replace S := S.sub [(0, _), (1, _), (2, _), (26, _), (36, _), (38, _), (39, _), (4, _)] rfl
    refine nxC ?_
    refine wp_ret ?_
    refine block_ret ?_
    refine then_ret ?_
    refine end_one S rfl (res_tmp rfl) ?_
    refine ⟨ret_bool ?_, M.below⟩; clear S M
    have hA : (o.nm.named && o.nm.inc == inc && decide (1 ≤ o.c ∧ o.c ≤ 1048576) && o.touchedMay) = true := by simp [*]
    unfold Ope.may; rw [if_pos hA]; clear hA
    first
      | (exfalso; omega)
      | (refine (?_ : _ = _).trans (if_neg ?_).symm
         rotate_left
         · rintro ⟨q1, q2⟩
           first
             | omega
             | (rw [q2] at h36; exact absurd h36 (by decide))
         rw [if_pos (by omega)])
  clear S; intro h39 S
  refine st_condF S rfl ?_
  refine nxD ?_
  refine st_go [1, 1] S rfl (by kernel_rfl) ?_; clear S a; intro a S
  refine nxC ?_
  refine st_fi (t := 44) S rfl ?_ ?_
  · clear S; intro h44 S
    refine st_condF S rfl ?_
    refine nxD ?_
    refine st_go [1, 1] S rfl (by kernel_rfl) ?_; clear S a; intro a S
    refine nxC ?_
    refine st_fi (t := 68) S rfl ?_ ?_
    · clear S; intro h68 S
      refine st_condF S rfl ?_
      refine nxD ?_
      refine st_go [1, 1] S rfl (by kernel_rfl) ?_; clear S a; intro a S
      replace S := S.sub [(0, _), (1, _), (2, _), (4, _), (26, _), (36, _), (38, _), (39, _), (44, _), (68, _), (86, _)] rfl
      refine nxC ?_
      refine st_fi (t := 86) S rfl ?_ ?_
      · clear S; intro h86 S
        refine st_condF S rfl ?_
        refine wp_skip ?_
        refine block_normal ?_
        refine nxE ?_
        refine st_go [1] S rfl (by kernel_rfl) ?_; clear S a; intro a S
        refine nxC ?_
        refine wp_ret ?_
        refine end_one S rfl (res_tmp rfl) ?_
        refine ⟨ret_bool ?_, M.below⟩; clear S M
        have hA : (o.nm.named && o.nm.inc == inc && decide (1 ≤ o.c ∧ o.c ≤ 1048576) && o.touchedMay) = true := by simp [*]
        unfold Ope.may; rw [if_pos hA]; clear hA
        first
          | (exfalso; omega)
          | (refine (?_ : _ = _).trans (if_neg ?_).symm
             rotate_left
             · rintro ⟨q1, q2⟩
               first
                 | omega
                 | (rw [q2] at h36; exact absurd h36 (by decide))
             rw [if_neg (by omega), if_neg (by omega), if_neg (by omega), if_neg (by omega)])
      clear S; intro h86 S
      refine st_condT S rfl ?_
      refine nxD ?_
      refine st_run [13, 1, 1, 1] S M rfl (by kernel_rfl) ?_; clear S a; intro a S
      refine st_fi (t := 91) S rfl ?_ ?_
      · clear S; intro h91 S
        refine st_go [0, 0, 0, 0, 0, 0, 0, 1, 1] S rfl (by kernel_rfl) ?_; clear S a; intro a S
        refine nxC ?_
        refine wp_ret ?_
        refine block_ret ?_
        refine then_ret ?_
        refine end_one S rfl (res_tmp rfl) ?_
        refine ⟨ret_bool ?_, M.below⟩; clear S M
        have hA : (o.nm.named && o.nm.inc == inc && decide (1 ≤ o.c ∧ o.c ≤ 1048576) && o.touchedMay) = true := by simp [*]
        unfold Ope.may; rw [if_pos hA]; clear hA
        first
          | (exfalso; omega)
          | (refine (?_ : _ = _).trans (if_neg ?_).symm
             rotate_left
             · rintro ⟨q1, q2⟩
               first
                 | omega
                 | (rw [q2] at h36; exact absurd h36 (by decide))
             rw [if_neg (by omega), if_neg (by omega), if_neg (by omega), if_pos (by omega)]
             rcases Bool.eq_false_or_eq_true (o.at_ == 0) with hd | hd
             · rw [hd]
               simp at hd
               unfold andV
               first
                 | (exfalso; omega)
                 | (rw [Bool.true_and]; done)
             · rw [hd]
               simp at hd
               first
                 | (exfalso; omega)
                 | rfl)
      clear S; intro h91 S
      refine st_run [7, 1, 7, 1] S M rfl (by kernel_rfl) ?_; clear S a; intro a S
      (first | refine st_y S rfl rfl rfl (y_subN S rfl rfl (by omega)) ?_ | refine st_y S rfl rfl rfl (y_int S rfl rfl rfl) ?_); clear S a; intro a S
      refine st_y S rfl rfl rfl (y_int S rfl rfl rfl) ?_; clear S a; intro a S
      refine st_go [1, 1, 1] S rfl (by kernel_rfl) ?_; clear S a; intro a S
      refine nxC ?_
      refine wp_ret ?_
      refine block_ret ?_
      refine then_ret ?_
      refine end_one S rfl (res_tmp rfl) ?_
      refine ⟨ret_bool ?_, M.below⟩; clear S M
      have hA : (o.nm.named && o.nm.inc == inc && decide (1 ≤ o.c ∧ o.c ≤ 1048576) && o.touchedMay) = true := by simp [*]
      unfold Ope.may; rw [if_pos hA]; clear hA
      first
        | (exfalso; omega)
        | (refine (?_ : _ = _).trans (if_neg ?_).symm
           rotate_left
           · rintro ⟨q1, q2⟩
             first
               | omega
               | (rw [q2] at h36; exact absurd h36 (by decide))
           rw [if_neg (by omega), if_neg (by omega), if_neg (by omega), if_pos (by omega)]
           rcases Bool.eq_false_or_eq_true (o.at_ == 0) with hd | hd
           · rw [hd]
             simp at hd
             unfold andV
             first
               | (exfalso; omega)
               | (rw [Bool.true_and]; done)
           · rw [hd]
             simp at hd
             first
               | (exfalso; omega)
               | rfl)
    clear S; intro h68 S
    refine st_condT S rfl ?_
    refine wp_seq ?_
    refine wp_quiet M (by kernel_rfl) (by kernel_rfl) ?_
    refine qt_y S rfl rfl rfl (fun w M => y_fieldAddr (k := 12) S (by kernel_rfl) rfl) ?_; clear S a; intro a S
    refine qt_y S rfl rfl rfl (fun w M => y_load S (by kernel_rfl) rfl (M.cell 0 rfl rfl)) ?_; clear S a; intro a S
    refine qt_y S rfl rfl rfl (fun w M => y_int S rfl rfl rfl) ?_; clear S a; intro a S
    refine qt_y S rfl rfl rfl (fun w M => y_move S rfl) ?_; clear S a; intro a S
    refine st_fi (t := 73) S rfl ?_ ?_
    · clear S; intro h73 S
      refine qt_skip 3 S rfl ?_; clear S a; intro a S
      refine qt_y S rfl rfl rfl (fun w M => y_pickF S rfl rfl) ?_; clear S a; intro a S
      refine qt_y S rfl rfl rfl (fun w M => y_move S rfl) ?_; clear S a; intro a S
      refine qt_skip 6 S rfl ?_; clear S a; intro a S
      refine qt_y S rfl rfl rfl (fun w M => y_pickF S rfl rfl) ?_; clear S a; intro a S
      refine qt_y S rfl rfl rfl (fun w M => y_assign S rfl) ?_; clear S a; intro a S
      refine wpQuiet_nil ?_; clear M; intro w10 M
      replace S := S.sub [(0, _), (1, _), (2, _), (26, _), (36, _), (38, _), (39, _), (44, _), (68, _), (4, _)] rfl
      refine then_normal ?_
      refine wp_ret ?_
      refine block_ret ?_
      refine then_ret ?_
      refine end_one S rfl (res_tmp rfl) ?_
      refine ⟨ret_bool ?_, M.below⟩; clear S M
      have hA : (o.nm.named && o.nm.inc == inc && decide (1 ≤ o.c ∧ o.c ≤ 1048576) && o.touchedMay) = true := by simp [*]
      unfold Ope.may; rw [if_pos hA]; clear hA
      first
        | (exfalso; omega)
        | (refine (?_ : _ = _).trans (if_neg ?_).symm
           rotate_left
           · rintro ⟨q1, q2⟩
             first
               | omega
               | (rw [q2] at h36; exact absurd h36 (by decide))
           rw [if_neg (by omega), if_neg (by omega), if_pos (by omega)]
           rcases Bool.eq_false_or_eq_true (decide (1 ≤ o.at_ ∧ o.at_ ≤ 4)) with hd | hd
           · rw [hd]
             simp only [decide_eq_true_eq] at hd
             first
               | (exfalso; omega)
               | (simp; done)
           · rw [hd]
             simp only [decide_eq_false_iff_not] at hd
             first
               | rfl
               | (exfalso; omega))
    clear S; intro h73 S
    refine qt_y S rfl rfl rfl (fun w M => y_fieldAddr (k := 12) S (by kernel_rfl) rfl) ?_; clear S a; intro a S
    refine qt_y S rfl rfl rfl (fun w M => y_load S (by kernel_rfl) rfl (M.cell 0 rfl rfl)) ?_; clear S a; intro a S
    refine qt_y S rfl rfl rfl (fun w M => y_int S rfl rfl rfl) ?_; clear S a; intro a S
    refine qt_y S rfl rfl rfl (fun w M => y_pickT S rfl rfl) ?_; clear S a; intro a S
    refine qt_y S rfl rfl rfl (fun w M => y_move S rfl) ?_; clear S a; intro a S
    refine st_fi (t := 78) S rfl ?_ ?_
    · clear S; intro h78 S
      refine qt_skip 6 S rfl ?_; clear S a; intro a S
      refine qt_y S rfl rfl rfl (fun w M => y_pickF S rfl rfl) ?_; clear S a; intro a S
      refine qt_y S rfl rfl rfl (fun w M => y_assign S rfl) ?_; clear S a; intro a S
      refine wpQuiet_nil ?_; clear M; intro w9 M
      replace S := S.sub [(0, _), (1, _), (2, _), (26, _), (36, _), (38, _), (39, _), (44, _), (68, _), (4, _)] rfl
      refine then_normal ?_
      refine wp_ret ?_
      refine block_ret ?_
      refine then_ret ?_
      refine end_one S rfl (res_tmp rfl) ?_
      refine ⟨ret_bool ?_, M.below⟩; clear S M
      have hA : (o.nm.named && o.nm.inc == inc && decide (1 ≤ o.c ∧ o.c ≤ 1048576) && o.touchedMay) = true := by simp [*]
      unfold Ope.may; rw [if_pos hA]; clear hA
      first
        | (exfalso; omega)
        | (refine (?_ : _ = _).trans (if_neg ?_).symm
           rotate_left
           · rintro ⟨q1, q2⟩
             first
               | omega
               | (rw [q2] at h36; exact absurd h36 (by decide))
           rw [if_neg (by omega), if_neg (by omega), if_pos (by omega)]
           rcases Bool.eq_false_or_eq_true (decide (1 ≤ o.at_ ∧ o.at_ ≤ 4)) with hd | hd
           · rw [hd]
             simp only [decide_eq_true_eq] at hd
             first
               | (exfalso; omega)
               | (simp; done)
           · rw [hd]
             simp only [decide_eq_false_iff_not] at hd
             first
               | rfl
               | (exfalso; omega))
    clear S; intro h78 S
    refine qt_y S rfl rfl rfl (fun w M => y_fieldAddr (k := 6) S (by kernel_rfl) rfl) ?_; clear S a; intro a S
    refine qt_y S rfl rfl rfl (fun w M => y_load S (by kernel_rfl) rfl (M.cell 0 rfl rfl)) ?_; clear S a; intro a S
    refine qt_y S rfl rfl rfl (fun w M => y_fieldAddr (k := 12) S (by kernel_rfl) rfl) ?_; clear S a; intro a S
    refine qt_y S rfl rfl rfl (fun w M => y_load S (by kernel_rfl) rfl (M.cell 0 rfl rfl)) ?_; clear S a; intro a S
    (first | refine qt_y S rfl rfl rfl (fun w M => y_shlN S rfl rfl (by omega) (by exact shl_bd (by omega))) ?_ | refine qt_y S rfl rfl rfl (fun w M => y_shl S rfl rfl (by omega)) ?_); clear S a; intro a S
    refine qt_y S rfl rfl rfl (fun w M => y_int S rfl rfl rfl) ?_; clear S a; intro a S
    refine qt_y S rfl rfl rfl (fun w M => y_pickT S rfl rfl) ?_; clear S a; intro a S
    refine qt_y S rfl rfl rfl (fun w M => y_assign S rfl) ?_; clear S a; intro a S
    refine wpQuiet_nil ?_; clear M; intro w8 M
    replace S := S.sub [(0, _), (1, _), (2, _), (26, _), (36, _), (38, _), (39, _), (44, _), (68, _), (4, _)] rfl
    refine then_normal ?_
    refine wp_ret ?_
    refine block_ret ?_
    refine then_ret ?_
    refine end_one S rfl (res_tmp rfl) ?_
    refine ⟨ret_bool ?_, M.below⟩; clear S M
    have hA : (o.nm.named && o.nm.inc == inc && decide (1 ≤ o.c ∧ o.c ≤ 1048576) && o.touchedMay) = true := by simp [*]
    unfold Ope.may; rw [if_pos hA]; clear hA
    first
      | (exfalso; omega)
      | (refine (?_ : _ = _).trans (if_neg ?_).symm
         rotate_left
         · rintro ⟨q1, q2⟩
           first
             | omega
             | (rw [q2] at h36; exact absurd h36 (by decide))
         rw [if_neg (by omega), if_neg (by omega), if_pos (by omega)]
         rcases Bool.eq_false_or_eq_true (decide (1 ≤ o.at_ ∧ o.at_ ≤ 4)) with hd | hd
         · rw [hd]
           simp only [decide_eq_true_eq] at hd
           first
             | (exfalso; omega)
             | (simp; done)
         · rw [hd]
           simp only [decide_eq_false_iff_not] at hd
           first
             | rfl
             | (exfalso; omega))
  clear S; intro h44 S
  refine st_condT S rfl ?_
  refine wp_seq ?_
  refine wp_regionK [] #[false, false, false, false, false, false, false, false, false, false, false, false, false, false, false, false, false, false, false, false, false, false, false] rfl M (by kernel_rfl) ?_; clear M; intro w6 M
  refine k_pure 0 S rfl (fun w => y_fieldAddr (k := 12) S (by kernel_rfl) rfl) ?_; clear S a; intro a S
  refine k_read 1 S rfl (fun w hW => have M := M.grow hW; y_load S (by kernel_rfl) rfl (M.cell 0 rfl rfl)) ?_; clear S a; intro a S
  refine k_pure 2 S rfl (fun w => y_int S rfl rfl rfl) ?_; clear S a; intro a S
  refine k_pure 3 S rfl (fun w => y_move S rfl) ?_; clear S a; intro a S
  refine st_fi (t := 49) S rfl ?_ ?_
  · clear S; intro h49 S
    refine k_no 4 S rfl ?_; clear S a; intro a S
    refine k_no 5 S rfl ?_; clear S a; intro a S
    refine k_no 6 S rfl ?_; clear S a; intro a S
    refine k_pure 7 S rfl (fun w => y_pickF S rfl rfl) ?_; clear S a; intro a S
    refine k_pure 8 S rfl (fun w => y_move S rfl) ?_; clear S a; intro a S
    refine k_no 9 S rfl ?_; clear S a; intro a S
    refine k_no 10 S rfl ?_; clear S a; intro a S
    refine k_no 11 S rfl ?_; clear S a; intro a S
    refine k_no 12 S rfl ?_; clear S a; intro a S
    refine k_no 13 S rfl ?_; clear S a; intro a S
    refine k_no 14 S rfl ?_; clear S a; intro a S
    refine k_no 15 S rfl ?_; clear S a; intro a S
    refine k_pure 16 S rfl (fun w => y_pickF S rfl rfl) ?_; clear S a; intro a S
    refine k_pure 17 S rfl (fun w => y_move S rfl) ?_; clear S a; intro a S
    refine k_no 18 S rfl ?_; clear S a; intro a S
    refine k_no 19 S rfl ?_; clear S a; intro a S
    refine k_no 20 S rfl ?_; clear S a; intro a S
    refine k_pure 21 S rfl (fun w => y_pickF S rfl rfl) ?_; clear S a; intro a S
    refine k_pure 22 S rfl (fun w => y_assign S rfl) ?_; clear S a; intro a S
    refine k_end (by kernel_rfl) ?_
    replace S := S.sub [(0, _), (1, _), (2, _), (26, _), (36, _), (38, _), (39, _), (44, _), (4, _)] rfl
    refine then_normal ?_
    refine wp_ret ?_
    refine block_ret ?_
    refine then_ret ?_
    refine end_one S rfl (res_tmp rfl) ?_
    refine ⟨ret_bool ?_, M.below⟩; clear S M
    have hA : (o.nm.named && o.nm.inc == inc && decide (1 ≤ o.c ∧ o.c ≤ 1048576) && o.touchedMay) = true := by simp [*]
    unfold Ope.may; rw [if_pos hA]; clear hA
    first
      | (exfalso; omega)
      | (refine (?_ : _ = _).trans (if_neg ?_).symm
         rotate_left
         · rintro ⟨q1, q2⟩
           first
             | omega
             | (rw [q2] at h36; exact absurd h36 (by decide))
         rw [if_neg (by omega), if_pos (by omega)]
         rcases Bool.eq_false_or_eq_true (decide (1 ≤ o.at_ ∧ o.at_ ≤ 4)) with hd | hd
         · rw [hd]
           simp only [decide_eq_true_eq] at hd
           rcases Bool.eq_false_or_eq_true (hasBit o.sh o.at_.toNat) with hb | hb
           · rw [hb]
             first
               | (simp; done)
               | (exfalso; unfold hasBit andV at hb; simp at hb; simp at h63; exact hb h63)
               | (exfalso; omega)
           · rw [hb]
             first
               | (simp; done)
               | (exfalso; unfold hasBit andV at hb; simp at hb; simp at h63; exact h63 hb)
               | (exfalso; omega)
         · rw [hd]
           simp only [decide_eq_false_iff_not] at hd
           first
             | rfl
             | (exfalso; omega))
  clear S; intro h49 S
  refine k_pure 4 S rfl (fun w => y_fieldAddr (k := 12) S (by kernel_rfl) rfl) ?_; clear S a; intro a S
  refine k_read 5 S rfl (fun w hW => have M := M.grow hW; y_load S (by kernel_rfl) rfl (M.cell 0 rfl rfl)) ?_; clear S a; intro a S
  refine k_pure 6 S rfl (fun w => y_int S rfl rfl rfl) ?_; clear S a; intro a S
  refine k_pure 7 S rfl (fun w => y_pickT S rfl rfl) ?_; clear S a; intro a S
  refine k_pure 8 S rfl (fun w => y_move S rfl) ?_; clear S a; intro a S
  refine st_fi (t := 54) S rfl ?_ ?_
  · clear S; intro h54 S
    refine k_no 9 S rfl ?_; clear S a; intro a S
    refine k_no 10 S rfl ?_; clear S a; intro a S
    refine k_no 11 S rfl ?_; clear S a; intro a S
    refine k_no 12 S rfl ?_; clear S a; intro a S
    refine k_no 13 S rfl ?_; clear S a; intro a S
    refine k_no 14 S rfl ?_; clear S a; intro a S
    refine k_no 15 S rfl ?_; clear S a; intro a S
    refine k_pure 16 S rfl (fun w => y_pickF S rfl rfl) ?_; clear S a; intro a S
    refine k_pure 17 S rfl (fun w => y_move S rfl) ?_; clear S a; intro a S
    refine k_no 18 S rfl ?_; clear S a; intro a S
    refine k_no 19 S rfl ?_; clear S a; intro a S
    refine k_no 20 S rfl ?_; clear S a; intro a S
    refine k_pure 21 S rfl (fun w => y_pickF S rfl rfl) ?_; clear S a; intro a S
    refine k_pure 22 S rfl (fun w => y_assign S rfl) ?_; clear S a; intro a S
    refine k_end (by kernel_rfl) ?_
    replace S := S.sub [(0, _), (1, _), (2, _), (26, _), (36, _), (38, _), (39, _), (44, _), (4, _)] rfl
    refine then_normal ?_
    refine wp_ret ?_
    refine block_ret ?_
    refine then_ret ?_
    refine end_one S rfl (res_tmp rfl) ?_
    refine ⟨ret_bool ?_, M.below⟩; clear S M
    have hA : (o.nm.named && o.nm.inc == inc && decide (1 ≤ o.c ∧ o.c ≤ 1048576) && o.touchedMay) = true := by simp [*]
    unfold Ope.may; rw [if_pos hA]; clear hA
    first
      | (exfalso; omega)
      | (refine (?_ : _ = _).trans (if_neg ?_).symm
         rotate_left
         · rintro ⟨q1, q2⟩
           first
             | omega
             | (rw [q2] at h36; exact absurd h36 (by decide))
         rw [if_neg (by omega), if_pos (by omega)]
         rcases Bool.eq_false_or_eq_true (decide (1 ≤ o.at_ ∧ o.at_ ≤ 4)) with hd | hd
         · rw [hd]
           simp only [decide_eq_true_eq] at hd
           rcases Bool.eq_false_or_eq_true (hasBit o.sh o.at_.toNat) with hb | hb
           · rw [hb]
             first
               | (simp; done)
               | (exfalso; unfold hasBit andV at hb; simp at hb; simp at h63; exact hb h63)
               | (exfalso; omega)
           · rw [hb]
             first
               | (simp; done)
               | (exfalso; unfold hasBit andV at hb; simp at hb; simp at h63; exact h63 hb)
               | (exfalso; omega)
         · rw [hd]
           simp only [decide_eq_false_iff_not] at hd
           first
             | rfl
             | (exfalso; omega))
  clear S; intro h54 S
  refine k_pure 9 S rfl (fun w => y_fieldAddr (k := 6) S (by kernel_rfl) rfl) ?_; clear S a; intro a S
  refine k_read 10 S rfl (fun w hW => have M := M.grow hW; y_load S (by kernel_rfl) rfl (M.cell 0 rfl rfl)) ?_; clear S a; intro a S
  refine k_pure 11 S rfl (fun w => y_fieldAddr (k := 12) S (by kernel_rfl) rfl) ?_; clear S a; intro a S
  refine k_read 12 S rfl (fun w hW => have M := M.grow hW; y_load S (by kernel_rfl) rfl (M.cell 0 rfl rfl)) ?_; clear S a; intro a S
  (first | refine k_pure 13 S rfl (fun w => y_shlN S rfl rfl (by omega) (by exact shl_bd (by omega))) ?_ | refine k_pure 13 S rfl (fun w => y_shl S rfl rfl (by omega)) ?_); clear S a; intro a S
  refine k_pure 14 S rfl (fun w => y_int S rfl rfl rfl) ?_; clear S a; intro a S
  refine k_pure 15 S rfl (fun w => y_int S rfl rfl rfl) ?_; clear S a; intro a S
  refine k_pure 16 S rfl (fun w => y_pickT S rfl rfl) ?_; clear S a; intro a S
  refine k_pure 17 S rfl (fun w => y_move S rfl) ?_; clear S a; intro a S
  refine st_fi (t := 63) S rfl ?_ ?_
  · clear S; intro h63 S
    refine k_no 18 S rfl ?_; clear S a; intro a S
    refine k_no 19 S rfl ?_; clear S a; intro a S
    refine k_no 20 S rfl ?_; clear S a; intro a S
    refine k_pure 21 S rfl (fun w => y_pickF S rfl rfl) ?_; clear S a; intro a S
    refine k_pure 22 S rfl (fun w => y_assign S rfl) ?_; clear S a; intro a S
    refine k_end (by kernel_rfl) ?_
    replace S := S.sub [(0, _), (1, _), (2, _), (26, _), (36, _), (38, _), (39, _), (44, _), (4, _)] rfl
    refine then_normal ?_
    refine wp_ret ?_
    refine block_ret ?_
    refine then_ret ?_
    refine end_one S rfl (res_tmp rfl) ?_
    refine ⟨ret_bool ?_, M.below⟩; clear S M
    have hA : (o.nm.named && o.nm.inc == inc && decide (1 ≤ o.c ∧ o.c ≤ 1048576) && o.touchedMay) = true := by simp [*]
    unfold Ope.may; rw [if_pos hA]; clear hA
    first
      | (exfalso; omega)
      | (refine (?_ : _ = _).trans (if_neg ?_).symm
         rotate_left
         · rintro ⟨q1, q2⟩
           first
             | omega
             | (rw [q2] at h36; exact absurd h36 (by decide))
         rw [if_neg (by omega), if_pos (by omega)]
         rcases Bool.eq_false_or_eq_true (decide (1 ≤ o.at_ ∧ o.at_ ≤ 4)) with hd | hd
         · rw [hd]
           simp only [decide_eq_true_eq] at hd
           rcases Bool.eq_false_or_eq_true (hasBit o.sh o.at_.toNat) with hb | hb
           · rw [hb]
             first
               | (simp; done)
               | (exfalso; unfold hasBit andV at hb; simp at hb; simp at h63; exact hb h63)
               | (exfalso; omega)
           · rw [hb]
             first
               | (simp; done)
               | (exfalso; unfold hasBit andV at hb; simp at hb; simp at h63; exact h63 hb)
               | (exfalso; omega)
         · rw [hd]
           simp only [decide_eq_false_iff_not] at hd
           first
             | rfl
             | (exfalso; omega))
  clear S; intro h63 S
  refine k_read 18 S rfl (fun w hW => have M := M.grow hW; y_loadAgg (cs := [_, _, _, _, _, _, _, _, _, _, _, _, _, _, _, _, _, _, _, _, _, _, _, _, _, _, _, _, _, _, _, _, _, _, _, _, _]) S (by kernel_rfl) rfl rfl (M.cellsAt (k := 37) 0 rfl rfl)) ?_; clear S a; intro a S
  refine k_pure 19 S rfl (fun w => y_move S rfl) ?_; clear S a; intro a S
  refine k_one 20 rfl (by kernel_rfl) ?_
  refine st_call (xs := [(Operand.tmp 64), (Operand.tmp 65)]) S (enters_of Try.func50 (by decide) rfl) rfl rfl rfl (execMay_any o inc _ (by omega)) ?_
  rintro _ w7 ⟨rfl, hK⟩; refine ⟨_, rfl, ?_⟩; clear S a; intro a S; replace M := M.grow hK
  refine wpList_nil ?_; refine then_normal ?_; refine ⟨fun _ => hK, ?_⟩
  refine k_pure 21 S rfl (fun w => y_pickT S rfl rfl) ?_; clear S a; intro a S
  refine k_pure 22 S rfl (fun w => y_assign S rfl) ?_; clear S a; intro a S
  refine k_end (by kernel_rfl) ?_
  replace S := S.sub [(0, _), (1, _), (2, _), (26, _), (36, _), (38, _), (39, _), (44, _), (4, _)] rfl
  refine then_normal ?_
  refine wp_ret ?_
  refine block_ret ?_
  refine then_ret ?_
  refine end_one S rfl (res_tmp rfl) ?_
  refine ⟨ret_bool ?_, M.below⟩; clear S M
  have hA : (o.nm.named && o.nm.inc == inc && decide (1 ≤ o.c ∧ o.c ≤ 1048576) && o.touchedMay) = true := by simp [*]
  unfold Ope.may; rw [if_pos hA]; clear hA
  first
    | (exfalso; omega)
    | (refine (?_ : _ = _).trans (if_neg ?_).symm
       rotate_left
       · rintro ⟨q1, q2⟩
         first
           | omega
           | (rw [q2] at h36; exact absurd h36 (by decide))
       rw [if_neg (by omega), if_pos (by omega)]
       rcases Bool.eq_false_or_eq_true (decide (1 ≤ o.at_ ∧ o.at_ ≤ 4)) with hd | hd
       · rw [hd]
         simp only [decide_eq_true_eq] at hd
         rcases Bool.eq_false_or_eq_true (hasBit o.sh o.at_.toNat) with hb | hb
         · rw [hb]
           first
             | (simp; done)
             | (exfalso; unfold hasBit andV at hb; simp at hb; simp at h63; exact hb h63)
             | (exfalso; omega)
         · rw [hb]
           first
             | (simp; done)
             | (exfalso; unfold hasBit andV at hb; simp at hb; simp at h63; exact h63 hb)
             | (exfalso; omega)
       · rw [hd]
         simp only [decide_eq_false_iff_not] at hd
         first
           | rfl
           | (exfalso; omega))
end Go.Proofs.Ytniijiipkfhjgaa

namespace Go.Proofs.Ytniijiipkfhjgaa
open Go.RowKit Go.Sort
variable {ds : List Deferred}
variable {P : Program} {ops : Array Oper} {Q : Exit → Act → World → Prop} {md : Region.Mode} {rest : List Oper} {n d : Nat} {a : Act} {L : List (Nat × Value)} {w w0 : World} {v : Value} {o : Oper} {H : List Ent} {r : Option Nat}
/-- all functions, in the round r or in none -/
abbrev Fnc (r : Option Nat) : Fence := { fn := fun _ => True, depth := none, alive := false, round := r }
def noDefer (l : List Oper) : Bool := l.all fun o => match o.op with | .defer _ => false | _ => true
/-! ### codes in a round -/
open Classical in
/-! ### what is ranged over -/
/-- a call of yield, whatever round -/
abbrev Yld (P : Program) (l : Nat) (args : List Value) (w : World) (R : Ending → World → Prop) : Prop := YieldAt (Fnc none) 0 P l args.toArray w R
/-- the function gf, with what it has caught, gives these, one behind the other; C: what it reads -/
def Gen {α : Type} (P : Program) (gf : FuncId) (lb : List Value) (encs : α → List Value) (xs : List α) (C : World → Prop) : Prop :=
  ∀ (l : Nat) (I : List α → World → Prop) (w : World), (∀ pre w, I pre w → C w) → (∀ pre w w', I pre w → Below w.heap.size w w' → I pre w') →
    (∀ pre x t w1, xs = pre ++ x :: t → I pre w1 → Yld P l (encs x) w1 fun e w2 => e = .returned (.bool true) ∧ I (pre ++ [x]) w2) → I [] w →
    CallsIn (Fnc none) 0 P gf ((.func (.yield l) #[] #[] :: lb).toArray) w fun e w' => (∃ v, e = .returned v) ∧ I xs w'
/-! ### a range over a function, of which each round goes on -/
def putsL : List Nat → List Value → List (Nat × Value) → List (Nat × Value)
  | p :: ps, v :: vs, L => putsL ps vs ((p, v) :: L)
  | _, _, L => L
/-- what the loop keeps of itself -/
abbrev kE (D : Nat) (R : Loop) : Ent := .own D (D + 2) fun W => W.heap[D]? = some (.deferred (some [])) ∧ W.heap[D + 1]? = some (.loop R)
abbrev markE (D : Nat) : Ent := .own D (D + 2) fun W => W.heap[D]? = some (.deferred (some []))
abbrev markD (D : Nat) : Deferred := { target := .collected D, args := #[] }
theorem Mem.keep {D : Nat} {R R' : Loop} {W : World} (M : Mem w0 W (kE D R :: H)) : W.heap[D + 1]? = some (.loop R) ∧ Mem w0 (W.putObj (D + 1) (.loop R')) (kE D R' :: H) := by
  have h := M.own 0 rfl
  have hlt := (Array.getElem?_eq_some_iff.1 h.2).1
  refine ⟨h.2, ?_⟩
  have hoth : ∀ k, k ≠ D + 1 → (W.putObj (D + 1) (.loop R')).heap[k]? = W.heap[k]? := fun k hk => World.putObj_heap_other hk
  refine M.change (e' := kE D R') 0 rfl rfl rfl (fun W' hs => ⟨?_, ?_⟩) (by simp [World.putObj]) rfl rfl rfl (fun k hk => hoth k (fun e => hk (by subst e; simp [Ent.lo, Ent.hi])))
  · rw [hs D (Nat.le_refl _) (by omega), hoth D (by omega)]; exact h.1
  · rw [hs (D + 1) (by omega) (by omega)]; exact World.putObj_heap_same hlt
def roundQ (w0 : World) (B : Ent) (J : List Ent → Prop) : Exit → Act → World → Prop
  | .normal, _, W => ∃ Hs, Mem w0 W (B :: Hs) ∧ J Hs
  | _, _, _ => False
/-! ### functions that hold such a range -/
/-- such a function's end: no panic -/
def postM (P : Program) (fn : Func) (R : Ending → World → Prop) : Exit → Act → World → Prop
  | .normal, a, w => bodyPostM (Fnc none) 0 P fn R .normal a w
  | .ret, a, w => bodyPostM (Fnc none) 0 P fn R .ret a w
  | _, _, _ => False
end Go.Proofs.Ytniijiipkfhjgaa

namespace Go.Proofs.Ytniijiipkfhjgaa
open Go.RowKit Go.Sort
variable {ds : List Deferred}
variable {P : Program} {ops : Array Oper} {Q : Exit → Act → World → Prop} {rest : List Oper} {n d : Nat} {a : Act} {L : List (Nat × Value)} {w w0 : World} {v : Value} {o : Oper} {H : List Ent}
section
variable {κ : Type} {enc : κ → Value}
abbrev Mes (κ : Type) := List (κ × MapEntry)
/-- entries as a map keeps them -/
structure Good (enc : κ → Value) (l : Mes κ) (clock : Nat) : Prop where
  keys : ∀ p ∈ l, p.2.key = enc p.1
  born : (l.map (·.2.born)).Pairwise (· < ·)
  old : ∀ p ∈ l, p.2.born < clock
  nodup : (l.map (·.1)).Nodup
theorem nodup_at {l : Mes κ} (h : (l.map (·.1)).Nodup) {i j : Nat} {p q : κ × MapEntry} (hp : l[i]? = some p) (hq : l[j]? = some q) (e : p.1 = q.1) : i = j := by
  have h1 : (l.map (·.1))[i]? = some p.1 := by simp [hp]
  have h2 : (l.map (·.1))[j]? = some q.1 := by simp [hq]
  have hi : i < (l.map (·.1)).length := (List.getElem?_eq_some_iff.1 h1).1
  exact (List.getElem?_inj hi h).1 (by rw [h1, h2, e])
theorem good_nil (c : Nat) : Good enc ([] : Mes κ) c := ⟨fun p h => (by cases h), .nil, fun p h => (by cases h), .nil⟩
/-- the block b is a map of these entries -/
abbrev mapX (b : Nat) (l : Mes κ) (c : Nat) : Ent := .own b (b + 1) fun W => W.heap[b]? = some (.map (l.map (·.2)).toArray c)
theorem Mem.mapAt {b c pos : Nat} {l : Mes κ} (M : Mem w0 w H) (h : H[pos]? = some (mapX b l c)) : w.heap[b]? = some (.map (l.map (·.2)).toArray c) := M.own pos h
theorem Mem.mapSet {b c pos c' : Nat} {l l' : Mes κ} (M : Mem w0 w H) (h : H[pos]? = some (mapX b l c)) : Mem w0 (w.putObj b (.map (l'.map (·.2)).toArray c')) (H.set pos (mapX b l' c')) := by
  have hlt := (Array.getElem?_eq_some_iff.1 (M.mapAt h)).1
  have hoth : ∀ k, k ≠ b → (w.putObj b (.map (l'.map (·.2)).toArray c')).heap[k]? = w.heap[k]? := fun k hk => World.putObj_heap_other hk
  refine M.change (e' := mapX b l' c') pos h rfl rfl (fun W' hs => ?_) (by simp [World.putObj]) rfl rfl rfl (fun k hk => hoth k (fun e => hk (by subst e; simp [Ent.lo, Ent.hi])))
  show W'.heap[b]? = _
  rw [hs b (Nat.le_refl _) (Nat.lt_succ_self _)]; exact World.putObj_heap_same hlt
variable [DecidableEq κ]
/-- where a key stands -/
def posK (k : κ) : Mes κ → Nat → Option (Nat × Value)
  | [], _ => none
  | p :: l, i => if p.1 = k then some (i, p.2.val) else posK k l (i + 1)
/-- keys of a kind: how they are found -/
structure KeyT (P : Program) (kt : TypeId) (enc : κ → Value) : Prop where
  find : ∀ (k : κ) (l : Mes κ) (w : World), (∀ p ∈ l, p.2.key = enc p.1) → (Instr.findKey kt (enc k) (l.map (·.2))).run P w = .ok (posK k l 0) w
  check : ∀ (b : Bool) (k : κ) (w : World), (Instr.checkKey b 10000 kt (enc k)).run P w = .ok () w
  bits : ∀ k : κ, Instr.sameBits 10000 (enc k) (enc k) = true
def getM (l : Mes κ) (k : κ) : Option Value := (l.find? (·.1 = k)).map (·.2.val)
def hasM (l : Mes κ) (k : κ) : Prop := k ∈ l.map (·.1)
def setM (l : Mes κ) (k : κ) (v : Value) : Mes κ := l.map fun p => if p.1 = k then (p.1, { p.2 with val := v }) else p
/-- the entries and the clock behind a store -/
def putM (enc : κ → Value) (l : Mes κ) (clock : Nat) (k : κ) (v : Value) : Mes κ × Nat :=
  if k ∈ l.map (·.1) then (setM l k v, clock) else (l ++ [(k, { key := enc k, val := v, born := clock })], clock + 1)
theorem posK_none : ∀ {l : Mes κ} {k : κ} {i : Nat}, k ∉ l.map (·.1) → posK k l i = none
  | [], k, i, h => rfl
  | p :: l, k, i, h => by
    rw [List.map_cons, List.mem_cons, not_or] at h
    rw [posK, if_neg (fun e => h.1 e.symm)]
    exact posK_none h.2
theorem posK_some : ∀ {l : Mes κ} {k : κ} {i : Nat}, k ∈ l.map (·.1) → ∃ (j : Nat) (p : κ × MapEntry), l[j]? = some p ∧ p.1 = k ∧ posK k l i = some (i + j, p.2.val) ∧ getM l k = some p.2.val
  | p :: l, k, i, h => by
    by_cases hp : p.1 = k
    · exact ⟨0, p, rfl, hp, by rw [posK, if_pos hp]; rfl, by simp [getM, hp]⟩
    · have h' : k ∈ l.map (·.1) := by
        rcases List.mem_cons.1 h with h | h
        · exact absurd h.symm hp
        · exact h
      obtain ⟨j, q, h1, h2, h3, h4⟩ := posK_some (i := i + 1) h'
      refine ⟨j + 1, q, h1, h2, by rw [posK, if_neg hp, h3]; congr 2; omega, ?_⟩
      unfold getM at h4 ⊢
      rw [List.find?_cons_of_neg (by simpa using hp)]; exact h4
theorem getM_none {l : Mes κ} {k : κ} (h : k ∉ l.map (·.1)) : getM l k = none := by
  unfold getM
  rw [Option.map_eq_none_iff, List.find?_eq_none]
  intro p hp
  simp only [decide_eq_true_eq]
  intro e; exact h (by rw [← e]; exact List.mem_map_of_mem hp)
theorem setM_modify {l : Mes κ} {k : κ} {v : Value} (h : (l.map (·.1)).Nodup) {j : Nat} {p : κ × MapEntry} (hj : l[j]? = some p) (hk : p.1 = k) : ((l.map (·.2)).toArray.modify j fun e => { e with val := v }) = ((setM l k v).map (·.2)).toArray := by
  apply Array.ext'
  rw [Array.toList_modify]
  refine List.ext_getElem? fun i => ?_
  rw [List.getElem?_modify]
  simp only [setM, List.map_map, List.getElem?_map]
  cases hi : l[i]? with
  | none => simp
  | some q =>
    simp only [Option.map_some, Function.comp]
    by_cases hij : j = i
    · subst hij
      rw [hj] at hi; obtain rfl := Option.some.inj hi
      simp [hk]
    · have hne : q.1 ≠ k := fun e => hij (nodup_at h hj hi (by rw [hk, e]))
      simp [hij, hne]
theorem Good.put {l : Mes κ} {c : Nat} (h : Good enc l c) (k : κ) (v : Value) : Good enc (putM enc l c k v).1 (putM enc l c k v).2 := by
  unfold putM
  split
  · have e1 : (setM l k v).map (·.1) = l.map (·.1) := by
      unfold setM; rw [List.map_map]; congr 1; funext p; simp only [Function.comp]; split <;> rfl
    have e2 : (setM l k v).map (·.2.born) = l.map (·.2.born) := by
      unfold setM; rw [List.map_map]; congr 1; funext p; simp only [Function.comp]; split <;> rfl
    refine ⟨fun p hp => ?_, by rw [e2]; exact h.born, fun p hp => ?_, by rw [e1]; exact h.nodup⟩
    · obtain ⟨q, hq, rfl⟩ := List.mem_map.1 hp
      simp only
      split
      · exact h.keys q hq
      · exact h.keys q hq
    · obtain ⟨q, hq, rfl⟩ := List.mem_map.1 hp
      simp only
      split
      · exact h.old q hq
      · exact h.old q hq
  · rename_i hk
    refine ⟨fun p hp => ?_, ?_, fun p hp => ?_, ?_⟩
    · rcases List.mem_append.1 hp with hp | hp
      · exact h.keys p hp
      · obtain rfl := List.mem_singleton.1 hp; rfl
    · rw [List.map_append, List.pairwise_append]
      refine ⟨h.born, by simp, fun x hx y hy => ?_⟩
      obtain ⟨q, hq, rfl⟩ := List.mem_map.1 hx
      simp at hy; subst hy
      exact h.old q hq
    · rcases List.mem_append.1 hp with hp | hp
      · exact Nat.lt_succ_of_lt (h.old p hp)
      · obtain rfl := List.mem_singleton.1 hp; exact Nat.lt_succ_self _
    · rw [List.map_append, List.nodup_append]
      refine ⟨h.nodup, by simp, fun x hx y hy e => ?_⟩
      simp at hy; subst hy; subst e; exact hk hx
theorem run_lookupM {b t kt e : Nat} {l : Mes κ} {c : Nat} {z : Value} {k : κ} {cm : Bool} (K : KeyT P kt enc) (G : Good enc l c) (ht : P.underlying t = some (.map kt e)) (hz : (zeroValue e).run P w = .ok z w) (hb : w.heap[b]? = some (.map (l.map (·.2)).toArray c)) :
    (Instr.lookup t (.map (some b)) (enc k) cm).run P w = .ok (if cm = true then .tuple #[(getM l k).getD z, .bool (decide (k ∈ l.map (·.1)))] else (getM l k).getD z) w := by
  have hf := K.find k l w G.keys
  simp only [Instr.lookup, Sem.run_bind, run_underlying ht, Result.andThen_ok, getObj, Sem.run, hb, Result.andThen, Sem.run_pure, List.toList_toArray, K.check]
  rw [hf]
  by_cases hk : k ∈ l.map (·.1)
  · obtain ⟨j, p, h1, h2, h3, h4⟩ := posK_some (i := 0) hk
    simp only [h3, h4, Option.getD_some, decide_eq_true hk]
    cases cm <;> rfl
  · simp only [posK_none hk, getM_none hk, Option.getD_none, decide_eq_false hk, Sem.run_bind, hz, Result.andThen]
    cases cm <;> rfl
theorem run_updateM {b t kt e : Nat} {l : Mes κ} {c : Nat} {k : κ} (K : KeyT P kt enc) (G : Good enc l c) (ht : P.underlying t = some (.map kt e)) (hb : w.heap[b]? = some (.map (l.map (·.2)).toArray c)) :
    (Instr.mapUpdate t (.map (some b)) (enc k) v).run P w = .ok () (w.putObj b (.map ((putM enc l c k v).1.map (·.2)).toArray (putM enc l c k v).2)) := by
  have hf := K.find k l w G.keys
  simp only [Instr.mapUpdate, Sem.run_bind, run_underlying ht, Result.andThen_ok, getObj, Sem.run, hb, Result.andThen, Sem.run_pure, List.toList_toArray, K.check]
  rw [hf]
  by_cases hk : k ∈ l.map (·.1)
  · obtain ⟨j, p, h1, h2, h3, h4⟩ := posK_some (i := 0) hk
    have hkey : (((l.map (·.2)).toArray[0 + j]?).map (·.key)).getD (enc k) = enc k := by
      simp [h1, G.keys p (List.mem_of_getElem? h1), h2]
    simp only [h3]
    rw [hkey]
    simp only [Instr.keyThatStays, K.bits, if_true, Sem.run_bind, Sem.run_pure, Result.andThen]
    have e : ((l.map (·.2)).toArray.modify (0 + j) fun e => { key := enc k, val := v, born := e.born }) = ((setM l k v).map (·.2)).toArray := by
      rw [← setM_modify (v := v) G.nodup h1 h2, Nat.zero_add]
      apply Array.ext'
      rw [Array.toList_modify, Array.toList_modify]
      refine List.ext_getElem? fun i => ?_
      rw [List.getElem?_modify, List.getElem?_modify]
      by_cases hij : j = i
      · subst hij
        simp [h1, G.keys p (List.mem_of_getElem? h1), h2]
      · simp [hij]
    rw [e]
    simp [setObj, Sem.run, hb, World.putObj, putM, hk]
  · simp only [posK_none hk]
    simp [setObj, Sem.run, hb, World.putObj, putM, hk]
end
end Go.Proofs.Ytniijiipkfhjgaa

namespace Go.Proofs.Ytniijiipkfhjgaa
open Go.RowKit Go.Sort
variable {ds : List Deferred}
variable {P : Program} {ops : Array Oper} {Q : Exit → Act → World → Prop} {rest : List Oper} {n d : Nat} {a : Act} {L : List (Nat × Value)} {w w0 : World} {v : Value} {o : Oper} {H : List Ent}
/-! ### keys -/
theorem key_int {kt : TypeId} (hk : P.underlying kt = some (.int .i64)) : KeyT P kt (fun z : Int => Value.int .i64 z) := by
  have hnow : ∀ (k : Int) (l : Mes Int) (i : Nat), (∀ p ∈ l, p.2.key = .int .i64 p.1) → Instr.findNow (.int .i64) (.int .i64 k) (l.map (·.2)) i = some (posK k l i) := by
    intro k l
    induction l with
    | nil => intro i _; rfl
    | cons p l ih =>
      intro i h
      rw [List.map_cons, Instr.findNow, h p (List.mem_cons_self ..)]
      by_cases e : p.1 = k
      · simp [Instr.sameNow, e, posK]
      · have e' : ¬ k = p.1 := fun h => e h.symm
        simp only [Instr.sameNow, if_true, posK, if_neg e]
        rw [show (k == p.1) = false by simpa using e']
        exact ih (i + 1) fun q hq => h q (List.mem_cons_of_mem _ hq)
  refine ⟨fun k l w h => ?_, fun b k w => ?_, fun k => by simp [Instr.sameBits]⟩
  · simp only [Instr.findKey, Sem.run_bind, run_underlying hk, Result.andThen, hnow k l 0 h, Sem.run_pure]
  · rw [show (10000 : Nat) = 9999 + 1 from rfl, Instr.checkKey]
    simp only [Sem.run_bind, run_underlying hk, Result.andThen, Sem.run_pure]
section
variable {κ : Type} {enc : κ → Value}
theorem st_makeMap {t : TypeId} (S : SeesD ds n a L) (M : Mem w0 w H) {d : Nat} {ty : TypeId} {p : String} {e : Array Edge} {g : Option (Nat × Bool)} (hg : gd ops L ⟨some d, .makeMap t none, ty, p, e, g⟩ = some true) (hn : Nat.blt d n = true)
    (k : ∀ a w' b, SeesD ds n a ((d, .map (some b)) :: L) → Mem w0 w' (mapX b ([] : Mes κ) 0 :: H) → Below w.heap.size w w' → wpList P ops Q rest a w') : wpList P ops Q (⟨some d, .makeMap t none, ty, p, e, g⟩ :: rest) a w := by
  refine st_w (v := .map (some w.heap.size)) (w' := w.alloc (.map #[] 0)) S hg rfl hn ?_ fun a S => k a _ w.heap.size S ?_ (ext_alloc (ext_refl _) _)
  · unfold execOp
    simp [Instr.makeMap, newObj, Sem.run, go_sem]
  · refine M.push (ext_alloc (ext_refl _) _) _ (fun W' hs => ?_) (Nat.le_refl _) (by simp [Ent.hi])
    show W'.heap[w.heap.size]? = _
    rw [hs w.heap.size (Nat.le_refl _) (Nat.lt_succ_self _)]; exact World.alloc_heap_new w _
/-- a range over a map begins -/
abbrev itX (r b since : Nat) (seen : List Nat) (c0 : Nat) : Ent := .own r (r + 1) fun W => W.heap[r]? = some (.mapIter (some b) since seen.toArray c0)
abbrev bornsM (vs : Mes κ) : List Nat := vs.map (·.2.born)
end
section
variable {κ : Type} [DecidableEq κ] {enc : κ → Value}
theorem y_lookupM {t kt e b c pos : Nat} {l : Mes κ} {z : Value} {k : κ} {cm : Bool} {x y : Operand} (S : SeesD ds n a L) (M : Mem w0 w H) (K : KeyT P kt enc) (G : Good enc l c) (ht : P.underlying t = some (.map kt e)) (hz : ∀ w, (zeroValue e).run P w = .ok z w) (hp : H[pos]? = some (mapX b l c)) (hx : val L x = some (.map (some b))) (hy : val L y = some (enc k)) {d : Option Tmp} {ty : TypeId} {p : String} {ed : Array Edge} {g : Option (Nat × Bool)} :
    Yields P a ⟨d, .lookup t x y cm, ty, p, ed, g⟩ w (if cm = true then .tuple #[(getM l k).getD z, .bool (decide (k ∈ l.map (·.1)))] else (getM l k).getD z) := by
  unfold Yields execOp
  simp only [S.eval hx, S.eval hy, Sem.run_bind, run_lookupM K G ht (hz w) (M.mapAt hp), Result.andThen]
  rfl
theorem st_updateM {t kt e b c pos : Nat} {l : Mes κ} {k : κ} {x y z : Operand} (S : SeesD ds n a L) (M : Mem w0 w H) (K : KeyT P kt enc) (G : Good enc l c) (ht : P.underlying t = some (.map kt e)) (hp : H[pos]? = some (mapX b l c)) (hx : val L x = some (.map (some b))) (hy : val L y = some (enc k)) (hz : val L z = some v) {ty : TypeId} {p : String} {ed : Array Edge} {g : Option (Nat × Bool)}
    (hg : gd ops L ⟨none, .mapUpdate t x y z, ty, p, ed, g⟩ = some true)
    (kk : ∀ w', Mem w0 w' (H.set pos (mapX b (putM enc l c k v).1 (putM enc l c k v).2)) → wpList P ops Q rest a w') : wpList P ops Q (⟨none, .mapUpdate t x y z, ty, p, ed, g⟩ :: rest) a w := by
  refine st_s S hg rfl ?_ (kk _ (M.mapSet hp))
  unfold execOp
  simp only [S.eval hx, S.eval hy, S.eval hz, Sem.run_bind, run_updateM K G ht (M.mapAt hp), Result.andThen]
  rfl
end
end Go.Proofs.Ytniijiipkfhjgaa

namespace Go.Proofs.Ytniijiipkfhjgaa
open Go.RowKit Go.Sort
section
variable {ds : List Deferred} {κ : Type}
theorem st_makeMapN {P : Program} {ops : Array Oper} {Q : Exit → Act → World → Prop} {rest : List Oper} {n : Nat} {a : Act} {L : List (Nat × Value)} {w w0 : World} {H : List Ent} {t kt et : TypeId} {x : Operand} {ki : IntKind} {i : Int} (S : SeesD ds n a L) (M : Mem w0 w H) (ht : P.underlying t = some (.map kt et)) (hx : val L x = some (.int ki i)) {d : Nat} {ty : TypeId} {p : String} {e : Array Edge} {g : Option (Nat × Bool)} (hg : gd ops L ⟨some d, .makeMap t (some x), ty, p, e, g⟩ = some true) (hn : Nat.blt d n = true)
    (k : ∀ a w' b, SeesD ds n a ((d, .map (some b)) :: L) → Mem w0 w' (mapX b ([] : Mes κ) 0 :: H) → Below w.heap.size w w' → wpList P ops Q rest a w') : wpList P ops Q (⟨some d, .makeMap t (some x), ty, p, e, g⟩ :: rest) a w := by
  refine st_w (v := .map (some w.heap.size)) (w' := w.alloc (.map #[] 0)) S hg rfl hn ?_ fun a S => k a _ w.heap.size S ?_ (ext_alloc (ext_refl _) _)
  · unfold execOp
    simp only [Option.map_some, S.eval hx, Sem.run_bind, Instr.makeMap, run_underlying ht, Result.andThen]
    simp [newObj, Sem.run, go_sem, asInt]
  · refine M.push (ext_alloc (ext_refl _) _) _ (fun W' hs => ?_) (Nat.le_refl _) (by simp [Ent.hi])
    show W'.heap[w.heap.size]? = _
    rw [hs w.heap.size (Nat.le_refl _) (Nat.lt_succ_self _)]; exact World.alloc_heap_new w _
variable {enc : κ → Value} [DecidableEq κ]
theorem get_put (l : Mes κ) (c : Nat) (k k' : κ) (v : Value) : getM (putM enc l c k v).1 k' = if k' = k then some v else getM l k' := by
  unfold putM
  split
  · rename_i hk
    unfold getM setM
    rw [List.find?_map]
    have e : ((fun p : κ × MapEntry => decide (p.1 = k')) ∘ fun p : κ × MapEntry => if p.1 = k then (p.1, { p.2 with val := v }) else p) = fun p => decide (p.1 = k') := by
      funext p; simp only [Function.comp]; split <;> rfl
    rw [e]
    by_cases h : k' = k
    · subst h
      rw [if_pos rfl]
      obtain ⟨p, hp, hpk⟩ := List.mem_map.1 hk
      cases hf : l.find? (fun p => decide (p.1 = k')) with
      | none =>
        rw [List.find?_eq_none] at hf
        exact absurd (by simpa using hpk) (hf p hp)
      | some q =>
        have := List.find?_some hf
        simp only [decide_eq_true_eq] at this
        simp [this]
    · rw [if_neg h]
      cases hf : l.find? (fun p => decide (p.1 = k')) with
      | none => rfl
      | some q =>
        have := List.find?_some hf
        simp only [decide_eq_true_eq] at this
        have h2 : ¬ q.1 = k := fun e => h (this.symm.trans e)
        simp [h2]
  · rename_i hk
    unfold getM
    rw [List.find?_append]
    by_cases h : k' = k
    · subst h
      rw [if_pos rfl]
      have : l.find? (fun p => decide (p.1 = k')) = none := by
        rw [List.find?_eq_none]
        intro p hp e
        simp only [decide_eq_true_eq] at e
        exact hk (by rw [← e]; exact List.mem_map_of_mem hp)
      rw [this]; simp
    · rw [if_neg h]
      have h2 : ¬ k = k' := fun e => h e.symm
      cases hf : l.find? (fun p => decide (p.1 = k')) <;> simp [h2]
end
abbrev eN : Int → Value := fun z => .int .i64 z
theorem keyN : KeyT Try.prog 3 eN := key_int Try.underlying3
set_option maxRecDepth 100000 in
theorem zero_i64 (w : World) : (zeroValue 3).run Try.prog w = .ok (.int .i64 0) w := by
  obtain ⟨i, hi, hz⟩ : ∃ i, Try.prog.info? 3 = some i ∧ i.zero = some (.int .i64 0) := by
    refine ⟨_, rfl, ?_⟩
    kernel_rfl
  simp [zeroValue, typeInfo, hi, hz, go_sem]
/-- a map that counts -/
def CV (ml : Mes Int) (f : Int → Int) : Prop := ∀ k, (getM ml k).getD (.int .i64 0) = .int .i64 (f k)
theorem CV.put {ml : Mes Int} {f : Int → Int} {c : Nat} (h : CV ml f) (k v : Int) : CV (putM eN ml c k (.int .i64 v)).1 (fun z => if z = k then v else f z) := by
  intro z
  rw [get_put]
  by_cases e : z = k
  · rw [if_pos e]; simp only [if_pos e]; rfl
  · rw [if_neg e, h z]; simp only [if_neg e]
def cntI (l : List Int) (k : Int) : Int := ((l.filter (· == k)).length : Int)
theorem cntI_snoc (l : List Int) (x k : Int) : cntI (l ++ [x]) k = if k = x then cntI l x + 1 else cntI l k := by
  unfold cntI
  rw [List.filter_append, List.length_append]
  by_cases h : k = x
  · subst h; simp
  · have : ¬ x = k := fun e => h e.symm
    simp [h, this]
theorem cntI_bd (l : List Int) (k : Int) : 0 ≤ cntI l k ∧ cntI l k ≤ l.length := by
  unfold cntI
  have := List.length_filter_le (· == k) l
  omega
theorem cntI_mem {l : List Int} {k : Int} : cntI l k ≠ 0 ↔ k ∈ l := by
  unfold cntI
  constructor
  · intro h
    have h1 : 0 < (l.filter (· == k)).length := by omega
    obtain ⟨y, hy⟩ := List.exists_mem_of_length_pos h1
    rw [List.mem_filter, beq_iff_eq] at hy
    exact hy.2 ▸ hy.1
  · intro h
    have : k ∈ l.filter (· == k) := by rw [List.mem_filter]; exact ⟨h, by simp⟩
    have := List.length_pos_of_mem this
    omega
theorem CV.snoc {ml : Mes Int} {l : List Int} {c : Nat} (h : CV ml (cntI l)) (x : Int) : CV (putM eN ml c x (.int .i64 (cntI l x + 1))).1 (cntI (l ++ [x])) := by
  intro z
  rw [h.put x _ z, cntI_snoc]
theorem cnt_ex {α : Type} {f : α → Int} {l : List α} {k : Nat} {z : Int} (h : cntI ((l.take k).map f) z ≠ 0) : ∃ (j : Nat) (p : α), j < k ∧ l[j]? = some p ∧ f p = z := by
  obtain ⟨p, hp, rfl⟩ := List.mem_map.1 (cntI_mem.1 h)
  obtain ⟨j, hj⟩ := List.getElem?_of_mem hp
  rw [List.getElem?_take] at hj
  split at hj
  · exact ⟨j, p, ‹_›, hj, rfl⟩
  · cases hj
theorem cnt_no {α : Type} {f : α → Int} {l : List α} {k : Nat} {z : Int} (h : cntI ((l.take k).map f) z = 0) {j : Nat} {p : α} (hj : j < k) (hp : l[j]? = some p) : f p ≠ z := by
  intro e
  refine absurd h (cntI_mem.2 (List.mem_map.2 ⟨p, ?_, e⟩))
  exact List.mem_of_getElem? (i := j) (by rw [List.getElem?_take, if_pos hj]; exact hp)
/-- the handle ahead -/
def prevH (l : List Ope) : Nat → Int
  | 0 => 0
  | k + 1 => match l[k]? with | some o => o.h | none => 0
def OpOk (s : Ses) (i : Nat) (o : Ope) : Prop := prevH s.l i < o.h ∧ o.h ≤ s.last ∧ (∀ (j : Nat) (p : Ope), j < i → s.l[j]? = some p → p.nm.stamp ≠ o.nm.stamp) ∧ o.may s.inc = true
def EndOk (s : Ses) (x : End_) : Prop := (1 ≤ x.h ∧ x.h ≤ s.last) ∧ (∀ o ∈ s.l, o.h ≠ x.h) ∧ (1 ≤ x.c ∧ x.c ≤ 1048576) ∧ (⟨x.stamp, s.inc, x.try_⟩ : Nm).named = true
/-- may a session be? -/
structure Ses.May (s : Ses) : Prop where
  inc : 1 ≤ s.inc ∧ s.inc ≤ 1048576
  last : 0 ≤ s.last ∧ s.last ≤ 1099511627776
  len : s.l.length ≤ 8
  ops : ∀ (i : Nat) (o : Ope), s.l[i]? = some o → OpOk s i o
  ends : ∀ x ∈ s.over, EndOk s x
theorem take_map_snoc {α β : Type} (f : α → β) {l : List α} {k : Nat} {x : α} (h : l[k]? = some x) : (l.take (k + 1)).map f = (l.take k).map f ++ [f x] := by
  rw [List.take_add_one, h]; simp
set_option maxHeartbeats 4000000 in
theorem check_any (s : Ses) (va oa : Option Addr) (vc oc : Nat) (w : World) (hv : Rd 0 w.heap.size w 37 (.slice va s.l.length vc) s.l.length (fm Ope.cellsL s.l)) (ho : Rd 0 w.heap.size w 5 (.slice oa s.over.length oc) s.over.length (fm End_.cellsL s.over)) (hsh : ∀ o ∈ s.l, ShOk o.sh) :
    Calls Try.prog 16 #[.agg #[.slice va s.l.length vc, .int .i64 s.last, .int .i64 s.inc, .slice oa s.over.length oc]] w fun e w' => ∃ r, e = .returned (.int .i64 r) ∧ Below w.heap.size w w' ∧ (r = 0 ∧ s.May ∨ r = 2 ∧ ¬ s.May) := by
  have M := Mem.start w
  have hvl := hv.2.1
  have hol := ho.2.1
  unfold maxLen at hvl hol
  refine calls_enter Try.func16 rfl 129 rfl rfl ?_; intro a S
  refine nxD ?_
  refine st_box S M rfl rfl rfl #[_, _, _, _] rfl ?_; clear S M a; intro a w1 bB S M hB
  refine st_go [1] S rfl (by kernel_rfl) ?_; clear S a; intro a S
  refine nxC ?_
  refine wp_seq ?_
  refine nxD ?_
  refine st_run [3, 1, 1, 1] S M rfl (by kernel_rfl) ?_; clear S a; intro a S
  refine st_if (t := 13) S rfl ?_ ?_
  · clear S; intro h13 S
    refine st_go [0, 0, 0, 1, 1, 0, 0, 0, 1, 1, 0, 0, 0, 1, 1, 0, 0, 0, 0, 1] S rfl (by kernel_rfl) ?_; clear S a; intro a S
    replace S := S.sub [(0, _), (1, _), (2, _), (33, _)] rfl
    refine nxC ?_
    refine st_condT S rfl ?_
    refine nxD ?_
    refine st_go [1] S rfl (by kernel_rfl) ?_; clear S a; intro a S
    refine nxC ?_
    refine wp_ret ?_
    refine then_ret ?_
    refine end_one S rfl (res_tmp rfl) ?_
    refine ⟨2, rfl, M.below, .inr ⟨rfl, fun h => ?_⟩⟩
    have h1 := h.inc
    have h2 := h.last
    have h3 := h.len
    omega
  clear S; intro h13 S
  refine st_run [3, 1, 1, 1, 1] S M rfl (by kernel_rfl) ?_; clear S a; intro a S
  refine st_if (t := 18) S rfl ?_ ?_
  · clear S; intro h18 S
    refine st_go [0, 0, 0, 1, 1, 0, 0, 0, 1, 1, 0, 0, 0, 0, 1] S rfl (by kernel_rfl) ?_; clear S a; intro a S
    replace S := S.sub [(0, _), (1, _), (2, _), (33, _)] rfl
    refine nxC ?_
    refine st_condT S rfl ?_
    refine nxD ?_
    refine st_go [1] S rfl (by kernel_rfl) ?_; clear S a; intro a S
    refine nxC ?_
    refine wp_ret ?_
    refine then_ret ?_
    refine end_one S rfl (res_tmp rfl) ?_
    refine ⟨2, rfl, M.below, .inr ⟨rfl, fun h => ?_⟩⟩
    have h1 := h.inc
    have h2 := h.last
    have h3 := h.len
    omega
  clear S; intro h18 S
  refine st_run [2, 1, 1, 1, 1] S M rfl (by kernel_rfl) ?_; clear S a; intro a S
  refine st_if (t := 23) S rfl ?_ ?_
  · clear S; intro h23 S
    refine st_go [0, 0, 0, 1, 1, 0, 0, 0, 0, 1] S rfl (by kernel_rfl) ?_; clear S a; intro a S
    replace S := S.sub [(0, _), (1, _), (2, _), (33, _)] rfl
    refine nxC ?_
    refine st_condT S rfl ?_
    refine nxD ?_
    refine st_go [1] S rfl (by kernel_rfl) ?_; clear S a; intro a S
    refine nxC ?_
    refine wp_ret ?_
    refine then_ret ?_
    refine end_one S rfl (res_tmp rfl) ?_
    refine ⟨2, rfl, M.below, .inr ⟨rfl, fun h => ?_⟩⟩
    have h1 := h.inc
    have h2 := h.last
    have h3 := h.len
    omega
  clear S; intro h23 S
  refine st_run [2, 1, 1, 1, 1] S M rfl (by kernel_rfl) ?_; clear S a; intro a S
  refine st_if (t := 28) S rfl ?_ ?_
  · clear S; intro h28 S
    refine st_go [0, 0, 0, 0, 1] S rfl (by kernel_rfl) ?_; clear S a; intro a S
    replace S := S.sub [(0, _), (1, _), (2, _), (33, _)] rfl
    refine nxC ?_
    refine st_condT S rfl ?_
    refine nxD ?_
    refine st_go [1] S rfl (by kernel_rfl) ?_; clear S a; intro a S
    refine nxC ?_
    refine wp_ret ?_
    refine then_ret ?_
    refine end_one S rfl (res_tmp rfl) ?_
    refine ⟨2, rfl, M.below, .inr ⟨rfl, fun h => ?_⟩⟩
    have h1 := h.inc
    have h2 := h.last
    have h3 := h.len
    omega
  clear S; intro h28 S
  refine st_run [1, 1] S M rfl (by kernel_rfl) ?_; clear S a; intro a S
  refine st_y S rfl rfl rfl (y_lenS (E := 65) S rfl (by kernel_rfl)) ?_; clear S a; intro a S
  refine st_go [1, 1] S rfl (by kernel_rfl) ?_; clear S a; intro a S
  replace S := S.sub [(0, _), (1, _), (2, _), (33, _)] rfl
  refine nxC ?_
  refine st_if (t := 33) S rfl ?_ ?_
  · clear S; intro h33 S
    refine st_condT S rfl ?_
    refine nxD ?_
    refine st_go [1] S rfl (by kernel_rfl) ?_; clear S a; intro a S
    refine nxC ?_
    refine wp_ret ?_
    refine then_ret ?_
    refine end_one S rfl (res_tmp rfl) ?_
    refine ⟨2, rfl, M.below, .inr ⟨rfl, fun h => ?_⟩⟩
    have h1 := h.inc
    have h2 := h.last
    have h3 := h.len
    omega
  clear S; intro h33 S
  refine st_condF S rfl ?_
  refine wp_skip ?_
  refine nxE ?_
  refine st_run [1, 1] S M rfl (by kernel_rfl) ?_; clear S a; intro a S
  refine st_y S rfl rfl rfl (y_lenS (E := 65) S rfl (by kernel_rfl)) ?_; clear S a; intro a S
  refine st_makeMapN (κ := Int) S M Try.underlying34 rfl rfl rfl ?_; clear S M a; intro a w2 bO S M hB
  refine st_go [1] S rfl (by kernel_rfl) ?_; clear S a; intro a S
  refine nxA ?_
  refine st_run [1, 2] S M rfl (by kernel_rfl) ?_; clear S a; intro a S
  refine st_y S rfl rfl rfl (y_lenS (E := 65) S rfl (by kernel_rfl)) ?_; clear S a; intro a S
  refine st_makeMapN (κ := Int) S M Try.underlying34 rfl rfl rfl ?_; clear S M a; intro a w3 bS S M hB
  refine st_go [1] S rfl (by kernel_rfl) ?_; clear S a; intro a S
  refine nxA ?_
  refine st_go [1] S rfl (by kernel_rfl) ?_; clear S a; intro a S
  refine nxC ?_
  refine wp_seq ?_
  refine nxD ?_
  refine st_run [1, 3] S M rfl (by kernel_rfl) ?_; clear S a; intro a S
  refine st_y S rfl rfl rfl (y_lenS (E := 65) S rfl (by kernel_rfl)) ?_; clear S a; intro a S
  refine st_go [1] S rfl (by kernel_rfl) ?_; clear S a; intro a S
  refine nxC ?_
  refine wp_block ?_
  refine wp_loop_g (fun m a w' => ∃ (k : Nat) (mo ms : Mes Int) (co cs : Nat), k ≤ s.l.length ∧ m = s.l.length - k ∧ Good eN mo co ∧ Good eN ms cs ∧ CV mo (cntI ((s.l.take k).map Ope.h)) ∧ CV ms (cntI ((s.l.take k).map fun o => o.nm.stamp)) ∧ (∀ (i : Nat) (o : Ope), i < k → s.l[i]? = some o → OpOk s i o) ∧ Sees 129 a [(1, .pointer (some ⟨bB, 0, none⟩)), (3, .map (some bO)), (4, .map (some bS)), (5, .int .i64 (prevH s.l k)), (43, .slice va s.l.length vc), (44, .int .i64 (s.l.length : Int)), (45, .int .i64 (k : Int))] ∧ Mem w w' [mapX bS ms cs, mapX bO mo co, .blk bB #[.slice va s.l.length vc, .int .i64 s.last, .int .i64 s.inc, .slice oa s.over.length oc] 29]) (s.l.length) ?_ ?_
  · skip
    exact ⟨0, [], [], 0, 0, Nat.zero_le _, rfl, good_nil 0, good_nil 0, fun k => rfl, fun k => rfl, fun i o h => absurd h (by omega), S.sub _ rfl, M⟩
  clear S M a; intro m a wl
  rintro ⟨k, mo, ms, co, cs, hk, rfl, hGo, hGs, hCO, hCS, hpre, S, M⟩
  refine nxD ?_
  refine st_go [1] S rfl (by kernel_rfl) ?_; clear S a; intro a S
  refine nxC ?_
  refine wp_seq ?_
  refine st_if (t := 46) S rfl ?_ ?_
  · clear S; intro h46 S
    refine st_condT S rfl ?_
    refine wp_skip ?_
    refine then_normal ?_
    refine wp_seq ?_
    refine wp_block ?_
    refine wp_seq ?_
    obtain ⟨q, hq⟩ : ∃ q, s.l[k]? = some q := ⟨_, List.getElem?_eq_getElem (by omega)⟩
    have hqm := List.mem_of_getElem? hq
    refine wp_region_lit ?_
    refine st_y S rfl rfl rfl (y_indexR (e := 65) (sz := 37) S (by kernel_rfl) rfl ((M.arg hv)) rfl (by first | omega | (simp; done) | (simp; omega))) ?_; clear S a; intro a S
    try simp only [Int.toNat_natCast, Nat.mul_one, Nat.zero_add] at S
    refine st_y S rfl rfl rfl (y_loadAgg S (by kernel_rfl) rfl rfl ((M.arg hv).at_.row (i := k) (fm_get len_ope hq) rfl)) ?_; clear S a; intro a S
    refine st_alloc S M rfl rfl #[.int .i64 0, .int .i64 0, .int .i64 0, .int .i64 0, .int .i64 0, .int .i8 0, .int .i64 0, .int .i64 0, .int .i64 0, .int .i64 0, .int .i64 0, .int .i64 0, .int .i64 0, .int .i8 0, .int .i64 0, .int .i64 0, .int .i64 0, .int .i64 0, .int .i64 0, .int .i64 0, .int .i64 0, .int .i64 0, .int .i8 0, .int .i64 0, .int .u8 0, .int .u8 0, .int .u8 0, .int .u8 0, .int .u8 0, .int .u8 0, .int .u8 0, .int .u8 0, .int .i64 0, .bool false, .int .i64 0, .int .i64 0, .slice none 0 0] (by kernel_rfl) ?_; clear S M a; intro a w4 bX S M hB
    refine st_store (sz := 37) (us := [_, _, _, _, _, _, _, _, _, _, _, _, _, _, _, _, _, _, _, _, _, _, _, _, _, _, _, _, _, _, _, _, _, _, _, _, _]) S M 0 rfl (by kernel_rfl) rfl rfl rfl rfl rfl rfl (by first | decide | (simp; done) | (simp; omega)) ?_; clear M; intro w5 M
    simp only [putL, List.set_cons_zero, List.set_cons_succ, Nat.reduceAdd] at M
    refine nxC ?_
    refine wp_seq ?_
    refine nxD ?_
    refine st_run [1, 1, 1, 1, 1] S M rfl (by kernel_rfl) ?_; clear S a; intro a S
    refine st_if (t := 53) S rfl ?_ ?_
    · clear S; intro h53 S
      refine st_go [0, 0, 0, 0, 0, 1, 1, 0, 0, 0, 0, 0] S rfl (by kernel_rfl) ?_; clear S a; intro a S
      refine st_no S rfl rfl rfl ?_; clear S a; intro a S
      refine st_go [1, 1, 0, 0, 0, 0, 0, 1] S rfl (by kernel_rfl) ?_; clear S a; intro a S
      replace S := S.sub [(1, _), (3, _), (4, _), (5, _), (43, _), (44, _), (45, _), (46, _), (7, _), (74, _)] rfl
      refine nxC ?_
      refine st_condT S rfl ?_
      refine nxD ?_
      refine st_go [1] S rfl (by kernel_rfl) ?_; clear S a; intro a S
      refine nxC ?_
      refine wp_ret ?_
      refine then_ret ?_
      refine block_ret ?_
      refine then_ret ?_
      refine then_ret ?_
      refine block_ret ?_
      refine then_ret ?_
      refine end_one S rfl (res_tmp rfl) ?_
      refine ⟨2, rfl, M.below, .inr ⟨rfl, fun h => ?_⟩⟩
      obtain ⟨h1, h2, h3, h4⟩ := h.ops k q hq
      first
        | omega
        | (have hc : cntI ((s.l.take k).map fun o => o.nm.stamp) q.nm.stamp ≠ 0 := by assumption
           obtain ⟨j, p, hj, hp, he⟩ := cnt_ex hc
           exact h3 j p hj hp he)
        | (have hc : q.may s.inc = false := by assumption
           rw [hc] at h4; exact absurd h4 (by decide))
    clear S; intro h53 S
    refine st_run [1, 1, 2, 4, 1, 1, 1] S M rfl (by kernel_rfl) ?_; clear S a; intro a S
    refine st_if (t := 60) S rfl ?_ ?_
    · clear S; intro h60 S
      refine st_go [0, 0, 0, 0, 0] S rfl (by kernel_rfl) ?_; clear S a; intro a S
      refine st_no S rfl rfl rfl ?_; clear S a; intro a S
      refine st_go [1, 1, 0, 0, 0, 0, 0, 1] S rfl (by kernel_rfl) ?_; clear S a; intro a S
      replace S := S.sub [(1, _), (3, _), (4, _), (5, _), (43, _), (44, _), (45, _), (46, _), (7, _), (74, _)] rfl
      refine nxC ?_
      refine st_condT S rfl ?_
      refine nxD ?_
      refine st_go [1] S rfl (by kernel_rfl) ?_; clear S a; intro a S
      refine nxC ?_
      refine wp_ret ?_
      refine then_ret ?_
      refine block_ret ?_
      refine then_ret ?_
      refine then_ret ?_
      refine block_ret ?_
      refine then_ret ?_
      refine end_one S rfl (res_tmp rfl) ?_
      refine ⟨2, rfl, M.below, .inr ⟨rfl, fun h => ?_⟩⟩
      obtain ⟨h1, h2, h3, h4⟩ := h.ops k q hq
      first
        | omega
        | (have hc : cntI ((s.l.take k).map fun o => o.nm.stamp) q.nm.stamp ≠ 0 := by assumption
           obtain ⟨j, p, hj, hp, he⟩ := cnt_ex hc
           exact h3 j p hj hp he)
        | (have hc : q.may s.inc = false := by assumption
           rw [hc] at h4; exact absurd h4 (by decide))
    clear S; intro h60 S
    refine st_run [1, 3, 1, 1] S M rfl (by kernel_rfl) ?_; clear S a; intro a S
    refine st_y S rfl rfl rfl (y_lookupM (pos := 1) S M (keyN) (hGs) Try.underlying34 (zero_i64) rfl rfl rfl) ?_; clear S a; intro a S
    try simp only [Bool.false_eq_true, if_false, hCS q.nm.stamp] at S
    refine st_y S rfl rfl rfl (y_int S rfl rfl rfl) ?_; clear S a; intro a S
    refine st_go [1, 1] S rfl (by kernel_rfl) ?_; clear S a; intro a S
    refine st_if (t := 68) S rfl ?_ ?_
    · clear S; intro h68 S
      refine st_go [0, 0, 0, 0, 0, 1] S rfl (by kernel_rfl) ?_; clear S a; intro a S
      replace S := S.sub [(1, _), (3, _), (4, _), (5, _), (43, _), (44, _), (45, _), (46, _), (7, _), (74, _)] rfl
      refine nxC ?_
      refine st_condT S rfl ?_
      refine nxD ?_
      refine st_go [1] S rfl (by kernel_rfl) ?_; clear S a; intro a S
      refine nxC ?_
      refine wp_ret ?_
      refine then_ret ?_
      refine block_ret ?_
      refine then_ret ?_
      refine then_ret ?_
      refine block_ret ?_
      refine then_ret ?_
      refine end_one S rfl (res_tmp rfl) ?_
      refine ⟨2, rfl, M.below, .inr ⟨rfl, fun h => ?_⟩⟩
      obtain ⟨h1, h2, h3, h4⟩ := h.ops k q hq
      first
        | omega
        | (have hc : cntI ((s.l.take k).map fun o => o.nm.stamp) q.nm.stamp ≠ 0 := by assumption
           obtain ⟨j, p, hj, hp, he⟩ := cnt_ex hc
           exact h3 j p hj hp he)
        | (have hc : q.may s.inc = false := by assumption
           rw [hc] at h4; exact absurd h4 (by decide))
    clear S; intro h68 S
    refine st_y S rfl rfl rfl (y_loadAgg (cs := [_, _, _, _, _, _, _, _, _, _, _, _, _, _, _, _, _, _, _, _, _, _, _, _, _, _, _, _, _, _, _, _, _, _, _, _, _]) S (by kernel_rfl) rfl rfl (M.cellsAt (k := 37) 0 rfl rfl)) ?_; clear S a; intro a S
    refine st_run [3, 4] S M rfl (by kernel_rfl) ?_; clear S a; intro a S
    refine st_call (xs := [(Operand.tmp 69), (Operand.tmp 71)]) S (enters_of Try.func28 (by decide) rfl) rfl rfl rfl (openMay_any q s.inc _ (hsh q hqm)) ?_
    rintro _ w6 ⟨rfl, hK⟩; refine ⟨_, rfl, ?_⟩; clear S a; intro a S; replace M := M.grow hK
    refine st_go [1, 1] S rfl (by kernel_rfl) ?_; clear S a; intro a S
    replace S := S.sub [(1, _), (3, _), (4, _), (5, _), (43, _), (44, _), (45, _), (46, _), (7, _), (74, _)] rfl
    refine nxC ?_
    refine st_if (t := 74) S rfl ?_ ?_
    · clear S; intro h74 S
      refine st_condT S rfl ?_
      refine nxD ?_
      refine st_go [1] S rfl (by kernel_rfl) ?_; clear S a; intro a S
      refine nxC ?_
      refine wp_ret ?_
      refine then_ret ?_
      refine block_ret ?_
      refine then_ret ?_
      refine then_ret ?_
      refine block_ret ?_
      refine then_ret ?_
      refine end_one S rfl (res_tmp rfl) ?_
      refine ⟨2, rfl, M.below, .inr ⟨rfl, fun h => ?_⟩⟩
      obtain ⟨h1, h2, h3, h4⟩ := h.ops k q hq
      first
        | omega
        | (have hc : cntI ((s.l.take k).map fun o => o.nm.stamp) q.nm.stamp ≠ 0 := by assumption
           obtain ⟨j, p, hj, hp, he⟩ := cnt_ex hc
           exact h3 j p hj hp he)
        | (have hc : q.may s.inc = false := by assumption
           rw [hc] at h4; exact absurd h4 (by decide))
    clear S; intro h74 S
    refine st_condF S rfl ?_
    refine wp_skip ?_
    refine nxE ?_
    refine st_run [1, 1, 1] S M rfl (by kernel_rfl) ?_; clear S a; intro a S
    refine nxA ?_
    refine st_run [1, 1, 1] S M rfl (by kernel_rfl) ?_; clear S a; intro a S
    refine st_y S rfl rfl rfl (y_lookupM (pos := 2) S M (keyN) (hGo) Try.underlying34 (zero_i64) rfl rfl rfl) ?_; clear S a; intro a S
    simp only [Bool.false_eq_true, if_false, hCO q.h] at S
    have hbo := cntI_bd ((s.l.take k).map Ope.h) q.h
    rw [List.length_map, List.length_take] at hbo
    (first | refine st_y S rfl rfl rfl (y_addN S rfl rfl (by omega)) ?_ | refine st_y S rfl rfl rfl (y_int S rfl rfl rfl) ?_); clear S a; intro a S
    refine st_updateM (pos := 2) S M (keyN) (hGo) Try.underlying34 rfl rfl rfl rfl rfl ?_; clear M; intro w7 M
    simp only [List.set_cons_zero, List.set_cons_succ] at M
    refine nxB ?_
    refine st_run [1, 3, 1, 1] S M rfl (by kernel_rfl) ?_; clear S a; intro a S
    refine st_y S rfl rfl rfl (y_lookupM (pos := 1) S M (keyN) (hGs) Try.underlying34 (zero_i64) rfl rfl rfl) ?_; clear S a; intro a S
    simp only [Bool.false_eq_true, if_false, hCS q.nm.stamp] at S
    have hbs := cntI_bd ((s.l.take k).map fun o => o.nm.stamp) q.nm.stamp
    rw [List.length_map, List.length_take] at hbs
    (first | refine st_y S rfl rfl rfl (y_addN S rfl rfl (by omega)) ?_ | refine st_y S rfl rfl rfl (y_int S rfl rfl rfl) ?_); clear S a; intro a S
    refine st_updateM (pos := 1) S M (keyN) (hGs) Try.underlying34 rfl rfl rfl rfl rfl ?_; clear M; intro w8 M
    simp only [List.set_cons_zero, List.set_cons_succ] at M
    replace S := S.sub [(1, _), (3, _), (4, _), (43, _), (44, _), (45, _), (46, _), (7, _), (74, _), (5, _)] rfl
    refine wpList_nil ?_
    refine block_normal ?_
    refine nxF ?_
    (first | refine st_y S rfl rfl rfl (y_addN S rfl rfl (by omega)) ?_ | refine st_y S rfl rfl rfl (y_int S rfl rfl rfl) ?_); clear S a; intro a S
    refine st_go [1] S rfl (by kernel_rfl) ?_; clear S a; intro a S
    refine nxC ?_
    skip
    replace M := M.drop 0
    simp only [List.eraseIdx_cons_succ, List.eraseIdx_cons_zero] at M
    have hpv : prevH s.l (k + 1) = q.h := by rw [prevH, hq]
    have hnew : OpOk s k q := by
      refine ⟨by omega, by omega, fun j p hj hp e => ?_, by assumption⟩
      exact cnt_no (f := fun o : Ope => o.nm.stamp) (by assumption) hj hp e
    refine ⟨s.l.length - (k + 1), by omega, k + 1, _, _, _, _, by omega, rfl, hGo.put _ _, hGs.put _ _, ?_, ?_, fun i o hi ho9 => ?_, by rw [hpv]; exact S.sub _ rfl, M⟩
    · rw [take_map_snoc Ope.h hq]; exact hCO.snoc _
    · rw [take_map_snoc (fun o : Ope => o.nm.stamp) hq]; exact hCS.snoc _
    · rcases Nat.lt_or_ge i k with h | h
      · exact hpre i o h ho9
      · obtain rfl : i = k := by omega
        rw [hq] at ho9; obtain rfl := Option.some.inj ho9; exact hnew
  clear S; intro h46 S
  refine st_condF S rfl ?_
  refine wp_exit ?_
  refine then_exit ?_
  refine then_exit ?_
  refine block_hit ?_
  refine then_normal ?_
  refine wp_seq ?_
  refine nxD ?_
  refine st_run [4, 3] S M rfl (by kernel_rfl) ?_; clear S a; intro a S
  refine st_y S rfl rfl rfl (y_lenS (E := 91) S rfl (by kernel_rfl)) ?_; clear S a; intro a S
  refine st_go [1] S rfl (by kernel_rfl) ?_; clear S a; intro a S
  refine nxC ?_
  refine wp_block ?_
  refine wp_loop_g (fun m a w' => ∃ (k2 : Nat), k2 ≤ s.over.length ∧ m = s.over.length - k2 ∧ (∀ (i : Nat) (x : End_), i < k2 → s.over[i]? = some x → EndOk s x) ∧ Sees 129 a [(1, .pointer (some ⟨bB, 0, none⟩)), (3, .map (some bO)), (90, .slice oa s.over.length oc), (91, .int .i64 (s.over.length : Int)), (92, .int .i64 (k2 : Int))] ∧ Mem w w' [mapX bS ms cs, mapX bO mo co, .blk bB #[.slice va s.l.length vc, .int .i64 s.last, .int .i64 s.inc, .slice oa s.over.length oc] 29]) (s.over.length) ?_ ?_
  · skip
    exact ⟨0, Nat.zero_le _, rfl, fun i o h => absurd h (by omega), S.sub _ rfl, M⟩
  clear S M a; intro m a wl
  rintro ⟨k2, hk2, rfl, hpre2, S, M⟩
  refine nxD ?_
  refine st_go [1] S rfl (by kernel_rfl) ?_; clear S a; intro a S
  refine nxC ?_
  refine wp_seq ?_
  refine st_fi (t := 93) S rfl ?_ ?_
  · clear S; intro h93 S
    refine st_condF S rfl ?_
    refine wp_exit ?_
    refine then_exit ?_
    refine then_exit ?_
    refine block_hit ?_
    refine nxE ?_
    refine st_go [1] S rfl (by kernel_rfl) ?_; clear S a; intro a S
    refine nxC ?_
    refine wp_ret ?_
    refine end_one S rfl (res_tmp rfl) ?_
    refine ⟨0, rfl, M.below, .inl ⟨rfl, ⟨by omega, by omega, by omega, fun i o ho9 => ?_, fun x hx => ?_⟩⟩⟩
    · have := (List.getElem?_eq_some_iff.1 ho9).1
      exact hpre i o (by omega) ho9
    · obtain ⟨i, hi⟩ := List.getElem?_of_mem hx
      have := (List.getElem?_eq_some_iff.1 hi).1
      exact hpre2 i x (by omega) hi
  clear S; intro h93 S
  refine st_condT S rfl ?_
  refine wp_skip ?_
  refine then_normal ?_
  refine wp_seq ?_
  refine wp_block ?_
  refine wp_seq ?_
  obtain ⟨x, hx⟩ : ∃ x, s.over[k2]? = some x := ⟨_, List.getElem?_eq_getElem (by omega)⟩
  refine wp_region_lit ?_
  refine st_y S rfl rfl rfl (y_indexR (e := 91) (sz := 5) S (by kernel_rfl) rfl ((M.arg ho)) rfl (by first | omega | (simp; done) | (simp; omega))) ?_; clear S a; intro a S
  try simp only [Int.toNat_natCast, Nat.mul_one, Nat.zero_add] at S
  refine st_y S rfl rfl rfl (y_loadAgg S (by kernel_rfl) rfl rfl ((M.arg ho).at_.row (i := k2) (fm_get len_end hx) rfl)) ?_; clear S a; intro a S
  refine st_alloc S M rfl rfl #[.int .i64 0, .int .i64 0, .int .i64 0, .int .i64 0, .int .i64 0] (by kernel_rfl) ?_; clear S M a; intro a w9 bY S M hB
  refine st_store (sz := 5) (us := [_, _, _, _, _]) S M 0 rfl (by kernel_rfl) rfl rfl rfl rfl rfl rfl (by first | decide | (simp; done) | (simp; omega)) ?_; clear M; intro w10 M
  simp only [putL, List.set_cons_zero, List.set_cons_succ, Nat.reduceAdd] at M
  refine nxC ?_
  refine wp_seq ?_
  refine nxD ?_
  refine st_run [1, 1, 1, 1] S M rfl (by kernel_rfl) ?_; clear S a; intro a S
  refine st_if (t := 99) S rfl ?_ ?_
  · clear S; intro h99 S
    refine st_go [0, 0, 0, 0, 0, 1, 1, 0, 0, 0, 0] S rfl (by kernel_rfl) ?_; clear S a; intro a S
    refine st_no S rfl rfl rfl ?_; clear S a; intro a S
    refine st_go [1, 1, 0, 0, 0, 0, 1] S rfl (by kernel_rfl) ?_; clear S a; intro a S
    replace S := S.sub [(1, _), (3, _), (90, _), (91, _), (92, _), (93, _), (9, _), (118, _)] rfl
    refine nxC ?_
    refine st_condT S rfl ?_
    refine nxD ?_
    refine st_go [1] S rfl (by kernel_rfl) ?_; clear S a; intro a S
    refine nxC ?_
    refine wp_ret ?_
    refine then_ret ?_
    refine block_ret ?_
    refine then_ret ?_
    refine then_ret ?_
    refine block_ret ?_
    refine then_ret ?_
    refine end_one S rfl (res_tmp rfl) ?_
    refine ⟨2, rfl, M.below, .inr ⟨rfl, fun h => ?_⟩⟩
    obtain ⟨h1, h2, h3, h4⟩ := h.ends x (List.mem_of_getElem? hx)
    first
      | omega
      | (have hc : cntI ((s.l.take k).map Ope.h) x.h ≠ 0 := by assumption
         obtain ⟨j, p, hj, hp, he⟩ := cnt_ex hc
         exact h2 p (List.mem_of_getElem? hp) he)
  clear S; intro h99 S
  refine st_run [1, 1, 2, 4, 1, 1, 1] S M rfl (by kernel_rfl) ?_; clear S a; intro a S
  refine st_if (t := 106) S rfl ?_ ?_
  · clear S; intro h106 S
    refine st_go [0, 0, 0, 0] S rfl (by kernel_rfl) ?_; clear S a; intro a S
    refine st_no S rfl rfl rfl ?_; clear S a; intro a S
    refine st_go [1, 1, 0, 0, 0, 0, 1] S rfl (by kernel_rfl) ?_; clear S a; intro a S
    replace S := S.sub [(1, _), (3, _), (90, _), (91, _), (92, _), (93, _), (9, _), (118, _)] rfl
    refine nxC ?_
    refine st_condT S rfl ?_
    refine nxD ?_
    refine st_go [1] S rfl (by kernel_rfl) ?_; clear S a; intro a S
    refine nxC ?_
    refine wp_ret ?_
    refine then_ret ?_
    refine block_ret ?_
    refine then_ret ?_
    refine then_ret ?_
    refine block_ret ?_
    refine then_ret ?_
    refine end_one S rfl (res_tmp rfl) ?_
    refine ⟨2, rfl, M.below, .inr ⟨rfl, fun h => ?_⟩⟩
    obtain ⟨h1, h2, h3, h4⟩ := h.ends x (List.mem_of_getElem? hx)
    first
      | omega
      | (have hc : cntI ((s.l.take k).map Ope.h) x.h ≠ 0 := by assumption
         obtain ⟨j, p, hj, hp, he⟩ := cnt_ex hc
         exact h2 p (List.mem_of_getElem? hp) he)
  clear S; intro h106 S
  refine st_run [1, 1, 1] S M rfl (by kernel_rfl) ?_; clear S a; intro a S
  refine st_y S rfl rfl rfl (y_lookupM (pos := 2) S M (keyN) (hGo) Try.underlying34 (zero_i64) rfl rfl rfl) ?_; clear S a; intro a S
  try simp only [Bool.false_eq_true, if_false, hCO x.h] at S
  refine st_y S rfl rfl rfl (y_int S rfl rfl rfl) ?_; clear S a; intro a S
  refine st_go [1, 1] S rfl (by kernel_rfl) ?_; clear S a; intro a S
  refine st_if (t := 113) S rfl ?_ ?_
  · clear S; intro h113 S
    refine st_go [0, 0, 0, 0, 1] S rfl (by kernel_rfl) ?_; clear S a; intro a S
    replace S := S.sub [(1, _), (3, _), (90, _), (91, _), (92, _), (93, _), (9, _), (118, _)] rfl
    refine nxC ?_
    refine st_condT S rfl ?_
    refine nxD ?_
    refine st_go [1] S rfl (by kernel_rfl) ?_; clear S a; intro a S
    refine nxC ?_
    refine wp_ret ?_
    refine then_ret ?_
    refine block_ret ?_
    refine then_ret ?_
    refine then_ret ?_
    refine block_ret ?_
    refine then_ret ?_
    refine end_one S rfl (res_tmp rfl) ?_
    refine ⟨2, rfl, M.below, .inr ⟨rfl, fun h => ?_⟩⟩
    obtain ⟨h1, h2, h3, h4⟩ := h.ends x (List.mem_of_getElem? hx)
    first
      | omega
      | (have hc : cntI ((s.l.take k).map Ope.h) x.h ≠ 0 := by assumption
         obtain ⟨j, p, hj, hp, he⟩ := cnt_ex hc
         exact h2 p (List.mem_of_getElem? hp) he)
  clear S; intro h113 S
  refine st_run [2, 1] S M rfl (by kernel_rfl) ?_; clear S a; intro a S
  refine st_call (xs := [(Operand.tmp 115)]) S (enters_of Try.func29 (by decide) rfl) rfl rfl rfl (clientIs_any x.c _) ?_
  rintro _ w11 ⟨rfl, hK⟩; refine ⟨_, rfl, ?_⟩; clear S a; intro a S; replace M := M.grow hK
  refine st_go [1, 1] S rfl (by kernel_rfl) ?_; clear S a; intro a S
  replace S := S.sub [(1, _), (3, _), (90, _), (91, _), (92, _), (93, _), (9, _), (118, _)] rfl
  refine nxC ?_
  refine st_if (t := 118) S rfl ?_ ?_
  · clear S; intro h118 S
    refine st_condT S rfl ?_
    refine nxD ?_
    refine st_go [1] S rfl (by kernel_rfl) ?_; clear S a; intro a S
    refine nxC ?_
    refine wp_ret ?_
    refine then_ret ?_
    refine block_ret ?_
    refine then_ret ?_
    refine then_ret ?_
    refine block_ret ?_
    refine then_ret ?_
    refine end_one S rfl (res_tmp rfl) ?_
    refine ⟨2, rfl, M.below, .inr ⟨rfl, fun h => ?_⟩⟩
    obtain ⟨h1, h2, h3, h4⟩ := h.ends x (List.mem_of_getElem? hx)
    first
      | omega
      | (have hc : cntI ((s.l.take k).map Ope.h) x.h ≠ 0 := by assumption
         obtain ⟨j, p, hj, hp, he⟩ := cnt_ex hc
         exact h2 p (List.mem_of_getElem? hp) he)
  clear S; intro h118 S
  refine st_condF S rfl ?_
  refine wp_skip ?_
  refine nxE ?_
  refine st_run [3, 1, 3, 4, 4, 1] S M rfl (by kernel_rfl) ?_; clear S a; intro a S
  refine st_y S rfl rfl rfl (y_build (ps := [(0, (Operand.tmp 120)), (1, (Operand.tmp 122)), (2, (Operand.tmp 124))]) (pl := [(0, 1), (1, 1), (2, 1)]) (z := [.int .i64 0, .int .i64 0, .int .i64 0]) (cs := [_, _, _]) S (by kernel_rfl) rfl (rfl)) ?_; clear S a; intro a S
  refine st_call (xs := [(Operand.tmp 125)]) S (enters_of Try.func30 (by decide) rfl) rfl rfl rfl (named_any ⟨x.stamp, s.inc, x.try_⟩ _) ?_
  rintro _ w12 ⟨rfl, hK⟩; refine ⟨_, rfl, ?_⟩; clear S a; intro a S; replace M := M.grow hK
  refine st_go [1] S rfl (by kernel_rfl) ?_; clear S a; intro a S
  refine nxC ?_
  refine st_if (t := 127) S rfl ?_ ?_
  · clear S; intro h127 S
    refine st_condT S rfl ?_
    refine nxD ?_
    refine st_go [1] S rfl (by kernel_rfl) ?_; clear S a; intro a S
    refine nxC ?_
    refine wp_ret ?_
    refine block_ret ?_
    refine then_ret ?_
    refine then_ret ?_
    refine block_ret ?_
    refine then_ret ?_
    refine end_one S rfl (res_tmp rfl) ?_
    refine ⟨2, rfl, M.below, .inr ⟨rfl, fun h => ?_⟩⟩
    obtain ⟨h1, h2, h3, h4⟩ := h.ends x (List.mem_of_getElem? hx)
    have hc : (⟨x.stamp, s.inc, x.try_⟩ : Nm).named = false := by assumption
    rw [hc] at h4; exact absurd h4 (by decide)
  clear S; intro h127 S
  refine st_condF S rfl ?_
  refine wp_skip ?_
  refine block_normal ?_
  refine nxF ?_
  (first | refine st_y S rfl rfl rfl (y_addN S rfl rfl (by omega)) ?_ | refine st_y S rfl rfl rfl (y_int S rfl rfl rfl) ?_); clear S a; intro a S
  refine st_go [1] S rfl (by kernel_rfl) ?_; clear S a; intro a S
  refine nxC ?_
  skip
  replace M := M.drop 0
  simp only [List.eraseIdx_cons_succ, List.eraseIdx_cons_zero] at M
  have hkl : k = s.l.length := by omega
  have hnew : EndOk s x := by
    refine ⟨by omega, fun o ho9 e => ?_, by omega, by assumption⟩
    obtain ⟨j, hj⟩ := List.getElem?_of_mem ho9
    exact cnt_no (f := Ope.h) (by assumption) (by have := (List.getElem?_eq_some_iff.1 hj).1; omega : j < k) hj e
  refine ⟨s.over.length - (k2 + 1), by omega, k2 + 1, by omega, rfl, fun i o hi ho9 => ?_, S.sub _ rfl, M⟩
  rcases Nat.lt_or_ge i k2 with h | h
  · exact hpre2 i o h ho9
  · obtain rfl : i = k2 := by omega
    rw [hx] at ho9; obtain rfl := Option.some.inj ho9; exact hnew
end Go.Proofs.Ytniijiipkfhjgaa

namespace Go.Proofs.Ytniijiipkfhjgaa
open Go.RowKit Go.Sort
theorem one_end (o : End_) : allOne o.cellsL = true := rfl
theorem ope_nil (o : Ope) : putL o.cellsL 36 [.slice none 0 0] = o.cellsL := by kernel_rfl
/-- a session's rows read -/
def RdS (wo : World) (A : List Ent) (s : Ses) (va : Option Addr) (vc : Nat) (oa : Option Addr) (oc : Nat) : Prop :=
  ∀ w, Mem wo w A → Rd 0 w.heap.size w 37 (.slice va s.l.length vc) s.l.length (fm Ope.cellsL s.l) ∧ Rd 0 w.heap.size w 5 (.slice oa s.over.length oc) s.over.length (fm End_.cellsL s.over)
set_option maxHeartbeats 2000000 in
theorem copied_any {wo w : World} {A : List Ent} (s : Ses) (va oa : Option Addr) (vc oc : Nat) (hR : RdS wo A s va vc oa oc) (M : Mem wo w A) (hl : s.l.length ≤ 500) (hov : s.over.length ≤ 500) :
    Calls Try.prog 18 #[.agg #[.slice va s.l.length vc, .int .i64 s.last, .int .i64 s.inc, .slice oa s.over.length oc]] w fun e w' => ∃ rl ro : Rw, e = .returned (.agg (sesL s rl ro).toArray) ∧ Mem wo w' (sesE s rl ro ++ A) := by
  refine calls_enter Try.func18 rfl 26 rfl rfl ?_; intro a S
  refine nxD ?_
  refine st_box S M rfl rfl rfl #[_, _, _, _] rfl ?_; clear S M a; intro a w1 bB S M hB
  refine st_alloc S M rfl rfl #[.slice none 0 0, .int .i64 0, .int .i64 0, .slice none 0 0] (by kernel_rfl) ?_; clear S M a; intro a w2 bR S M hB
  refine nxC ?_
  refine wp_seq ?_
  replace M := (M.rowNil 65 37).rowNil 91 5
  refine wp_region_lit ?_
  refine st_run [1, 4] S M rfl (by kernel_rfl) ?_; clear S a; intro a S
  refine st_append (e := 65) (sz := 37) (by_ := 256) (zc := [.int .i64 0, .int .i64 0, .int .i64 0, .int .i64 0, .int .i64 0, .int .i8 0, .int .i64 0, .int .i64 0, .int .i64 0, .int .i64 0, .int .i64 0, .int .i64 0, .int .i64 0, .int .i8 0, .int .i64 0, .int .i64 0, .int .i64 0, .int .i64 0, .int .i64 0, .int .i64 0, .int .i64 0, .int .i64 0, .int .i8 0, .int .i64 0, .int .u8 0, .int .u8 0, .int .u8 0, .int .u8 0, .int .u8 0, .int .u8 0, .int .u8 0, .int .u8 0, .int .i64 0, .bool false, .int .i64 0, .int .i64 0, .slice none 0 0]) S M 1 rfl rfl (by kernel_rfl) rfl (by decide) rfl rfl rfl ((hR _ (M.sub (.cons _ (.cons _ (.cons _ (.cons _ (List.Sublist.refl _))))))).1) (fm_one one_ope _) (by omega) (by unfold maxLen; omega) ?_; clear S M a; intro a w3 vA loA hiA S M
  simp only [List.nil_append, Nat.zero_add] at M S
  obtain ⟨la, lc, rfl, -, -⟩ := (M.readAll 0 rfl (by unfold maxLen; omega)).form
  refine st_y S rfl rfl rfl (y_fieldAddr (k := 0) S (by kernel_rfl) rfl) ?_; clear S a; intro a S
  refine st_store (sz := 1) (us := [_]) S M 3 rfl (by kernel_rfl) rfl rfl rfl rfl rfl rfl (by first | decide | (simp; done) | (simp; omega)) ?_; clear M; intro w4 M
  simp only [putL, List.set_cons_zero, List.set_cons_succ, Nat.reduceAdd] at M
  refine nxA ?_
  refine st_run [4, 4] S M rfl (by kernel_rfl) ?_; clear S a; intro a S
  refine st_append (e := 91) (sz := 5) (by_ := 40) (zc := [.int .i64 0, .int .i64 0, .int .i64 0, .int .i64 0, .int .i64 0]) S M 1 rfl rfl (by kernel_rfl) rfl (by decide) rfl rfl rfl ((hR _ (M.sub (.cons _ (.cons _ (.cons _ (.cons _ (List.Sublist.refl _))))))).2) (fm_one one_end _) (by omega) (by unfold maxLen; omega) ?_; clear S M a; intro a w5 vA loA hiA S M
  simp only [List.nil_append, Nat.zero_add] at M S
  obtain ⟨oa2, oc2, rfl, -, -⟩ := (M.readAll 0 rfl (by unfold maxLen; omega)).form
  refine st_y S rfl rfl rfl (y_fieldAddr (k := 3) S (by kernel_rfl) rfl) ?_; clear S a; intro a S
  refine st_store (sz := 1) (us := [_]) S M 3 rfl (by kernel_rfl) rfl rfl rfl rfl rfl rfl (by first | decide | (simp; done) | (simp; omega)) ?_; clear M; intro w6 M
  simp only [putL, List.set_cons_zero, List.set_cons_succ, Nat.reduceAdd] at M
  refine nxC ?_
  refine wp_seq ?_
  refine nxD ?_
  refine st_run [1, 4] S M rfl (by kernel_rfl) ?_; clear S a; intro a S
  refine st_y S rfl rfl rfl (y_lenS (E := 65) S rfl (by kernel_rfl)) ?_; clear S a; intro a S
  refine st_go [1] S rfl (by kernel_rfl) ?_; clear S a; intro a S
  refine nxC ?_
  refine wp_block ?_
  refine wp_loop_g (fun m a w' => ∃ (k lo1 hi1 lo2 hi2 : Nat), k ≤ s.l.length ∧ m = s.l.length - k ∧ Sees 26 a [(1, .pointer (some ⟨bB, 0, none⟩)), (2, .pointer (some ⟨bR, 0, none⟩)), (14, .int .i64 (s.l.length : Int)), (15, .int .i64 (k : Int))] ∧ Mem wo w' (rowE lo1 hi1 65 37 (.slice la s.l.length lc) s.l.length (fm Ope.cellsL s.l) :: rowE lo2 hi2 91 5 (.slice oa2 s.over.length oc2) s.over.length (fm End_.cellsL s.over) :: .blk bR #[.slice none 0 0, .int .i64 0, .int .i64 0, .slice none 0 0] 29 :: .blk bB #[.slice la s.l.length lc, .int .i64 s.last, .int .i64 s.inc, .slice oa2 s.over.length oc2] 29 :: A)) (s.l.length) ?_ ?_
  · skip
    exact ⟨0, _, _, _, _, Nat.zero_le _, rfl, S.sub _ rfl, M.front 1 rfl⟩
  clear S M a; intro m a wl
  rintro ⟨k, lo1, hi1, lo2, hi2, hk, rfl, S, M⟩
  refine nxD ?_
  refine st_go [1] S rfl (by kernel_rfl) ?_; clear S a; intro a S
  refine nxC ?_
  refine wp_seq ?_
  refine st_fi (t := 16) S rfl ?_ ?_
  · clear S; intro h16 S
    refine st_condF S rfl ?_
    refine wp_exit ?_
    refine then_exit ?_
    refine then_exit ?_
    refine block_hit ?_
    refine nxE ?_
    refine st_y S rfl rfl rfl (y_loadAgg (cs := [_, _, _, _]) S (by kernel_rfl) rfl rfl (M.cellsAt (k := 4) 3 rfl rfl)) ?_; clear S a; intro a S
    refine st_store (sz := 4) (us := [_, _, _, _]) S M 2 rfl (by kernel_rfl) rfl rfl rfl rfl rfl rfl (by first | decide | (simp; done) | (simp; omega)) ?_; clear M; intro w7 M
    simp only [putL, List.set_cons_zero, List.set_cons_succ, Nat.reduceAdd] at M
    refine nxC ?_
    refine wp_ret ?_
    refine end_one S rfl (res_agg (cs := [_, _, _, _]) (by kernel_rfl) rfl rfl (M.cellsAt (k := 4) 2 rfl rfl)) ?_
    exact ⟨⟨la, lc, lo1, hi1⟩, ⟨oa2, oc2, lo2, hi2⟩, rfl, (M.drop 2).drop 2⟩
  clear S; intro h16 S
  refine st_condT S rfl ?_
  refine wp_skip ?_
  refine then_normal ?_
  refine wp_seq ?_
  refine wp_block ?_
  refine nxD ?_
  refine st_go [1, 1] S rfl (by kernel_rfl) ?_; clear S a; intro a S
  refine nxC ?_
  obtain ⟨q, hq⟩ : ∃ q, s.l[k]? = some q := ⟨_, List.getElem?_eq_getElem (by omega)⟩
  have hkl : k < s.l.length := by omega
  refine wp_region_lit ?_
  refine st_run [1, 4, 1] S M rfl (by kernel_rfl) ?_; clear S a; intro a S
  refine st_y S rfl rfl rfl (y_indexR (e := 65) (sz := 37) S (by kernel_rfl) rfl (M.readAll 0 rfl (by unfold maxLen; omega)) rfl (by first | omega | (simp; done) | (simp; omega))) ?_; clear S a; intro a S
  try simp only [Int.toNat_natCast, Nat.mul_one, Nat.zero_add] at S
  refine st_go [14, 24] S rfl (by kernel_rfl) ?_; clear S a; intro a S
  refine st_storeRow (v := .slice la s.l.length lc) (sz := 37) (m := s.l.length) (j := k * 37 + 36) (us := [.slice none 0 0]) S M 0 rfl (by kernel_rfl) rfl rfl (by first | rfl | omega | (simp only [Int.toNat_natCast]; omega)) rfl rfl rfl rfl rfl (by omega) (fm_len len_ope _) (by rw [fm_len len_ope]; show k * 37 + 36 + 1 ≤ _; omega) ?_; clear M; intro wz lo9 hi9 M
  simp only [List.eraseIdx_cons_succ, List.eraseIdx_cons_zero] at M
  have he : putL (fm Ope.cellsL s.l) (k * 37 + 36) [.slice none 0 0] = fm Ope.cellsL s.l := by
    have := fm_put (x := q) (x' := q) len_ope hkl (by show 36 + 1 ≤ 37; omega) (ope_nil q)
    rw [set_self hq] at this; exact this
  rw [he] at M
  refine wpList_nil ?_
  refine block_normal ?_
  refine nxF ?_
  (first | refine st_y S rfl rfl rfl (y_addN S rfl rfl (by omega)) ?_ | refine st_y S rfl rfl rfl (y_int S rfl rfl rfl) ?_); clear S a; intro a S
  refine st_go [1] S rfl (by kernel_rfl) ?_; clear S a; intro a S
  refine nxC ?_
  exact ⟨s.l.length - (k + 1), by omega, k + 1, _, _, _, _, by omega, rfl, S.sub _ rfl, M⟩
theorem new_any (inc : Int) (w : World) : Calls Try.prog 7 #[.int .i64 inc] w fun e w' => ∃ (last : Int) (k : Int) (er : Int), e = .returned (.tuple #[.agg #[.slice none 0 0, .int .i64 last, .int .i64 k, .slice none 0 0], .int .i64 er]) ∧ Below w.heap.size w w' ∧ (1 ≤ inc ∧ inc ≤ 1048576 → last = 0 ∧ k = inc ∧ er = 0) := by
  have M := Mem.start w
  refine calls_enter Try.func7 rfl 13 rfl rfl ?_; intro a S
  refine nxD ?_
  refine st_alloc S M rfl rfl #[.slice none 0 0, .int .i64 0, .int .i64 0, .slice none 0 0] (by kernel_rfl) ?_; clear S M a; intro a w1 b1 S M hB
  refine st_go [1] S rfl (by kernel_rfl) ?_; clear S a; intro a S
  refine nxC ?_
  refine wp_seq ?_
  refine nxD ?_
  refine st_go [1, 1, 1] S rfl (by kernel_rfl) ?_; clear S a; intro a S
  refine st_if (t := 6) S rfl ?_ ?_
  · clear S; intro h6 S
    refine st_go [0, 0, 1] S rfl (by kernel_rfl) ?_; clear S a; intro a S
    refine nxC ?_
    refine st_condT S rfl ?_
    refine nxD ?_
    refine st_y S rfl rfl rfl (y_build (ps := []) (pl := [(0, 1), (1, 1), (2, 1), (3, 1)]) (z := [.slice none 0 0, .int .i64 0, .int .i64 0, .slice none 0 0]) (cs := [_, _, _, _]) S (by kernel_rfl) rfl (rfl)) ?_; clear S a; intro a S
    refine st_store (sz := 4) (us := [_, _, _, _]) S M 0 rfl (by kernel_rfl) rfl rfl rfl rfl rfl rfl (by first | decide | (simp; done) | (simp; omega)) ?_; clear M; intro w2 M
    simp only [putL, List.set_cons_zero, List.set_cons_succ, Nat.reduceAdd] at M
    refine st_go [1] S rfl (by kernel_rfl) ?_; clear S a; intro a S
    refine nxC ?_
    refine wp_ret ?_
    refine then_ret ?_
    refine end_two S rfl (res_agg (cs := [_, _, _, _]) (by kernel_rfl) rfl rfl (M.cellsAt (k := 4) 0 rfl rfl)) (res_tmp rfl) ?_
    exact ⟨_, _, _, rfl, M.below, fun h => by first | (exfalso; omega) | exact ⟨rfl, rfl, rfl⟩⟩
  clear S; intro h6 S
  refine st_go [1, 1, 1] S rfl (by kernel_rfl) ?_; clear S a; intro a S
  refine nxC ?_
  refine st_if (t := 9) S rfl ?_ ?_
  · clear S; intro h9 S
    refine st_condT S rfl ?_
    refine nxD ?_
    refine st_y S rfl rfl rfl (y_build (ps := []) (pl := [(0, 1), (1, 1), (2, 1), (3, 1)]) (z := [.slice none 0 0, .int .i64 0, .int .i64 0, .slice none 0 0]) (cs := [_, _, _, _]) S (by kernel_rfl) rfl (rfl)) ?_; clear S a; intro a S
    refine st_store (sz := 4) (us := [_, _, _, _]) S M 0 rfl (by kernel_rfl) rfl rfl rfl rfl rfl rfl (by first | decide | (simp; done) | (simp; omega)) ?_; clear M; intro w3 M
    simp only [putL, List.set_cons_zero, List.set_cons_succ, Nat.reduceAdd] at M
    refine st_go [1] S rfl (by kernel_rfl) ?_; clear S a; intro a S
    refine nxC ?_
    refine wp_ret ?_
    refine then_ret ?_
    refine end_two S rfl (res_agg (cs := [_, _, _, _]) (by kernel_rfl) rfl rfl (M.cellsAt (k := 4) 0 rfl rfl)) (res_tmp rfl) ?_
    exact ⟨_, _, _, rfl, M.below, fun h => by first | (exfalso; omega) | exact ⟨rfl, rfl, rfl⟩⟩
  clear S; intro h9 S
  refine st_condF S rfl ?_
  refine wp_skip ?_
  refine nxE ?_
  refine st_go [1] S rfl (by kernel_rfl) ?_; clear S a; intro a S
  refine st_y S rfl rfl rfl (y_build (ps := [(2, (Operand.tmp 11))]) (pl := [(0, 1), (1, 1), (2, 1), (3, 1)]) (z := [.slice none 0 0, .int .i64 0, .int .i64 0, .slice none 0 0]) (cs := [_, _, _, _]) S (by kernel_rfl) rfl (rfl)) ?_; clear S a; intro a S
  refine st_store (sz := 4) (us := [_, _, _, _]) S M 0 rfl (by kernel_rfl) rfl rfl rfl rfl rfl rfl (by first | decide | (simp; done) | (simp; omega)) ?_; clear M; intro w4 M
  simp only [putL, List.set_cons_zero, List.set_cons_succ, Nat.reduceAdd] at M
  refine st_go [1] S rfl (by kernel_rfl) ?_; clear S a; intro a S
  refine nxC ?_
  refine wp_ret ?_
  refine end_two S rfl (res_agg (cs := [_, _, _, _]) (by kernel_rfl) rfl rfl (M.cellsAt (k := 4) 0 rfl rfl)) (res_tmp rfl) ?_
  exact ⟨_, _, _, rfl, M.below, fun h => by first | (exfalso; omega) | exact ⟨rfl, rfl, rfl⟩⟩
end Go.Proofs.Ytniijiipkfhjgaa

namespace Go.Proofs.Ytniijiipkfhjgaa
open Go.RowKit Go.Sort
theorem nOk_bd {sh : Int} {k : Nat} {n : Int} (h : nOk sh k n = true) : 0 ≤ n ∧ n ≤ 1048576 := by
  unfold nOk at h
  split at h <;> (simp only [decide_eq_true_eq] at h; omega)
theorem touched_bd {o : Ope} (h : o.touchedMay = true) (k : Nat) : 0 ≤ o.nAt k ∧ o.nAt k ≤ 1048576 := by
  unfold Ope.touchedMay at h
  simp only [Bool.and_eq_true] at h
  obtain ⟨-, ⟨⟨⟨a0, a1⟩, a2⟩, a3⟩, a4⟩ := h
  unfold Ope.nAt
  split
  · exact nOk_bd a0
  · exact nOk_bd a1
  · exact nOk_bd a2
  · exact nOk_bd a3
  · exact nOk_bd a4
theorem may_touched {o : Ope} {inc : Int} (h : o.may inc = true) : o.touchedMay = true := by
  unfold Ope.may at h
  split at h
  · rename_i h1
    simp only [Bool.and_eq_true] at h1
    exact h1.2
  · cases h
theorem Ses.May.bd {s : Ses} (h : s.May) : ∀ o ∈ s.l, ∀ k, 0 ≤ o.nAt k ∧ o.nAt k ≤ 1048576 := fun o ho k => by
  obtain ⟨i, hi⟩ := List.getElem?_of_mem ho
  exact touched_bd (may_touched (h.ops i o hi).2.2.2) k
theorem Ses.May.tries {s : Ses} (h : s.May) : ∀ x ∈ s.over, 0 ≤ x.try_ ∧ x.try_ ≤ 1048576 := fun x hx => by
  have h4 := (h.ends x hx).2.2.2
  simp only [Nm.named, withinB, Bool.and_eq_true, decide_eq_true_eq] at h4
  omega
/-- what comes of a call -/
def Dsk.DoesR (D : Dsk) (c : Cal) (bs : List UInt8) (st : Int) (D' : Dsk) : Prop := c.kind = 0 ∧ D' = D.begin c st ∨ c.kind ≠ 0 ∧ D.HandledR c bs D'
def doesF (c : Cal) : Nat := if c.kind = 0 then 19 else 20
theorem does_enters (c : Cal) : Enters Try.prog (doesF c) := by
  unfold doesF
  split
  · exact enters_of Try.func19 (by decide) rfl
  · exact enters_of Try.func20 (by decide) rfl
theorem does_any {wo w : World} {A E : List Ent} {b : Nat} {D : Dsk} (c : Cal) (da : Option Addr) (dc : Nat) (bs : List UInt8) (st : Int) (hE : DeskE b D E) (M : Mem wo w (A ++ E)) (hs : D.tiny) (hm : D.s.May) (hsh : ∀ o ∈ D.s.l, ShOk o.sh) (hv : RdH wo A (.slice da bs.length dc) bs) :
    Calls Try.prog (doesF c) #[.pointer (some ⟨b, 0, none⟩), .agg (c.cellsL (.slice da bs.length dc)).toArray, .int .i64 st] w fun e w' => e = .returned (.tuple #[]) ∧ ∃ D' E', D.DoesR c bs st D' ∧ DeskE b D' E' ∧ Mem wo w' (A ++ E') := by
  have hla := hm.last
  by_cases hk : c.kind = 0
  · unfold doesF; rw [if_pos hk]
    refine Calls.mono (begin_any c da bs.length dc st hE M hs hm.tries (by omega)) fun e w' h => ?_
    obtain ⟨h1, E', h2, h3⟩ := h
    exact ⟨h1, _, E', .inl ⟨hk, rfl⟩, h2, h3⟩
  · unfold doesF; rw [if_neg hk]
    refine Calls.mono (handled_any c da dc bs st hE M hs hm.bd hsh hv) fun e w' h => ?_
    obtain ⟨h1, D', E', h2, h3, h4⟩ := h
    exact ⟨h1, D', E', .inr ⟨hk, h2⟩, h3, h4⟩
end Go.Proofs.Ytniijiipkfhjgaa

namespace Go.Proofs.Ytniijiipkfhjgaa
open Go.RowKit Go.Sort
/-- what a step of a session gives back -/
def StepP (wo : World) (A : List Ent) (e : Ending) (w' : World) (R : Ses → Tol → Prop) : Prop :=
  ∃ (s' : Ses) (t' : Tol) (er : Int) (rl ro rm ra rs rc re : Rw), e = .returned (.tuple #[.agg (sesL s' rl ro).toArray, .agg (tolL t' rm ra rs rc re).toArray, .int .i64 er]) ∧ Mem wo w' (sesE s' rl ro ++ (tolE t' rm ra rs rc re ++ A)) ∧ (er = 0 → R s' t')
/-- as StepP; where it is refused, N holds -/
def StepN (wo : World) (A : List Ent) (e : Ending) (w' : World) (N : Prop) (R : Ses → Tol → Prop) : Prop :=
  ∃ (s' : Ses) (t' : Tol) (er : Int) (rl ro rm ra rs rc re : Rw), e = .returned (.tuple #[.agg (sesL s' rl ro).toArray, .agg (tolL t' rm ra rs rc re).toArray, .int .i64 er]) ∧ Mem wo w' (sesE s' rl ro ++ (tolE t' rm ra rs rc re ++ A)) ∧ (er = 0 → R s' t') ∧ (er ≠ 0 → N)
theorem StepN.step {wo w' : World} {A : List Ent} {e : Ending} {N : Prop} {R : Ses → Tol → Prop} : StepN wo A e w' N R → StepP wo A e w' R :=
  fun ⟨s, t, er, rl, ro, rm, ra, rs, rc, re, h1, h2, h3, _⟩ => ⟨s, t, er, rl, ro, rm, ra, rs, rc, re, h1, h2, h3⟩
def Ses.none : Ses := ⟨[], 0, 0, []⟩
theorem nilSes {wo w : World} {A : List Ent} (M : Mem wo w A) : ∃ lo hi : Nat, Mem wo w (sesE Ses.none ⟨none, 0, lo, hi⟩ ⟨none, 0, lo, hi⟩ ++ (tolE Tol.none ⟨none, 0, lo, hi⟩ ⟨none, 0, lo, hi⟩ ⟨none, 0, lo, hi⟩ ⟨none, 0, lo, hi⟩ ⟨none, 0, lo, hi⟩ ++ A)) :=
  ⟨w.heap.size, w.heap.size, ((((((M.rowNil 40 3).rowNil 40 3).rowNil 71 14).rowNil 69 13).rowNil 45 24).rowNil 91 5).rowNil 65 37⟩
theorem nilTol {wo w : World} {A : List Ent} (M : Mem wo w A) : ∃ lo hi : Nat, Mem wo w (tolE Tol.none ⟨none, 0, lo, hi⟩ ⟨none, 0, lo, hi⟩ ⟨none, 0, lo, hi⟩ ⟨none, 0, lo, hi⟩ ⟨none, 0, lo, hi⟩ ++ A) :=
  ⟨w.heap.size, w.heap.size, ((((M.rowNil 40 3).rowNil 40 3).rowNil 71 14).rowNil 69 13).rowNil 45 24⟩
theorem does_cell (c : Cal) (v : Value) (h : 0 ≤ c.kind ∧ c.kind ≤ 4) : #[Value.func (.func 19) #[v] #[], .func (.func 20) #[v] #[], .func (.func 20) #[v] #[], .func (.func 20) #[v] #[], .func (.func 20) #[v] #[]][c.kind.toNat]? = some (.func (.func (doesF c)) #[v] #[]) := by
  unfold doesF
  have : c.kind = 0 ∨ c.kind = 1 ∨ c.kind = 2 ∨ c.kind = 3 ∨ c.kind = 4 := by omega
  rcases this with h | h | h | h | h <;> rw [h] <;> rfl
set_option maxHeartbeats 4000000 in
theorem call_any {wo w : World} {A : List Ent} (s : Ses) (va oa : Option Addr) (vc oc : Nat) (c : Cal) (da : Option Addr) (dc : Nat) (bs : List UInt8) (of : Of8) (st : Int) (hR : RdS wo A s va vc oa oc) (M : Mem wo w A) (hov : s.over.length ≤ 500) (hsh : ∀ o ∈ s.l, ShOk o.sh) (hv : RdH wo A (.slice da bs.length dc) bs) :
    Calls Try.prog 9 #[.agg #[.slice va s.l.length vc, .int .i64 s.last, .int .i64 s.inc, .slice oa s.over.length oc], .agg (c.cellsL (.slice da bs.length dc)).toArray, .agg of.cellsL.toArray, .int .i64 st] w fun e w' => StepN wo A e w' (¬ (s.May ∧ (0 ≤ c.kind ∧ c.kind ≤ 4) ∧ (0 ≤ st ∧ st ≤ 1048576))) fun s' t' => s.May ∧ (0 ≤ c.kind ∧ c.kind ≤ 4) ∧ (0 ≤ st ∧ st ≤ 1048576) ∧ ∃ D', Dsk.DoesR ⟨s, Tol.none, of⟩ c bs st D' ∧ s' = D'.s ∧ t' = D'.t := by
  refine calls_enter Try.func9 rfl 67 rfl rfl ?_; intro a S
  refine nxD ?_
  refine st_box S M rfl rfl rfl #[_, _, _, _] rfl ?_; clear S M a; intro a w1 bS0 S M hB
  refine st_box S M rfl rfl rfl #[_, _, _, _, _, _] rfl ?_; clear S M a; intro a w2 bC0 S M hB
  refine st_box S M rfl rfl rfl #[_, _, _, _, _, _, _, _] rfl ?_; clear S M a; intro a w3 bF0 S M hB
  refine st_alloc S M rfl rfl #[.slice none 0 0, .int .i64 0, .int .i64 0, .slice none 0 0] (by kernel_rfl) ?_; clear S M a; intro a w4 bR0 S M hB
  refine st_alloc S M rfl rfl #[.slice none 0 0, .slice none 0 0, .slice none 0 0, .slice none 0 0, .slice none 0 0] (by kernel_rfl) ?_; clear S M a; intro a w5 bT0 S M hB
  refine st_go [1] S rfl (by kernel_rfl) ?_; clear S a; intro a S
  refine nxC ?_
  refine wp_seq ?_
  refine nxD ?_
  refine st_y S rfl rfl rfl (y_loadAgg (cs := [_, _, _, _]) S (by kernel_rfl) rfl rfl (M.cellsAt (k := 4) 4 rfl rfl)) ?_; clear S a; intro a S
  refine st_call (xs := [(Operand.tmp 13)]) S (enters_of Try.func16 (by decide) rfl) rfl rfl rfl (check_any s va oa vc oc _ (hR _ (M.sub (.cons _ (.cons _ (.cons _ (.cons _ (.cons _ (List.Sublist.refl _)))))))).1 (hR _ (M.sub (.cons _ (.cons _ (.cons _ (.cons _ (.cons _ (List.Sublist.refl _)))))))).2 hsh) ?_
  rintro _ w6 ⟨r, rfl, hK, hr⟩; refine ⟨_, rfl, ?_⟩; clear S a; intro a S; replace M := M.grow hK
  refine st_go [1, 1] S rfl (by kernel_rfl) ?_; clear S a; intro a S
  refine st_if (t := 16) S rfl ?_ ?_
  · clear S; intro h16 S
    refine st_go [0, 0, 0, 1, 1, 0, 0, 0, 1, 1, 0, 0, 1, 1, 0, 0, 1] S rfl (by kernel_rfl) ?_; clear S a; intro a S
    replace S := S.sub [(0, _), (1, _), (2, _), (3, _), (4, _), (5, _), (6, _), (8, _), (9, _), (10, _), (33, _)] rfl
    refine nxC ?_
    refine st_condT S rfl ?_
    refine nxD ?_
    refine st_y S rfl rfl rfl (y_build (ps := []) (pl := [(0, 1), (1, 1), (2, 1), (3, 1)]) (z := [.slice none 0 0, .int .i64 0, .int .i64 0, .slice none 0 0]) (cs := [_, _, _, _]) S (by kernel_rfl) rfl (rfl)) ?_; clear S a; intro a S
    refine st_y S rfl rfl rfl (y_build (ps := []) (pl := [(0, 1), (1, 1), (2, 1), (3, 1), (4, 1)]) (z := [.slice none 0 0, .slice none 0 0, .slice none 0 0, .slice none 0 0, .slice none 0 0]) (cs := [_, _, _, _, _]) S (by kernel_rfl) rfl (rfl)) ?_; clear S a; intro a S
    refine st_store (sz := 4) (us := [_, _, _, _]) S M 1 rfl (by kernel_rfl) rfl rfl rfl rfl rfl rfl (by first | decide | (simp; done) | (simp; omega)) ?_; clear M; intro w7 M
    simp only [putL, List.set_cons_zero, List.set_cons_succ, Nat.reduceAdd] at M
    refine st_store (sz := 5) (us := [_, _, _, _, _]) S M 0 rfl (by kernel_rfl) rfl rfl rfl rfl rfl rfl (by first | decide | (simp; done) | (simp; omega)) ?_; clear M; intro w8 M
    simp only [putL, List.set_cons_zero, List.set_cons_succ, Nat.reduceAdd] at M
    refine st_go [1] S rfl (by kernel_rfl) ?_; clear S a; intro a S
    refine nxC ?_
    refine wp_ret ?_
    refine then_ret ?_
    refine end_three S rfl (res_agg (cs := [_, _, _, _]) (by kernel_rfl) rfl rfl (M.cellsAt (k := 4) 1 rfl rfl)) (res_agg (cs := [_, _, _, _, _]) (by kernel_rfl) rfl rfl (M.cellsAt (k := 5) 0 rfl rfl)) (res_tmp rfl) ?_
    obtain ⟨lo, hi, M2⟩ := nilSes (M.drop 0 |>.drop 0 |>.drop 0 |>.drop 0 |>.drop 0)
    have hNo : ¬ (s.May ∧ (0 ≤ c.kind ∧ c.kind ≤ 4) ∧ (0 ≤ st ∧ st ≤ 1048576)) := by
      rintro ⟨h5, h6, h7⟩
      rcases hr with ⟨h1, h2⟩ | ⟨h1, h2⟩
      · omega
      · exact h2 h5
    exact ⟨Ses.none, Tol.none, 2, _, _, _, _, _, _, _, rfl, M2, fun h => absurd h (by decide), fun _ => hNo⟩
  clear S; intro h16 S
  refine st_run [1, 4, 1, 1, 1] S M rfl (by kernel_rfl) ?_; clear S a; intro a S
  refine st_if (t := 21) S rfl ?_ ?_
  · clear S; intro h21 S
    refine st_go [0, 0, 0, 1, 1, 0, 0, 1, 1, 0, 0, 1] S rfl (by kernel_rfl) ?_; clear S a; intro a S
    replace S := S.sub [(0, _), (1, _), (2, _), (3, _), (4, _), (5, _), (6, _), (8, _), (9, _), (10, _), (33, _)] rfl
    refine nxC ?_
    refine st_condT S rfl ?_
    refine nxD ?_
    refine st_y S rfl rfl rfl (y_build (ps := []) (pl := [(0, 1), (1, 1), (2, 1), (3, 1)]) (z := [.slice none 0 0, .int .i64 0, .int .i64 0, .slice none 0 0]) (cs := [_, _, _, _]) S (by kernel_rfl) rfl (rfl)) ?_; clear S a; intro a S
    refine st_y S rfl rfl rfl (y_build (ps := []) (pl := [(0, 1), (1, 1), (2, 1), (3, 1), (4, 1)]) (z := [.slice none 0 0, .slice none 0 0, .slice none 0 0, .slice none 0 0, .slice none 0 0]) (cs := [_, _, _, _, _]) S (by kernel_rfl) rfl (rfl)) ?_; clear S a; intro a S
    refine st_store (sz := 4) (us := [_, _, _, _]) S M 1 rfl (by kernel_rfl) rfl rfl rfl rfl rfl rfl (by first | decide | (simp; done) | (simp; omega)) ?_; clear M; intro w9 M
    simp only [putL, List.set_cons_zero, List.set_cons_succ, Nat.reduceAdd] at M
    refine st_store (sz := 5) (us := [_, _, _, _, _]) S M 0 rfl (by kernel_rfl) rfl rfl rfl rfl rfl rfl (by first | decide | (simp; done) | (simp; omega)) ?_; clear M; intro w10 M
    simp only [putL, List.set_cons_zero, List.set_cons_succ, Nat.reduceAdd] at M
    refine st_go [1] S rfl (by kernel_rfl) ?_; clear S a; intro a S
    refine nxC ?_
    refine wp_ret ?_
    refine then_ret ?_
    refine end_three S rfl (res_agg (cs := [_, _, _, _]) (by kernel_rfl) rfl rfl (M.cellsAt (k := 4) 1 rfl rfl)) (res_agg (cs := [_, _, _, _, _]) (by kernel_rfl) rfl rfl (M.cellsAt (k := 5) 0 rfl rfl)) (res_tmp rfl) ?_
    obtain ⟨lo, hi, M2⟩ := nilSes (M.drop 0 |>.drop 0 |>.drop 0 |>.drop 0 |>.drop 0)
    have hNo : ¬ (s.May ∧ (0 ≤ c.kind ∧ c.kind ≤ 4) ∧ (0 ≤ st ∧ st ≤ 1048576)) := by
      rintro ⟨h5, h6, h7⟩
      rcases hr with ⟨h1, h2⟩ | ⟨h1, h2⟩
      · omega
      · exact h2 h5
    exact ⟨Ses.none, Tol.none, 2, _, _, _, _, _, _, _, rfl, M2, fun h => absurd h (by decide), fun _ => hNo⟩
  clear S; intro h21 S
  refine st_run [1, 4, 1, 1, 1] S M rfl (by kernel_rfl) ?_; clear S a; intro a S
  refine st_if (t := 26) S rfl ?_ ?_
  · clear S; intro h26 S
    refine st_go [0, 0, 1, 1, 0, 0, 1] S rfl (by kernel_rfl) ?_; clear S a; intro a S
    replace S := S.sub [(0, _), (1, _), (2, _), (3, _), (4, _), (5, _), (6, _), (8, _), (9, _), (10, _), (33, _)] rfl
    refine nxC ?_
    refine st_condT S rfl ?_
    refine nxD ?_
    refine st_y S rfl rfl rfl (y_build (ps := []) (pl := [(0, 1), (1, 1), (2, 1), (3, 1)]) (z := [.slice none 0 0, .int .i64 0, .int .i64 0, .slice none 0 0]) (cs := [_, _, _, _]) S (by kernel_rfl) rfl (rfl)) ?_; clear S a; intro a S
    refine st_y S rfl rfl rfl (y_build (ps := []) (pl := [(0, 1), (1, 1), (2, 1), (3, 1), (4, 1)]) (z := [.slice none 0 0, .slice none 0 0, .slice none 0 0, .slice none 0 0, .slice none 0 0]) (cs := [_, _, _, _, _]) S (by kernel_rfl) rfl (rfl)) ?_; clear S a; intro a S
    refine st_store (sz := 4) (us := [_, _, _, _]) S M 1 rfl (by kernel_rfl) rfl rfl rfl rfl rfl rfl (by first | decide | (simp; done) | (simp; omega)) ?_; clear M; intro w11 M
    simp only [putL, List.set_cons_zero, List.set_cons_succ, Nat.reduceAdd] at M
    refine st_store (sz := 5) (us := [_, _, _, _, _]) S M 0 rfl (by kernel_rfl) rfl rfl rfl rfl rfl rfl (by first | decide | (simp; done) | (simp; omega)) ?_; clear M; intro w12 M
    simp only [putL, List.set_cons_zero, List.set_cons_succ, Nat.reduceAdd] at M
    refine st_go [1] S rfl (by kernel_rfl) ?_; clear S a; intro a S
    refine nxC ?_
    refine wp_ret ?_
    refine then_ret ?_
    refine end_three S rfl (res_agg (cs := [_, _, _, _]) (by kernel_rfl) rfl rfl (M.cellsAt (k := 4) 1 rfl rfl)) (res_agg (cs := [_, _, _, _, _]) (by kernel_rfl) rfl rfl (M.cellsAt (k := 5) 0 rfl rfl)) (res_tmp rfl) ?_
    obtain ⟨lo, hi, M2⟩ := nilSes (M.drop 0 |>.drop 0 |>.drop 0 |>.drop 0 |>.drop 0)
    have hNo : ¬ (s.May ∧ (0 ≤ c.kind ∧ c.kind ≤ 4) ∧ (0 ≤ st ∧ st ≤ 1048576)) := by
      rintro ⟨h5, h6, h7⟩
      rcases hr with ⟨h1, h2⟩ | ⟨h1, h2⟩
      · omega
      · exact h2 h5
    exact ⟨Ses.none, Tol.none, 2, _, _, _, _, _, _, _, rfl, M2, fun h => absurd h (by decide), fun _ => hNo⟩
  clear S; intro h26 S
  refine st_go [1, 1, 1, 1] S rfl (by kernel_rfl) ?_; clear S a; intro a S
  refine st_if (t := 30) S rfl ?_ ?_
  · clear S; intro h30 S
    refine st_go [0, 0, 1] S rfl (by kernel_rfl) ?_; clear S a; intro a S
    replace S := S.sub [(0, _), (1, _), (2, _), (3, _), (4, _), (5, _), (6, _), (8, _), (9, _), (10, _), (33, _)] rfl
    refine nxC ?_
    refine st_condT S rfl ?_
    refine nxD ?_
    refine st_y S rfl rfl rfl (y_build (ps := []) (pl := [(0, 1), (1, 1), (2, 1), (3, 1)]) (z := [.slice none 0 0, .int .i64 0, .int .i64 0, .slice none 0 0]) (cs := [_, _, _, _]) S (by kernel_rfl) rfl (rfl)) ?_; clear S a; intro a S
    refine st_y S rfl rfl rfl (y_build (ps := []) (pl := [(0, 1), (1, 1), (2, 1), (3, 1), (4, 1)]) (z := [.slice none 0 0, .slice none 0 0, .slice none 0 0, .slice none 0 0, .slice none 0 0]) (cs := [_, _, _, _, _]) S (by kernel_rfl) rfl (rfl)) ?_; clear S a; intro a S
    refine st_store (sz := 4) (us := [_, _, _, _]) S M 1 rfl (by kernel_rfl) rfl rfl rfl rfl rfl rfl (by first | decide | (simp; done) | (simp; omega)) ?_; clear M; intro w13 M
    simp only [putL, List.set_cons_zero, List.set_cons_succ, Nat.reduceAdd] at M
    refine st_store (sz := 5) (us := [_, _, _, _, _]) S M 0 rfl (by kernel_rfl) rfl rfl rfl rfl rfl rfl (by first | decide | (simp; done) | (simp; omega)) ?_; clear M; intro w14 M
    simp only [putL, List.set_cons_zero, List.set_cons_succ, Nat.reduceAdd] at M
    refine st_go [1] S rfl (by kernel_rfl) ?_; clear S a; intro a S
    refine nxC ?_
    refine wp_ret ?_
    refine then_ret ?_
    refine end_three S rfl (res_agg (cs := [_, _, _, _]) (by kernel_rfl) rfl rfl (M.cellsAt (k := 4) 1 rfl rfl)) (res_agg (cs := [_, _, _, _, _]) (by kernel_rfl) rfl rfl (M.cellsAt (k := 5) 0 rfl rfl)) (res_tmp rfl) ?_
    obtain ⟨lo, hi, M2⟩ := nilSes (M.drop 0 |>.drop 0 |>.drop 0 |>.drop 0 |>.drop 0)
    have hNo : ¬ (s.May ∧ (0 ≤ c.kind ∧ c.kind ≤ 4) ∧ (0 ≤ st ∧ st ≤ 1048576)) := by
      rintro ⟨h5, h6, h7⟩
      rcases hr with ⟨h1, h2⟩ | ⟨h1, h2⟩
      · omega
      · exact h2 h5
    exact ⟨Ses.none, Tol.none, 2, _, _, _, _, _, _, _, rfl, M2, fun h => absurd h (by decide), fun _ => hNo⟩
  clear S; intro h30 S
  refine st_go [1, 1, 1] S rfl (by kernel_rfl) ?_; clear S a; intro a S
  replace S := S.sub [(0, _), (1, _), (2, _), (3, _), (4, _), (5, _), (6, _), (8, _), (9, _), (10, _), (33, _)] rfl
  refine nxC ?_
  refine st_if (t := 33) S rfl ?_ ?_
  · clear S; intro h33 S
    refine st_condT S rfl ?_
    refine nxD ?_
    refine st_y S rfl rfl rfl (y_build (ps := []) (pl := [(0, 1), (1, 1), (2, 1), (3, 1)]) (z := [.slice none 0 0, .int .i64 0, .int .i64 0, .slice none 0 0]) (cs := [_, _, _, _]) S (by kernel_rfl) rfl (rfl)) ?_; clear S a; intro a S
    refine st_y S rfl rfl rfl (y_build (ps := []) (pl := [(0, 1), (1, 1), (2, 1), (3, 1), (4, 1)]) (z := [.slice none 0 0, .slice none 0 0, .slice none 0 0, .slice none 0 0, .slice none 0 0]) (cs := [_, _, _, _, _]) S (by kernel_rfl) rfl (rfl)) ?_; clear S a; intro a S
    refine st_store (sz := 4) (us := [_, _, _, _]) S M 1 rfl (by kernel_rfl) rfl rfl rfl rfl rfl rfl (by first | decide | (simp; done) | (simp; omega)) ?_; clear M; intro w15 M
    simp only [putL, List.set_cons_zero, List.set_cons_succ, Nat.reduceAdd] at M
    refine st_store (sz := 5) (us := [_, _, _, _, _]) S M 0 rfl (by kernel_rfl) rfl rfl rfl rfl rfl rfl (by first | decide | (simp; done) | (simp; omega)) ?_; clear M; intro w16 M
    simp only [putL, List.set_cons_zero, List.set_cons_succ, Nat.reduceAdd] at M
    refine st_go [1] S rfl (by kernel_rfl) ?_; clear S a; intro a S
    refine nxC ?_
    refine wp_ret ?_
    refine then_ret ?_
    refine end_three S rfl (res_agg (cs := [_, _, _, _]) (by kernel_rfl) rfl rfl (M.cellsAt (k := 4) 1 rfl rfl)) (res_agg (cs := [_, _, _, _, _]) (by kernel_rfl) rfl rfl (M.cellsAt (k := 5) 0 rfl rfl)) (res_tmp rfl) ?_
    obtain ⟨lo, hi, M2⟩ := nilSes (M.drop 0 |>.drop 0 |>.drop 0 |>.drop 0 |>.drop 0)
    have hNo : ¬ (s.May ∧ (0 ≤ c.kind ∧ c.kind ≤ 4) ∧ (0 ≤ st ∧ st ≤ 1048576)) := by
      rintro ⟨h5, h6, h7⟩
      rcases hr with ⟨h1, h2⟩ | ⟨h1, h2⟩
      · omega
      · exact h2 h5
    exact ⟨Ses.none, Tol.none, 2, _, _, _, _, _, _, _, rfl, M2, fun h => absurd h (by decide), fun _ => hNo⟩
  clear S; intro h33 S
  refine st_condF S rfl ?_
  refine wp_skip ?_
  refine then_normal ?_
  refine wp_seq ?_
  have hm : s.May := by
    rcases hr with ⟨-, h⟩ | ⟨h, -⟩
    · exact h
    · omega
  have hml := hm.len
  refine wp_regionKC (C := fun W => CellsAt W bF0 0 of.cellsL) [1] #[false, false, false, false, false, false] rfl M (by kernel_rfl) ?_; clear M; intro w17 M; have hC := M.cellsAt (o := 0) (k := 8) 2 rfl rfl
  refine kc_read 0 S rfl hC (fun w hW => have M := M.grow hW; y_loadAgg (cs := [_, _, _, _]) S (by kernel_rfl) rfl rfl (M.cellsAt (k := 4) 4 rfl rfl)) ?_; clear S a; intro a S
  refine kc_readC 2 S rfl hC (fun w hC => y_loadAgg (cs := [_, _, _, _, _, _, _, _]) S (by kernel_rfl) rfl rfl (hC)) ?_; clear S a; intro a S
  refine kc_one 1 rfl (by kernel_rfl) ?_
  refine st_call (xs := [(Operand.tmp 36)]) S (enters_of Try.func18 (by decide) rfl) rfl rfl rfl (copied_any (A := _ :: _ :: _ :: _ :: _ :: A) s va oa vc oc (fun W M9 => hR W (M9.sub (.cons _ (.cons _ (.cons _ (.cons _ (.cons _ (List.Sublist.refl _)))))))) M (by omega) hov) ?_
  rintro _ w18 ⟨rl, ro, rfl, M1⟩; refine ⟨_, rfl, ?_⟩; clear S M a; intro a S; have M := M1; clear M1
  replace hC := M.cellsAt (o := 0) (k := 8) 4 rfl rfl
  refine wpList_nil ?_; refine then_normal ?_; refine ⟨fun h => absurd h (by decide), hC, ?_⟩
  refine kc_readC 3 S rfl hC (fun w _ => y_build (ps := [(0, (Operand.tmp 37)), (2, (Operand.tmp 38))]) (pl := [(0, 4), (4, 5), (9, 8)]) (z := [.slice none 0 0, .int .i64 0, .int .i64 0, .slice none 0 0, .slice none 0 0, .slice none 0 0, .slice none 0 0, .slice none 0 0, .slice none 0 0, .int .i64 0, .int .i64 0, .int .i64 0, .int .i64 0, .int .i64 0, .int .i64 0, .int .i64 0, .int .i64 0]) (cs := [_, _, _, _, _, _, _, _, _, _, _, _, _, _, _, _, _]) S (by kernel_rfl) rfl (rfl)) ?_; clear S a; intro a S
  refine kc_one 4 rfl (by kernel_rfl) ?_
  refine st_box S M rfl rfl rfl #[_, _, _, _, _, _, _, _, _, _, _, _, _, _, _, _, _] rfl ?_; clear S M a; intro a w19 bB S M hB
  replace hC := M.cellsAt (o := 0) (k := 8) 5 rfl rfl
  refine wpList_nil ?_; refine then_normal ?_; refine ⟨fun _ => hB, hC, ?_⟩
  refine kc_readC 5 S rfl hC (fun w _ => y_assign S rfl) ?_; clear S a; intro a S
  refine kc_end (by kernel_rfl) ?_
  refine then_normal ?_
  refine wp_seq ?_
  skip
  replace M := M.ord [2, 2, 2] (by simp only [ordO, oG, oS, oE, oZ, oB] <;> rfl)
  obtain ⟨lo, hi, M2⟩ := nilTol M
  obtain ⟨E1, hE1, M3⟩ := Dsk.close (b := bB) (D := ⟨s, Tol.none, of⟩) rl ro ⟨none, 0, lo, hi⟩ ⟨none, 0, lo, hi⟩ ⟨none, 0, lo, hi⟩ ⟨none, 0, lo, hi⟩ ⟨none, 0, lo, hi⟩ (M2.perm (List.perm_append_comm_assoc (tolE Tol.none _ _ _ _ _) [_, _, _] _))
  clear M; have M := M3; clear M2 M3
  have hty : (⟨s, Tol.none, of⟩ : Dsk).tiny := ⟨by show s.l.length ≤ 500; omega, hov, Nat.zero_le _, Nat.zero_le _, Nat.zero_le _, Nat.zero_le _, Nat.zero_le _⟩
  refine wp_region_lit ?_
  refine st_go [1] S rfl (by kernel_rfl) ?_; clear S a; intro a S
  refine st_y S rfl rfl rfl (y_makeFunc (fs := [(Operand.tmp 41)]) (cs := []) S rfl rfl) ?_; clear S a; intro a S
  refine st_go [1] S rfl (by kernel_rfl) ?_; clear S a; intro a S
  refine st_y S rfl rfl rfl (y_makeFunc (fs := [(Operand.tmp 43)]) (cs := []) S rfl rfl) ?_; clear S a; intro a S
  refine st_go [1] S rfl (by kernel_rfl) ?_; clear S a; intro a S
  refine st_y S rfl rfl rfl (y_makeFunc (fs := [(Operand.tmp 45)]) (cs := []) S rfl rfl) ?_; clear S a; intro a S
  refine st_go [1] S rfl (by kernel_rfl) ?_; clear S a; intro a S
  refine st_y S rfl rfl rfl (y_makeFunc (fs := [(Operand.tmp 47)]) (cs := []) S rfl rfl) ?_; clear S a; intro a S
  refine st_go [1] S rfl (by kernel_rfl) ?_; clear S a; intro a S
  refine st_y S rfl rfl rfl (y_makeFunc (fs := [(Operand.tmp 49)]) (cs := []) S rfl rfl) ?_; clear S a; intro a S
  refine st_y S rfl rfl rfl (y_buildA (ps := [(0, (Operand.tmp 42)), (1, (Operand.tmp 44)), (2, (Operand.tmp 46)), (3, (Operand.tmp 48)), (4, (Operand.tmp 50))]) (sz := 1) (z := [.nilFunc, .nilFunc, .nilFunc, .nilFunc, .nilFunc]) (cs := [_, _, _, _, _]) S (by kernel_rfl) rfl rfl) ?_; clear S a; intro a S
  refine st_alloc S M rfl rfl #[.nilFunc, .nilFunc, .nilFunc, .nilFunc, .nilFunc] (by kernel_rfl) ?_; clear S M a; intro a w20 bK0 S M hB
  refine st_store (sz := 5) (us := [_, _, _, _, _]) S M 0 rfl (by kernel_rfl) rfl rfl rfl rfl rfl rfl (by first | decide | (simp; done) | (simp; omega)) ?_; clear M; intro w21 M
  simp only [putL, List.set_cons_zero, List.set_cons_succ, Nat.reduceAdd] at M
  replace S := S.sub [(0, _), (1, _), (2, _), (3, _), (4, _), (5, _), (6, _), (8, _), (9, _), (10, _), (33, _), (11, _), (12, _)] rfl
  refine nxC ?_
  refine wp_seq ?_
  refine wp_regionK [6] #[false, false, false, false, false, false, false] rfl M (by kernel_rfl) ?_; clear M; intro w22 M
  refine k_pure 0 S rfl (fun w => y_fieldAddr (k := 0) S (by kernel_rfl) rfl) ?_; clear S a; intro a S
  refine k_read 1 S rfl (fun w hW => have M := M.grow hW; y_load S (by kernel_rfl) rfl (M.cell 4 rfl rfl)) ?_; clear S a; intro a S
  refine k_pure 2 S rfl (fun w => y_indexA (m := 5) (sz := 1) S (by kernel_rfl) rfl rfl (by first | omega | (simp; done) | (simp; omega))) ?_; clear S a; intro a S
  try simp only [Int.toNat_natCast, Nat.mul_one, Nat.zero_add] at S
  refine k_read 3 S rfl (fun w hW => have M := M.grow hW; y_load S (by kernel_rfl) rfl (M.cell 0 rfl (does_cell c _ (by omega)))) ?_; clear S a; intro a S
  refine k_read 4 S rfl (fun w hW => have M := M.grow hW; y_loadAgg (cs := [_, _, _, _, _, _]) S (by kernel_rfl) rfl rfl (M.cellsAt (k := 6) 4 rfl rfl)) ?_; clear S a; intro a S
  refine k_pure 5 S rfl (fun w => y_move S rfl) ?_; clear S a; intro a S
  refine k_one 6 rfl (by kernel_rfl) ?_
  refine st_callB (xs := [(Operand.tmp 56), (Operand.tmp 57)]) (fi := [.pointer (some ⟨bB, 0, none⟩)]) (ca := []) S (does_enters c) rfl rfl (rfl) rfl (does_any (A := _ :: _ :: _ :: _ :: _ :: _ :: A) c da dc bs st hE1 M hty hm hsh (fun W M9 => hv W (M9.sub (.cons _ (.cons _ (.cons _ (.cons _ (.cons _ (.cons _ (List.Sublist.refl _)))))))))) ?_
  rintro _ w23 ⟨rfl, D', E2, hD', hE2, M1⟩; refine ⟨_, rfl, ?_⟩; clear S M a; intro a S; have M := M1; clear M1
  refine wpList_nil ?_; refine then_normal ?_; refine ⟨fun h => absurd h (by decide), ?_⟩
  refine k_end (by kernel_rfl) ?_
  refine then_normal ?_
  refine wp_seq ?_
  obtain ⟨rl2, ro2, rm2, ra2, rs2, rc2, re2, M1⟩ := Dsk.open (A := _ :: _ :: _ :: _ :: _ :: _ :: A) hE2 M
  clear M; have M := M1; clear M1
  refine wp_regionKC (C := fun W => CellsAt W bB 4 (tolL D'.t rm2 ra2 rs2 rc2 re2)) [8, 9] #[false, false, false, false, false, false, false, false, false, false, false] rfl M (by kernel_rfl) ?_; clear M; intro w24 M; have hC := M.cellsAt (o := 4) (k := 5) 0 rfl rfl
  refine kc_readC 0 S rfl hC (fun w _ => y_move S rfl) ?_; clear S a; intro a S
  refine kc_readC 1 S rfl hC (fun w _ => y_nilCheck S rfl) ?_; clear S a; intro a S
  refine kc_readC 2 S rfl hC (fun w _ => y_fieldAddr (k := 0) S (by kernel_rfl) rfl) ?_; clear S a; intro a S
  refine kc_read 3 S rfl hC (fun w hW => have M := M.grow hW; y_loadAgg (cs := [_, _, _, _]) S (by kernel_rfl) rfl rfl (M.cellsAt (k := 4) 0 rfl rfl)) ?_; clear S a; intro a S
  refine kc_readC 4 S rfl hC (fun w _ => y_move S rfl) ?_; clear S a; intro a S
  refine kc_readC 5 S rfl hC (fun w _ => y_nilCheck S rfl) ?_; clear S a; intro a S
  refine kc_readC 6 S rfl hC (fun w _ => y_fieldAddr (k := 4) S (by kernel_rfl) rfl) ?_; clear S a; intro a S
  refine kc_readC 7 S rfl hC (fun w hC => y_loadAgg (cs := [_, _, _, _, _]) S (by kernel_rfl) rfl rfl (hC)) ?_; clear S a; intro a S
  refine kc_one 8 rfl (by kernel_rfl) ?_
  refine st_store (sz := 4) (us := [_, _, _, _]) S M 10 rfl (by kernel_rfl) rfl rfl rfl rfl rfl rfl (by first | decide | (simp; done) | (simp; omega)) ?_; clear M; intro w25 M
  simp only [putL, List.set_cons_zero, List.set_cons_succ, Nat.reduceAdd] at M
  replace hC := M.cellsAt (o := 4) (k := 5) 0 rfl rfl
  refine wpList_nil ?_; refine then_normal ?_; refine ⟨fun h => absurd h (by decide), hC, ?_⟩
  refine kc_one 9 rfl (by kernel_rfl) ?_
  refine st_store (sz := 5) (us := [_, _, _, _, _]) S M 9 rfl (by kernel_rfl) rfl rfl rfl rfl rfl rfl (by first | decide | (simp; done) | (simp; omega)) ?_; clear M; intro w26 M
  simp only [putL, List.set_cons_zero, List.set_cons_succ, Nat.reduceAdd] at M
  replace hC := M.cellsAt (o := 4) (k := 5) 0 rfl rfl
  refine wpList_nil ?_; refine then_normal ?_; refine ⟨fun h => absurd h (by decide), hC, ?_⟩
  refine kc_readC 10 S rfl hC (fun w _ => y_assign S rfl) ?_; clear S a; intro a S
  refine kc_end (by kernel_rfl) ?_
  replace S := S.sub [(0, _), (1, _), (2, _), (3, _), (4, _), (5, _), (6, _), (8, _), (9, _), (33, _), (11, _), (12, _), (10, _)] rfl
  refine then_normal ?_
  refine wp_ret ?_
  refine end_three S rfl (res_agg (cs := [_, _, _, _]) (by kernel_rfl) rfl rfl (M.cellsAt (k := 4) 10 rfl rfl)) (res_agg (cs := [_, _, _, _, _]) (by kernel_rfl) rfl rfl (M.cellsAt (k := 5) 9 rfl rfl)) (res_tmp rfl) ?_
  refine ⟨D'.s, D'.t, 0, rl2, ro2, rm2, ra2, rs2, rc2, re2, rfl, ?_, fun _ => ⟨hm, by omega, by omega, D', hD', rfl, rfl⟩, fun h => absurd rfl h⟩
  exact ((((((M.drop 0).drop 7).drop 7).drop 7).drop 7).drop 7).drop 7
end Go.Proofs.Ytniijiipkfhjgaa

