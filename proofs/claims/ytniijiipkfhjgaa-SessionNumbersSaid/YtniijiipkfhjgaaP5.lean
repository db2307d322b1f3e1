/-
  What SessionNumbers rests on, part 5.
-/
import Derived.Test.YtniijiipkfhjgaaP4
namespace Go.Proofs.Ytniijiipkfhjgaa
open Go.RowKit Go.Sort
def V8.zero (v : V8) : Bool := v.eqb ⟨0, 0, 0, 0, 0, 0, 0, 0⟩
/-- the fields that all kinds that have them have alike -/
def fitHead (h : Nat → Bool) (m : Msg) : Bool := !(h 0 && !m.name.named) && !(h 1 && !(withinB m.n 1048576))
/-- the fields of a kind -/
def fitKind (m : Msg) (x : List Wr) : Bool :=
  if m.kind = 2 then decide (0 ≤ m.op ∧ m.op ≤ 2 ∧ 0 ≤ m.block ∧ m.block < 32) && (m.op == 1 || m.val.zero)
  else if m.kind = 4 then Rc.may ⟨2, m.name, false, m.give, m.take, 0, 0, 0, 0⟩ x
  else if m.kind = 3 then m.e == 0 || ((m.e == 120 || m.e == 112 || m.e == 121 || m.e == 50) && m.val.zero)
  else if m.kind = 10 then m.e == 0 || m.e == 50 || m.e == 121
  else true
def fitB (h : Nat → Bool) (m : Msg) (x : List Wr) : Bool := fitHead h m && fitKind m x
set_option maxHeartbeats 1000000 in
theorem fit_any (m : Msg) (va : Option Addr) (vn vc : Nat) (x : List Wr) (d : Bool) (h : Nat → Bool) (w : World) (hv : Ws 0 w.heap.size w (.slice va vn vc) x) :
    Calls Try.prog 45 #[.agg (m.cells (.slice va vn vc)), .agg (kdL d h).toArray] w fun e w' => e = .returned (.bool (fitB h m x)) ∧ Below w.heap.size w w' := by
  have M := Mem.start w
  have hh1 : ∀ b : Bool, fitHead h m = b → fitB h m x = (b && fitKind m x) := fun b e => by unfold fitB; rw [e]
  refine calls_enter Try.func45 rfl 103 rfl rfl ?_; intro a S
  refine nxD ?_
  refine st_box S M rfl rfl rfl #[_, _, _, _, _, _, _, _, _, _, _, _, _, _, _, _, _, _, _, _, _, _, _, _] rfl ?_; clear S M a; intro a w1 bA S M hB
  refine st_box S M rfl rfl rfl #[_, _, _, _, _, _, _, _, _, _, _] rfl ?_; clear S M a; intro a w2 bK S M hB
  refine st_go [1] S rfl (by kernel_rfl) ?_; clear S a; intro a S
  refine nxC ?_
  refine wp_cut (fun a w' => Sees 103 a [(2, .pointer (some ⟨bA, 0, none⟩))] ∧ Mem w w' [.blk bK (kdL d h).toArray 107, .blk bA (m.cells (.slice va vn vc)) 45] ∧ fitHead h m = true) ?_ ?_
  · skip
    refine wp_block ?_
    refine nxD ?_
    refine st_go [2] S rfl (by kernel_rfl) ?_; clear S a; intro a S
    refine st_y S rfl rfl rfl (y_indexA (m := 10) (sz := 1) S (by kernel_rfl) rfl rfl (by first | omega | (simp; done) | (simp; omega))) ?_; clear S a; intro a S
    refine st_run [1, 1] S M rfl (by kernel_rfl) ?_; clear S a; intro a S
    refine st_tils (t := 10) S rfl ?_ ?_
    · clear S; intro h10 S
      refine st_go [0, 0, 0, 0, 1, 1] S rfl (by kernel_rfl) ?_; clear S a; intro a S
      refine nxC ?_
      refine st_condF S rfl ?_
      refine nxD ?_
      refine st_go [2] S rfl (by kernel_rfl) ?_; clear S a; intro a S
      refine st_y S rfl rfl rfl (y_indexA (m := 10) (sz := 1) S (by kernel_rfl) rfl rfl (by first | omega | (simp; done) | (simp; omega))) ?_; clear S a; intro a S
      refine st_run [1, 1] S M rfl (by kernel_rfl) ?_; clear S a; intro a S
      refine st_tils (t := 20) S rfl ?_ ?_
      · clear S; intro h20 S
        refine st_go [0, 0, 0, 0, 0, 0, 0, 0, 1, 1] S rfl (by kernel_rfl) ?_; clear S a; intro a S
        replace S := S.sub [(0, _), (1, _), (2, _), (3, _), (4, _), (6, _), (16, _)] rfl
        refine nxC ?_
        refine st_condF S rfl ?_
        refine wp_skip ?_
        refine block_normal ?_
        refine then_normal ?_
        have hF : fitHead h m = true := by
          unfold fitHead
          have e1 : (h 0 && !m.name.named) = false := by first | (rw [h10]; rfl) | (rw [show m.name.named = true by simpa using h6]; simp; done)
          have e2 : (h 1 && !withinB m.n 1048576) = false := by
            first
              | (rw [h20]; rfl)
              | (have : withinB m.n 1048576 = true := by unfold withinB; rw [decide_eq_true (by omega)]
                 rw [this]; simp)
          rw [e1, e2]; rfl
        exact ⟨S.sub _ rfl, M, hF⟩
      clear S; intro h20 S
      refine st_run [9, 2, 1, 1] S M rfl (by kernel_rfl) ?_; clear S a; intro a S
      refine st_if (t := 24) S rfl ?_ ?_
      · clear S; intro h24 S
        refine st_go [0, 0, 0, 1, 1, 1] S rfl (by kernel_rfl) ?_; clear S a; intro a S
        replace S := S.sub [(0, _), (1, _), (2, _), (3, _), (4, _), (6, _), (16, _)] rfl
        refine nxC ?_
        refine st_condT S rfl ?_
        refine wp_seq ?_
        have hF : fitHead h m = false := by
          unfold fitHead
          have : withinB m.n 1048576 = false := by unfold withinB; rw [decide_eq_false (by omega)]
          rw [this, h20]; simp
        refine wp_region_lit ?_
        refine st_go [1] S rfl (by kernel_rfl) ?_; clear S a; intro a S
        refine nxC ?_
        refine wp_ret ?_
        refine block_ret ?_
        refine then_ret ?_
        refine end_one S rfl (res_tmp rfl) ?_
        refine ⟨ret_bool ?_, M.below⟩; rw [hh1 _ hF]; rfl
      clear S; intro h24 S
      refine st_run [9, 2, 1, 1, 1, 1] S M rfl (by kernel_rfl) ?_; clear S a; intro a S
      replace S := S.sub [(0, _), (1, _), (2, _), (3, _), (4, _), (6, _), (16, _)] rfl
      refine nxC ?_
      refine st_if (t := 16) S rfl ?_ ?_
      · clear S; intro h16 S
        refine st_condT S rfl ?_
        refine wp_seq ?_
        have hF : fitHead h m = false := by
          unfold fitHead
          have : withinB m.n 1048576 = false := by unfold withinB; rw [decide_eq_false (by omega)]
          rw [this, h20]; simp
        refine wp_region_lit ?_
        refine st_go [1] S rfl (by kernel_rfl) ?_; clear S a; intro a S
        refine nxC ?_
        refine wp_ret ?_
        refine block_ret ?_
        refine then_ret ?_
        refine end_one S rfl (res_tmp rfl) ?_
        refine ⟨ret_bool ?_, M.below⟩; rw [hh1 _ hF]; rfl
      clear S; intro h16 S
      refine st_condF S rfl ?_
      refine wp_skip ?_
      refine block_normal ?_
      refine then_normal ?_
      have hF : fitHead h m = true := by
        unfold fitHead
        have e1 : (h 0 && !m.name.named) = false := by first | (rw [h10]; rfl) | (rw [show m.name.named = true by simpa using h6]; simp; done)
        have e2 : (h 1 && !withinB m.n 1048576) = false := by
          first
            | (rw [h20]; rfl)
            | (have : withinB m.n 1048576 = true := by unfold withinB; rw [decide_eq_true (by omega)]
               rw [this]; simp)
        rw [e1, e2]; rfl
      exact ⟨S.sub _ rfl, M, hF⟩
    clear S; intro h10 S
    refine st_go [6] S rfl (by kernel_rfl) ?_; clear S a; intro a S
    refine st_y S rfl rfl rfl (y_loadAgg (cs := [_, _, _]) S (by kernel_rfl) rfl rfl (M.cellsAt (k := 3) 1 rfl rfl)) ?_; clear S a; intro a S
    refine st_call (xs := [(Operand.tmp 12)]) S (enters_of Try.func30 (by decide) rfl) rfl rfl rfl (named_any m.name _) ?_
    rintro _ w3 ⟨rfl, hK⟩; refine ⟨_, rfl, ?_⟩; clear S a; intro a S; replace M := M.grow hK
    refine st_go [1, 1, 1] S rfl (by kernel_rfl) ?_; clear S a; intro a S
    refine nxC ?_
    refine st_split (t := 6) S rfl ?_ ?_
    · clear S; intro h6 S
      refine st_condT S rfl ?_
      refine wp_seq ?_
      have hF : fitHead h m = false := by unfold fitHead; rw [h10, show m.name.named = false by simpa using h6]; rfl
      refine wp_region_lit ?_
      refine st_go [1] S rfl (by kernel_rfl) ?_; clear S a; intro a S
      refine nxC ?_
      refine wp_ret ?_
      refine block_ret ?_
      refine then_ret ?_
      refine end_one S rfl (res_tmp rfl) ?_
      refine ⟨ret_bool ?_, M.below⟩; rw [hh1 _ hF]; rfl
    clear S; intro h6 S
    refine st_condF S rfl ?_
    refine nxD ?_
    refine st_go [2] S rfl (by kernel_rfl) ?_; clear S a; intro a S
    refine st_y S rfl rfl rfl (y_indexA (m := 10) (sz := 1) S (by kernel_rfl) rfl rfl (by first | omega | (simp; done) | (simp; omega))) ?_; clear S a; intro a S
    refine st_run [1, 1] S M rfl (by kernel_rfl) ?_; clear S a; intro a S
    refine st_tils (t := 20) S rfl ?_ ?_
    · clear S; intro h20 S
      refine st_go [0, 0, 0, 0, 0, 0, 0, 0, 1, 1] S rfl (by kernel_rfl) ?_; clear S a; intro a S
      replace S := S.sub [(0, _), (1, _), (2, _), (3, _), (4, _), (6, _), (16, _)] rfl
      refine nxC ?_
      refine st_condF S rfl ?_
      refine wp_skip ?_
      refine block_normal ?_
      refine then_normal ?_
      have hF : fitHead h m = true := by
        unfold fitHead
        have e1 : (h 0 && !m.name.named) = false := by first | (rw [h10]; rfl) | (rw [show m.name.named = true by simpa using h6]; simp; done)
        have e2 : (h 1 && !withinB m.n 1048576) = false := by
          first
            | (rw [h20]; rfl)
            | (have : withinB m.n 1048576 = true := by unfold withinB; rw [decide_eq_true (by omega)]
               rw [this]; simp)
        rw [e1, e2]; rfl
      exact ⟨S.sub _ rfl, M, hF⟩
    clear S; intro h20 S
    refine st_run [9, 2, 1, 1] S M rfl (by kernel_rfl) ?_; clear S a; intro a S
    refine st_if (t := 24) S rfl ?_ ?_
    · clear S; intro h24 S
      refine st_go [0, 0, 0, 1, 1, 1] S rfl (by kernel_rfl) ?_; clear S a; intro a S
      replace S := S.sub [(0, _), (1, _), (2, _), (3, _), (4, _), (6, _), (16, _)] rfl
      refine nxC ?_
      refine st_condT S rfl ?_
      refine wp_seq ?_
      have hF : fitHead h m = false := by
        unfold fitHead
        have : withinB m.n 1048576 = false := by unfold withinB; rw [decide_eq_false (by omega)]
        rw [this, h20]; simp
      refine wp_region_lit ?_
      refine st_go [1] S rfl (by kernel_rfl) ?_; clear S a; intro a S
      refine nxC ?_
      refine wp_ret ?_
      refine block_ret ?_
      refine then_ret ?_
      refine end_one S rfl (res_tmp rfl) ?_
      refine ⟨ret_bool ?_, M.below⟩; rw [hh1 _ hF]; rfl
    clear S; intro h24 S
    refine st_run [9, 2, 1, 1, 1, 1] S M rfl (by kernel_rfl) ?_; clear S a; intro a S
    replace S := S.sub [(0, _), (1, _), (2, _), (3, _), (4, _), (6, _), (16, _)] rfl
    refine nxC ?_
    refine st_if (t := 16) S rfl ?_ ?_
    · clear S; intro h16 S
      refine st_condT S rfl ?_
      refine wp_seq ?_
      have hF : fitHead h m = false := by
        unfold fitHead
        have : withinB m.n 1048576 = false := by unfold withinB; rw [decide_eq_false (by omega)]
        rw [this, h20]; simp
      refine wp_region_lit ?_
      refine st_go [1] S rfl (by kernel_rfl) ?_; clear S a; intro a S
      refine nxC ?_
      refine wp_ret ?_
      refine block_ret ?_
      refine then_ret ?_
      refine end_one S rfl (res_tmp rfl) ?_
      refine ⟨ret_bool ?_, M.below⟩; rw [hh1 _ hF]; rfl
    clear S; intro h16 S
    refine st_condF S rfl ?_
    refine wp_skip ?_
    refine block_normal ?_
    refine then_normal ?_
    have hF : fitHead h m = true := by
      unfold fitHead
      have e1 : (h 0 && !m.name.named) = false := by first | (rw [h10]; rfl) | (rw [show m.name.named = true by simpa using h6]; simp; done)
      have e2 : (h 1 && !withinB m.n 1048576) = false := by
        first
          | (rw [h20]; rfl)
          | (have : withinB m.n 1048576 = true := by unfold withinB; rw [decide_eq_true (by omega)]
             rw [this]; simp)
      rw [e1, e2]; rfl
    exact ⟨S.sub _ rfl, M, hF⟩
  clear S a M; intro a wc
  rintro ⟨S, M, hF⟩
  refine nxD ?_
  refine st_go [12] S rfl (by kernel_rfl) ?_; clear S a; intro a S
  refine st_y S rfl rfl rfl (y_loadAgg (cs := [_, _, _, _, _, _, _, _]) S (by kernel_rfl) rfl rfl (M.cellsAt (k := 8) 1 rfl rfl)) ?_; clear S a; intro a S
  refine st_y S rfl rfl rfl (y_buildA (ps := []) (sz := 1) (z := [.int .u8 0, .int .u8 0, .int .u8 0, .int .u8 0, .int .u8 0, .int .u8 0, .int .u8 0, .int .u8 0]) (cs := [_, _, _, _, _, _, _, _]) S (by kernel_rfl) rfl rfl) ?_; clear S a; intro a S
  refine st_y S rfl rfl rfl (y_eqlG (by kernel_rfl) S rfl rfl (fun w => equalV8 9998 m.val ⟨0, 0, 0, 0, 0, 0, 0, 0⟩ w)) ?_; clear S a; intro a S
  refine st_go [1] S rfl (by kernel_rfl) ?_; clear S a; intro a S
  refine nxC ?_
  refine wp_seq ?_
  refine nxD ?_
  refine st_run [1, 2] S M rfl (by kernel_rfl) ?_; clear S a; intro a S
  refine nxC ?_
  refine wp_block ?_
  refine nxD ?_
  refine st_go [1, 1] S rfl (by kernel_rfl) ?_; clear S a; intro a S
  refine nxC ?_
  refine st_if (t := 36) S rfl ?_ ?_
  · clear S; intro h36 S
    refine st_condT S rfl ?_
    refine nxD ?_
    refine st_run [10, 2, 1, 1] S M rfl (by kernel_rfl) ?_; clear S a; intro a S
    refine st_fi (t := 41) S rfl ?_ ?_
    · clear S; intro h41 S
      refine st_go [0, 0, 0, 1, 1, 0, 0, 0, 1, 1, 0, 0, 0, 1, 1, 0, 0, 0, 0, 0, 0, 1, 1] S rfl (by kernel_rfl) ?_; clear S a; intro a S
      replace S := S.sub [(2, _), (5, _), (35, _), (36, _), (4, _)] rfl
      refine nxC ?_
      refine wp_ret ?_
      refine block_ret ?_
      refine then_ret ?_
      refine end_one S rfl (res_tmp rfl) ?_
      refine ⟨ret_bool ?_, M.below⟩; rw [hh1 _ hF, Bool.true_and]; clear S M hF hh1
      unfold fitKind
      first
        | (rw [if_pos (by assumption)]
           first
             | (rw [decide_eq_false (p := 0 ≤ m.op ∧ m.op ≤ 2 ∧ 0 ≤ m.block ∧ m.block < 32) (by omega)]; rfl)
             | (rw [decide_eq_true (p := 0 ≤ m.op ∧ m.op ≤ 2 ∧ 0 ≤ m.block ∧ m.block < 32) (by omega)]; simp [V8.zero, *]; done))
        | (rw [if_neg (by omega), if_pos (by assumption)]; done)
        | (rw [if_neg (by omega), if_neg (by omega), if_pos (by assumption)]; simp [V8.zero, *]; done)
        | (rw [if_neg (by omega), if_neg (by omega), if_neg (by omega), if_pos (by assumption)]; simp [*]; done)
        | (rw [if_neg (by omega), if_neg (by omega), if_neg (by omega), if_neg (by omega)]; done)
    clear S; intro h41 S
    refine st_run [10, 2, 1, 1, 1] S M rfl (by kernel_rfl) ?_; clear S a; intro a S
    refine st_fi (t := 46) S rfl ?_ ?_
    · clear S; intro h46 S
      refine st_go [0, 0, 0, 1, 1, 0, 0, 0, 1, 1, 0, 0, 0, 0, 0, 0, 1, 1] S rfl (by kernel_rfl) ?_; clear S a; intro a S
      replace S := S.sub [(2, _), (5, _), (35, _), (36, _), (4, _)] rfl
      refine nxC ?_
      refine wp_ret ?_
      refine block_ret ?_
      refine then_ret ?_
      refine end_one S rfl (res_tmp rfl) ?_
      refine ⟨ret_bool ?_, M.below⟩; rw [hh1 _ hF, Bool.true_and]; clear S M hF hh1
      unfold fitKind
      first
        | (rw [if_pos (by assumption)]
           first
             | (rw [decide_eq_false (p := 0 ≤ m.op ∧ m.op ≤ 2 ∧ 0 ≤ m.block ∧ m.block < 32) (by omega)]; rfl)
             | (rw [decide_eq_true (p := 0 ≤ m.op ∧ m.op ≤ 2 ∧ 0 ≤ m.block ∧ m.block < 32) (by omega)]; simp [V8.zero, *]; done))
        | (rw [if_neg (by omega), if_pos (by assumption)]; done)
        | (rw [if_neg (by omega), if_neg (by omega), if_pos (by assumption)]; simp [V8.zero, *]; done)
        | (rw [if_neg (by omega), if_neg (by omega), if_neg (by omega), if_pos (by assumption)]; simp [*]; done)
        | (rw [if_neg (by omega), if_neg (by omega), if_neg (by omega), if_neg (by omega)]; done)
    clear S; intro h46 S
    refine st_run [11, 2, 1, 1, 1] S M rfl (by kernel_rfl) ?_; clear S a; intro a S
    refine st_fi (t := 51) S rfl ?_ ?_
    · clear S; intro h51 S
      refine st_go [0, 0, 0, 1, 1, 0, 0, 0, 0, 0, 0, 1, 1] S rfl (by kernel_rfl) ?_; clear S a; intro a S
      replace S := S.sub [(2, _), (5, _), (35, _), (36, _), (4, _)] rfl
      refine nxC ?_
      refine wp_ret ?_
      refine block_ret ?_
      refine then_ret ?_
      refine end_one S rfl (res_tmp rfl) ?_
      refine ⟨ret_bool ?_, M.below⟩; rw [hh1 _ hF, Bool.true_and]; clear S M hF hh1
      unfold fitKind
      first
        | (rw [if_pos (by assumption)]
           first
             | (rw [decide_eq_false (p := 0 ≤ m.op ∧ m.op ≤ 2 ∧ 0 ≤ m.block ∧ m.block < 32) (by omega)]; rfl)
             | (rw [decide_eq_true (p := 0 ≤ m.op ∧ m.op ≤ 2 ∧ 0 ≤ m.block ∧ m.block < 32) (by omega)]; simp [V8.zero, *]; done))
        | (rw [if_neg (by omega), if_pos (by assumption)]; done)
        | (rw [if_neg (by omega), if_neg (by omega), if_pos (by assumption)]; simp [V8.zero, *]; done)
        | (rw [if_neg (by omega), if_neg (by omega), if_neg (by omega), if_pos (by assumption)]; simp [*]; done)
        | (rw [if_neg (by omega), if_neg (by omega), if_neg (by omega), if_neg (by omega)]; done)
    clear S; intro h51 S
    refine st_run [11, 2, 1, 1, 1] S M rfl (by kernel_rfl) ?_; clear S a; intro a S
    refine st_fi (t := 56) S rfl ?_ ?_
    · clear S; intro h56 S
      refine st_go [0, 0, 0, 0, 0, 0, 1, 1] S rfl (by kernel_rfl) ?_; clear S a; intro a S
      replace S := S.sub [(2, _), (5, _), (35, _), (36, _), (4, _)] rfl
      refine nxC ?_
      refine wp_ret ?_
      refine block_ret ?_
      refine then_ret ?_
      refine end_one S rfl (res_tmp rfl) ?_
      refine ⟨ret_bool ?_, M.below⟩; rw [hh1 _ hF, Bool.true_and]; clear S M hF hh1
      unfold fitKind
      first
        | (rw [if_pos (by assumption)]
           first
             | (rw [decide_eq_false (p := 0 ≤ m.op ∧ m.op ≤ 2 ∧ 0 ≤ m.block ∧ m.block < 32) (by omega)]; rfl)
             | (rw [decide_eq_true (p := 0 ≤ m.op ∧ m.op ≤ 2 ∧ 0 ≤ m.block ∧ m.block < 32) (by omega)]; simp [V8.zero, *]; done))
        | (rw [if_neg (by omega), if_pos (by assumption)]; done)
        | (rw [if_neg (by omega), if_neg (by omega), if_pos (by assumption)]; simp [V8.zero, *]; done)
        | (rw [if_neg (by omega), if_neg (by omega), if_neg (by omega), if_pos (by assumption)]; simp [*]; done)
        | (rw [if_neg (by omega), if_neg (by omega), if_neg (by omega), if_neg (by omega)]; done)
    clear S; intro h56 S
    refine st_run [10, 2, 1, 1] S M rfl (by kernel_rfl) ?_; clear S a; intro a S
    refine st_if (t := 60) S rfl ?_ ?_
    · clear S; intro h60 S
      refine st_go [0, 1, 1, 1] S rfl (by kernel_rfl) ?_; clear S a; intro a S
      replace S := S.sub [(2, _), (5, _), (35, _), (36, _), (4, _)] rfl
      refine nxC ?_
      refine wp_ret ?_
      refine block_ret ?_
      refine then_ret ?_
      refine end_one S rfl (res_tmp rfl) ?_
      refine ⟨ret_bool ?_, M.below⟩; rw [hh1 _ hF, Bool.true_and]; clear S M hF hh1
      unfold fitKind
      first
        | (rw [if_pos (by assumption)]
           first
             | (rw [decide_eq_false (p := 0 ≤ m.op ∧ m.op ≤ 2 ∧ 0 ≤ m.block ∧ m.block < 32) (by omega)]; rfl)
             | (rw [decide_eq_true (p := 0 ≤ m.op ∧ m.op ≤ 2 ∧ 0 ≤ m.block ∧ m.block < 32) (by omega)]; simp [V8.zero, *]; done))
        | (rw [if_neg (by omega), if_pos (by assumption)]; done)
        | (rw [if_neg (by omega), if_neg (by omega), if_pos (by assumption)]; simp [V8.zero, *]; done)
        | (rw [if_neg (by omega), if_neg (by omega), if_neg (by omega), if_pos (by assumption)]; simp [*]; done)
        | (rw [if_neg (by omega), if_neg (by omega), if_neg (by omega), if_neg (by omega)]; done)
    clear S; intro h60 S
    refine st_go [1, 1, 1, 1] S rfl (by kernel_rfl) ?_; clear S a; intro a S
    replace S := S.sub [(2, _), (5, _), (35, _), (36, _), (4, _)] rfl
    refine nxC ?_
    refine wp_ret ?_
    refine block_ret ?_
    refine then_ret ?_
    refine end_one S rfl (res_tmp rfl) ?_
    refine ⟨ret_bool ?_, M.below⟩; rw [hh1 _ hF, Bool.true_and]; clear S M hF hh1
    unfold fitKind
    first
      | (rw [if_pos (by assumption)]
         first
           | (rw [decide_eq_false (p := 0 ≤ m.op ∧ m.op ≤ 2 ∧ 0 ≤ m.block ∧ m.block < 32) (by omega)]; rfl)
           | (rw [decide_eq_true (p := 0 ≤ m.op ∧ m.op ≤ 2 ∧ 0 ≤ m.block ∧ m.block < 32) (by omega)]; simp [V8.zero, *]; done))
      | (rw [if_neg (by omega), if_pos (by assumption)]; done)
      | (rw [if_neg (by omega), if_neg (by omega), if_pos (by assumption)]; simp [V8.zero, *]; done)
      | (rw [if_neg (by omega), if_neg (by omega), if_neg (by omega), if_pos (by assumption)]; simp [*]; done)
      | (rw [if_neg (by omega), if_neg (by omega), if_neg (by omega), if_neg (by omega)]; done)
  clear S; intro h36 S
  refine st_condF S rfl ?_
  refine nxD ?_
  refine st_go [1, 1] S rfl (by kernel_rfl) ?_; clear S a; intro a S
  refine nxC ?_
  refine st_if (t := 64) S rfl ?_ ?_
  · clear S; intro h64 S
    refine st_condT S rfl ?_
    refine nxD ?_
    refine st_go [6] S rfl (by kernel_rfl) ?_; clear S a; intro a S
    refine st_y S rfl rfl rfl (y_loadAgg (cs := [_, _, _]) S (by kernel_rfl) rfl rfl (M.cellsAt (k := 3) 1 rfl rfl)) ?_; clear S a; intro a S
    refine st_run [24, 2, 22, 2, 23, 2] S M rfl (by kernel_rfl) ?_; clear S a; intro a S
    refine st_y S rfl rfl rfl (y_build (ps := [(0, (Operand.const (Value.int IntKind.i8 2))), (1, (Operand.tmp 67)), (3, (Operand.tmp 69)), (4, (Operand.tmp 71)), (5, (Operand.tmp 73))]) (pl := [(0, 1), (1, 3), (4, 1), (5, 1), (6, 1), (7, 1), (8, 1), (9, 2), (11, 1)]) (z := [.int .i8 0, .int .i64 0, .int .i64 0, .int .i64 0, .bool false, .slice none 0 0, .int .i64 0, .int .i64 0, .int .i64 0, .int .i64 0, .int .i64 0, .int .i64 0]) (cs := [_, _, _, _, _, _, _, _, _, _, _, _]) S (by kernel_rfl) rfl (rfl)) ?_; clear S a; intro a S
    refine st_call (xs := [(Operand.tmp 74)]) S (enters_of Try.func56 (by decide) rfl) rfl rfl rfl (may_any ⟨2, m.name, false, m.give, m.take, 0, 0, 0, 0⟩ va vn vc x _ (by simp) (M.argW hv)) ?_
    rintro _ w4 ⟨rfl, hK⟩; refine ⟨_, rfl, ?_⟩; clear S a; intro a S; replace M := M.grow hK
    refine st_go [1] S rfl (by kernel_rfl) ?_; clear S a; intro a S
    replace S := S.sub [(2, _), (5, _), (35, _), (36, _), (64, _), (4, _)] rfl
    refine nxC ?_
    refine wp_ret ?_
    refine block_ret ?_
    refine then_ret ?_
    refine end_one S rfl (res_tmp rfl) ?_
    refine ⟨ret_bool ?_, M.below⟩; rw [hh1 _ hF, Bool.true_and]; clear S M hF hh1
    unfold fitKind
    first
      | (rw [if_pos (by assumption)]
         first
           | (rw [decide_eq_false (p := 0 ≤ m.op ∧ m.op ≤ 2 ∧ 0 ≤ m.block ∧ m.block < 32) (by omega)]; rfl)
           | (rw [decide_eq_true (p := 0 ≤ m.op ∧ m.op ≤ 2 ∧ 0 ≤ m.block ∧ m.block < 32) (by omega)]; simp [V8.zero, *]; done))
      | (rw [if_neg (by omega), if_pos (by assumption)]; done)
      | (rw [if_neg (by omega), if_neg (by omega), if_pos (by assumption)]; simp [V8.zero, *]; done)
      | (rw [if_neg (by omega), if_neg (by omega), if_neg (by omega), if_pos (by assumption)]; simp [*]; done)
      | (rw [if_neg (by omega), if_neg (by omega), if_neg (by omega), if_neg (by omega)]; done)
  clear S; intro h64 S
  refine st_condF S rfl ?_
  refine nxD ?_
  refine st_go [1, 1] S rfl (by kernel_rfl) ?_; clear S a; intro a S
  refine nxC ?_
  refine st_fi (t := 76) S rfl ?_ ?_
  · clear S; intro h76 S
    refine st_condF S rfl ?_
    refine nxD ?_
    refine st_go [1, 1] S rfl (by kernel_rfl) ?_; clear S a; intro a S
    refine nxC ?_
    refine st_fi (t := 88) S rfl ?_ ?_
    · clear S; intro h88 S
      refine st_condF S rfl ?_
      refine wp_skip ?_
      refine block_normal ?_
      refine nxE ?_
      refine st_go [1] S rfl (by kernel_rfl) ?_; clear S a; intro a S
      refine nxC ?_
      refine wp_ret ?_
      refine end_one S rfl (res_tmp rfl) ?_
      refine ⟨ret_bool ?_, M.below⟩; rw [hh1 _ hF, Bool.true_and]; clear S M hF hh1
      unfold fitKind
      first
        | (rw [if_pos (by assumption)]
           first
             | (rw [decide_eq_false (p := 0 ≤ m.op ∧ m.op ≤ 2 ∧ 0 ≤ m.block ∧ m.block < 32) (by omega)]; rfl)
             | (rw [decide_eq_true (p := 0 ≤ m.op ∧ m.op ≤ 2 ∧ 0 ≤ m.block ∧ m.block < 32) (by omega)]; simp [V8.zero, *]; done))
        | (rw [if_neg (by omega), if_pos (by assumption)]; done)
        | (rw [if_neg (by omega), if_neg (by omega), if_pos (by assumption)]; simp [V8.zero, *]; done)
        | (rw [if_neg (by omega), if_neg (by omega), if_neg (by omega), if_pos (by assumption)]; simp [*]; done)
        | (rw [if_neg (by omega), if_neg (by omega), if_neg (by omega), if_neg (by omega)]; done)
    clear S; intro h88 S
    refine st_condT S rfl ?_
    refine nxD ?_
    refine st_run [20, 2, 1, 1] S M rfl (by kernel_rfl) ?_; clear S a; intro a S
    refine st_if (t := 93) S rfl ?_ ?_
    · clear S; intro h93 S
      refine st_go [0, 0, 0, 1, 1, 0, 0, 0, 1, 1] S rfl (by kernel_rfl) ?_; clear S a; intro a S
      replace S := S.sub [(2, _), (5, _), (35, _), (36, _), (64, _), (76, _), (88, _), (4, _)] rfl
      refine nxC ?_
      refine wp_ret ?_
      refine block_ret ?_
      refine then_ret ?_
      refine end_one S rfl (res_tmp rfl) ?_
      refine ⟨ret_bool ?_, M.below⟩; rw [hh1 _ hF, Bool.true_and]; clear S M hF hh1
      unfold fitKind
      first
        | (rw [if_pos (by assumption)]
           first
             | (rw [decide_eq_false (p := 0 ≤ m.op ∧ m.op ≤ 2 ∧ 0 ≤ m.block ∧ m.block < 32) (by omega)]; rfl)
             | (rw [decide_eq_true (p := 0 ≤ m.op ∧ m.op ≤ 2 ∧ 0 ≤ m.block ∧ m.block < 32) (by omega)]; simp [V8.zero, *]; done))
        | (rw [if_neg (by omega), if_pos (by assumption)]; done)
        | (rw [if_neg (by omega), if_neg (by omega), if_pos (by assumption)]; simp [V8.zero, *]; done)
        | (rw [if_neg (by omega), if_neg (by omega), if_neg (by omega), if_pos (by assumption)]; simp [*]; done)
        | (rw [if_neg (by omega), if_neg (by omega), if_neg (by omega), if_neg (by omega)]; done)
    clear S; intro h93 S
    refine st_run [20, 2, 1, 1, 1] S M rfl (by kernel_rfl) ?_; clear S a; intro a S
    refine st_if (t := 98) S rfl ?_ ?_
    · clear S; intro h98 S
      refine st_go [0, 0, 0, 1, 1] S rfl (by kernel_rfl) ?_; clear S a; intro a S
      replace S := S.sub [(2, _), (5, _), (35, _), (36, _), (64, _), (76, _), (88, _), (4, _)] rfl
      refine nxC ?_
      refine wp_ret ?_
      refine block_ret ?_
      refine then_ret ?_
      refine end_one S rfl (res_tmp rfl) ?_
      refine ⟨ret_bool ?_, M.below⟩; rw [hh1 _ hF, Bool.true_and]; clear S M hF hh1
      unfold fitKind
      first
        | (rw [if_pos (by assumption)]
           first
             | (rw [decide_eq_false (p := 0 ≤ m.op ∧ m.op ≤ 2 ∧ 0 ≤ m.block ∧ m.block < 32) (by omega)]; rfl)
             | (rw [decide_eq_true (p := 0 ≤ m.op ∧ m.op ≤ 2 ∧ 0 ≤ m.block ∧ m.block < 32) (by omega)]; simp [V8.zero, *]; done))
        | (rw [if_neg (by omega), if_pos (by assumption)]; done)
        | (rw [if_neg (by omega), if_neg (by omega), if_pos (by assumption)]; simp [V8.zero, *]; done)
        | (rw [if_neg (by omega), if_neg (by omega), if_neg (by omega), if_pos (by assumption)]; simp [*]; done)
        | (rw [if_neg (by omega), if_neg (by omega), if_neg (by omega), if_neg (by omega)]; done)
    clear S; intro h98 S
    refine st_run [20, 2, 1, 1, 1] S M rfl (by kernel_rfl) ?_; clear S a; intro a S
    replace S := S.sub [(2, _), (5, _), (35, _), (36, _), (64, _), (76, _), (88, _), (4, _)] rfl
    refine nxC ?_
    refine wp_ret ?_
    refine block_ret ?_
    refine then_ret ?_
    refine end_one S rfl (res_tmp rfl) ?_
    refine ⟨ret_bool ?_, M.below⟩; rw [hh1 _ hF, Bool.true_and]; clear S M hF hh1
    unfold fitKind
    first
      | (rw [if_pos (by assumption)]
         first
           | (rw [decide_eq_false (p := 0 ≤ m.op ∧ m.op ≤ 2 ∧ 0 ≤ m.block ∧ m.block < 32) (by omega)]; rfl)
           | (rw [decide_eq_true (p := 0 ≤ m.op ∧ m.op ≤ 2 ∧ 0 ≤ m.block ∧ m.block < 32) (by omega)]; simp [V8.zero, *]; done))
      | (rw [if_neg (by omega), if_pos (by assumption)]; done)
      | (rw [if_neg (by omega), if_neg (by omega), if_pos (by assumption)]; simp [V8.zero, *]; done)
      | (rw [if_neg (by omega), if_neg (by omega), if_neg (by omega), if_pos (by assumption)]; simp [*]; done)
      | (rw [if_neg (by omega), if_neg (by omega), if_neg (by omega), if_neg (by omega)]; done)
  clear S; intro h76 S
  refine st_condT S rfl ?_
  refine wp_seq ?_
  refine nxD ?_
  refine st_run [20, 2] S M rfl (by kernel_rfl) ?_; clear S a; intro a S
  refine nxC ?_
  refine wp_block ?_
  refine nxD ?_
  refine st_go [1, 1] S rfl (by kernel_rfl) ?_; clear S a; intro a S
  refine nxC ?_
  refine st_if (t := 80) S rfl ?_ ?_
  · clear S; intro h80 S
    refine st_condT S rfl ?_
    refine nxD ?_
    refine st_go [1] S rfl (by kernel_rfl) ?_; clear S a; intro a S
    refine nxC ?_
    refine wp_ret ?_
    refine block_ret ?_
    refine then_ret ?_
    refine block_ret ?_
    refine then_ret ?_
    refine end_one S rfl (res_tmp rfl) ?_
    refine ⟨ret_bool ?_, M.below⟩; rw [hh1 _ hF, Bool.true_and]; clear S M hF hh1
    unfold fitKind
    first
      | (rw [if_pos (by assumption)]
         first
           | (rw [decide_eq_false (p := 0 ≤ m.op ∧ m.op ≤ 2 ∧ 0 ≤ m.block ∧ m.block < 32) (by omega)]; rfl)
           | (rw [decide_eq_true (p := 0 ≤ m.op ∧ m.op ≤ 2 ∧ 0 ≤ m.block ∧ m.block < 32) (by omega)]; simp [V8.zero, *]; done))
      | (rw [if_neg (by omega), if_pos (by assumption)]; done)
      | (rw [if_neg (by omega), if_neg (by omega), if_pos (by assumption)]; simp [V8.zero, *]; done)
      | (rw [if_neg (by omega), if_neg (by omega), if_neg (by omega), if_pos (by assumption)]; simp [*]; done)
      | (rw [if_neg (by omega), if_neg (by omega), if_neg (by omega), if_neg (by omega)]; done)
  clear S; intro h80 S
  refine st_condF S rfl ?_
  refine wp_seq ?_
  refine nxD ?_
  refine st_go [1, 1] S rfl (by kernel_rfl) ?_; clear S a; intro a S
  refine nxC ?_
  refine st_if (t := 82) S rfl ?_ ?_
  · clear S; intro h82 S
    refine st_condT S rfl ?_
    refine wp_skip ?_
    refine then_normal ?_
    refine st_condT S rfl ?_
    refine nxD ?_
    refine st_go [1, 1] S rfl (by kernel_rfl) ?_; clear S a; intro a S
    refine nxC ?_
    refine wp_ret ?_
    refine block_ret ?_
    refine then_ret ?_
    refine block_ret ?_
    refine then_ret ?_
    refine end_one S rfl (res_tmp rfl) ?_
    refine ⟨ret_bool ?_, M.below⟩; rw [hh1 _ hF, Bool.true_and]; clear S M hF hh1
    unfold fitKind
    first
      | (rw [if_pos (by assumption)]
         first
           | (rw [decide_eq_false (p := 0 ≤ m.op ∧ m.op ≤ 2 ∧ 0 ≤ m.block ∧ m.block < 32) (by omega)]; rfl)
           | (rw [decide_eq_true (p := 0 ≤ m.op ∧ m.op ≤ 2 ∧ 0 ≤ m.block ∧ m.block < 32) (by omega)]; simp [V8.zero, *]; done))
      | (rw [if_neg (by omega), if_pos (by assumption)]; done)
      | (rw [if_neg (by omega), if_neg (by omega), if_pos (by assumption)]; simp [V8.zero, *]; done)
      | (rw [if_neg (by omega), if_neg (by omega), if_neg (by omega), if_pos (by assumption)]; simp [*]; done)
      | (rw [if_neg (by omega), if_neg (by omega), if_neg (by omega), if_neg (by omega)]; done)
  clear S; intro h82 S
  refine st_condF S rfl ?_
  refine nxD ?_
  refine st_go [1, 1] S rfl (by kernel_rfl) ?_; clear S a; intro a S
  refine nxC ?_
  refine st_if (t := 82) S rfl ?_ ?_
  · clear S; intro h82 S
    refine st_condT S rfl ?_
    refine wp_skip ?_
    refine then_normal ?_
    refine st_condT S rfl ?_
    refine nxD ?_
    refine st_go [1, 1] S rfl (by kernel_rfl) ?_; clear S a; intro a S
    replace S := S.sub [(2, _), (5, _), (35, _), (36, _), (64, _), (76, _), (79, _), (80, _), (82, _), (4, _)] rfl
    refine nxC ?_
    refine wp_ret ?_
    refine block_ret ?_
    refine then_ret ?_
    refine block_ret ?_
    refine then_ret ?_
    refine end_one S rfl (res_tmp rfl) ?_
    refine ⟨ret_bool ?_, M.below⟩; rw [hh1 _ hF, Bool.true_and]; clear S M hF hh1
    unfold fitKind
    first
      | (rw [if_pos (by assumption)]
         first
           | (rw [decide_eq_false (p := 0 ≤ m.op ∧ m.op ≤ 2 ∧ 0 ≤ m.block ∧ m.block < 32) (by omega)]; rfl)
           | (rw [decide_eq_true (p := 0 ≤ m.op ∧ m.op ≤ 2 ∧ 0 ≤ m.block ∧ m.block < 32) (by omega)]; simp [V8.zero, *]; done))
      | (rw [if_neg (by omega), if_pos (by assumption)]; done)
      | (rw [if_neg (by omega), if_neg (by omega), if_pos (by assumption)]; simp [V8.zero, *]; done)
      | (rw [if_neg (by omega), if_neg (by omega), if_neg (by omega), if_pos (by assumption)]; simp [*]; done)
      | (rw [if_neg (by omega), if_neg (by omega), if_neg (by omega), if_neg (by omega)]; done)
  clear S; intro h82 S
  refine st_condF S rfl ?_
  refine nxD ?_
  refine st_go [1, 1] S rfl (by kernel_rfl) ?_; clear S a; intro a S
  replace S := S.sub [(2, _), (5, _), (35, _), (36, _), (64, _), (76, _), (79, _), (80, _), (82, _)] rfl
  refine nxC ?_
  refine st_if (t := 82) S rfl ?_ ?_
  · clear S; intro h82 S
    refine st_condT S rfl ?_
    refine wp_skip ?_
    refine then_normal ?_
    refine st_condT S rfl ?_
    refine nxD ?_
    refine st_go [1, 1] S rfl (by kernel_rfl) ?_; clear S a; intro a S
    refine nxC ?_
    refine wp_ret ?_
    refine block_ret ?_
    refine then_ret ?_
    refine block_ret ?_
    refine then_ret ?_
    refine end_one S rfl (res_tmp rfl) ?_
    refine ⟨ret_bool ?_, M.below⟩; rw [hh1 _ hF, Bool.true_and]; clear S M hF hh1
    unfold fitKind
    first
      | (rw [if_pos (by assumption)]
         first
           | (rw [decide_eq_false (p := 0 ≤ m.op ∧ m.op ≤ 2 ∧ 0 ≤ m.block ∧ m.block < 32) (by omega)]; rfl)
           | (rw [decide_eq_true (p := 0 ≤ m.op ∧ m.op ≤ 2 ∧ 0 ≤ m.block ∧ m.block < 32) (by omega)]; simp [V8.zero, *]; done))
      | (rw [if_neg (by omega), if_pos (by assumption)]; done)
      | (rw [if_neg (by omega), if_neg (by omega), if_pos (by assumption)]; simp [V8.zero, *]; done)
      | (rw [if_neg (by omega), if_neg (by omega), if_neg (by omega), if_pos (by assumption)]; simp [*]; done)
      | (rw [if_neg (by omega), if_neg (by omega), if_neg (by omega), if_neg (by omega)]; done)
  clear S; intro h82 S
  refine st_condF S rfl ?_
  refine wp_region_lit ?_
  refine st_go [1, 1] S rfl (by kernel_rfl) ?_; clear S a; intro a S
  refine nxC ?_
  refine st_if (t := 82) S rfl ?_ ?_
  · clear S; intro h82 S
    refine st_condT S rfl ?_
    refine nxD ?_
    refine st_go [1, 1] S rfl (by kernel_rfl) ?_; clear S a; intro a S
    refine nxC ?_
    refine wp_ret ?_
    refine block_ret ?_
    refine then_ret ?_
    refine block_ret ?_
    refine then_ret ?_
    refine end_one S rfl (res_tmp rfl) ?_
    refine ⟨ret_bool ?_, M.below⟩; rw [hh1 _ hF, Bool.true_and]; clear S M hF hh1
    unfold fitKind
    first
      | (rw [if_pos (by assumption)]
         first
           | (rw [decide_eq_false (p := 0 ≤ m.op ∧ m.op ≤ 2 ∧ 0 ≤ m.block ∧ m.block < 32) (by omega)]; rfl)
           | (rw [decide_eq_true (p := 0 ≤ m.op ∧ m.op ≤ 2 ∧ 0 ≤ m.block ∧ m.block < 32) (by omega)]; simp [V8.zero, *]; done))
      | (rw [if_neg (by omega), if_pos (by assumption)]; done)
      | (rw [if_neg (by omega), if_neg (by omega), if_pos (by assumption)]; simp [V8.zero, *]; done)
      | (rw [if_neg (by omega), if_neg (by omega), if_neg (by omega), if_pos (by assumption)]; simp [*]; done)
      | (rw [if_neg (by omega), if_neg (by omega), if_neg (by omega), if_neg (by omega)]; done)
  clear S; intro h82 S
  refine st_condF S rfl ?_
  refine wp_skip ?_
  refine block_normal ?_
  refine nxE ?_
  refine st_go [1] S rfl (by kernel_rfl) ?_; clear S a; intro a S
  refine nxC ?_
  refine wp_ret ?_
  refine block_ret ?_
  refine then_ret ?_
  refine end_one S rfl (res_tmp rfl) ?_
  refine ⟨ret_bool ?_, M.below⟩; rw [hh1 _ hF, Bool.true_and]; clear S M hF hh1
  unfold fitKind
  first
    | (rw [if_pos (by assumption)]
       first
         | (rw [decide_eq_false (p := 0 ≤ m.op ∧ m.op ≤ 2 ∧ 0 ≤ m.block ∧ m.block < 32) (by omega)]; rfl)
         | (rw [decide_eq_true (p := 0 ≤ m.op ∧ m.op ≤ 2 ∧ 0 ≤ m.block ∧ m.block < 32) (by omega)]; simp [V8.zero, *]; done))
    | (rw [if_neg (by omega), if_pos (by assumption)]; done)
    | (rw [if_neg (by omega), if_neg (by omega), if_pos (by assumption)]; simp [V8.zero, *]; done)
    | (rw [if_neg (by omega), if_neg (by omega), if_neg (by omega), if_pos (by assumption)]; simp [*]; done)
    | (rw [if_neg (by omega), if_neg (by omega), if_neg (by omega), if_neg (by omega)]; done)
/-- may a message be? -/
def Msg.may (m : Msg) (x : List Wr) : Bool :=
  if 1 ≤ m.kind ∧ m.kind ≤ 11 ∧ betweenB m.frm m.to (kdown m.kind) = true ∧ 1 ≤ m.inc ∧ m.inc ≤ 1048576 ∧ 0 ≤ m.your ∧ m.your ≤ 1048576 then
    m.same (bareM (khas m.kind) 10 m) x (bareX (khas m.kind) x) && fitB (khas m.kind) m x else false
set_option maxHeartbeats 1000000 in
theorem mayM_any (m : Msg) (va : Option Addr) (vn vc : Nat) (x : List Wr) (w : World) (hv : Ws 0 w.heap.size w (.slice va vn vc) x) :
    Calls Try.prog 21 #[.agg (m.cells (.slice va vn vc))] w fun e w' => e = .returned (.bool (m.may x)) ∧ Below w.heap.size w w' := by
  have M := Mem.start w
  generalize hR : m.may x = R
  refine calls_enter Try.func21 rfl 48 rfl rfl ?_; intro a S
  refine nxD ?_
  refine st_box S M rfl rfl rfl #[_, _, _, _, _, _, _, _, _, _, _, _, _, _, _, _, _, _, _, _, _, _, _, _] rfl ?_; clear S M a; intro a w1 b1 S M hB
  refine st_go [1] S rfl (by kernel_rfl) ?_; clear S a; intro a S
  refine nxA ?_
  refine st_run [1, 1] S M rfl (by kernel_rfl) ?_; clear S a; intro a S
  refine st_call (xs := [(Operand.tmp 7)]) S (enters_of Try.func41 (by decide) rfl) rfl rfl rfl (kindOf_any _ _) ?_
  rintro _ w2 ⟨rfl, hK⟩; refine ⟨_, rfl, ?_⟩; clear S a; intro a S; replace M := M.grow hK
  refine st_go [1, 1, 1] S rfl (by kernel_rfl) ?_; clear S a; intro a S
  refine st_alloc S M rfl rfl #[.bool false, .bool false, .bool false, .bool false, .bool false, .bool false, .bool false, .bool false, .bool false, .bool false, .bool false] (by kernel_rfl) ?_; clear S M a; intro a w3 b2 S M hB
  refine st_store (sz := 11) (us := [_, _, _, _, _, _, _, _, _, _, _]) S M 0 rfl (by kernel_rfl) rfl rfl rfl rfl rfl rfl (by first | decide | (simp; done) | (simp; omega)) ?_; clear M; intro w4 M
  simp only [putL, List.set_cons_zero, List.set_cons_succ, Nat.reduceAdd] at M
  refine st_go [1] S rfl (by kernel_rfl) ?_; clear S a; intro a S
  refine nxC ?_
  refine wp_seq ?_
  refine nxD ?_
  refine st_go [1, 1, 1] S rfl (by kernel_rfl) ?_; clear S a; intro a S
  refine st_split (t := 13) S rfl ?_ ?_
  · clear S; intro h13 S
    refine st_go [0, 0, 0, 0, 0, 1] S rfl (by kernel_rfl) ?_; clear S a; intro a S
    replace S := S.sub [(0, _), (1, _), (2, _), (3, _), (4, _), (19, _)] rfl
    refine nxC ?_
    refine st_condT S rfl ?_
    refine wp_seq ?_
    have hno : ¬ (1 ≤ m.kind ∧ m.kind ≤ 11 ∧ betweenB m.frm m.to (kdown m.kind) = true ∧ 1 ≤ m.inc ∧ m.inc ≤ 1048576 ∧ 0 ≤ m.your ∧ m.your ≤ 1048576) := by
      rintro ⟨q1, q2, q3, -⟩
      first
        | (have : isKind m.kind = true := by unfold isKind; rw [decide_eq_true ⟨q1, q2⟩]
           rw [this] at h13; simp at h13; done)
        | (rw [q3] at h19; simp at h19; done)
    refine wp_region_lit ?_
    refine st_go [1] S rfl (by kernel_rfl) ?_; clear S a; intro a S
    refine nxC ?_
    refine wp_ret ?_
    refine then_ret ?_
    refine end_one S rfl (res_tmp rfl) ?_
    exact ⟨ret_bool (by rw [← hR]; unfold Msg.may; rw [if_neg hno]), M.below⟩
  clear S; intro h13 S
  refine st_y S rfl rfl rfl (y_loadAgg (cs := [_, _, _, _, _, _, _, _, _, _, _, _, _, _, _, _, _, _, _, _, _, _, _, _]) S (by kernel_rfl) rfl rfl (M.cellsAt (k := 24) 1 rfl rfl)) ?_; clear S a; intro a S
  refine st_run [1, 1] S M rfl (by kernel_rfl) ?_; clear S a; intro a S
  refine st_call (xs := [(Operand.tmp 14), (Operand.tmp 16)]) S (enters_of Try.func42 (by decide) rfl) rfl rfl rfl (between_any m _ _ _ _ _) ?_
  rintro _ w5 ⟨rfl, hK⟩; refine ⟨_, rfl, ?_⟩; clear S a; intro a S; replace M := M.grow hK
  refine st_go [1, 1] S rfl (by kernel_rfl) ?_; clear S a; intro a S
  replace S := S.sub [(0, _), (1, _), (2, _), (3, _), (4, _), (19, _)] rfl
  refine nxC ?_
  refine st_split (t := 19) S rfl ?_ ?_
  · clear S; intro h19 S
    refine st_condT S rfl ?_
    refine wp_seq ?_
    have hno : ¬ (1 ≤ m.kind ∧ m.kind ≤ 11 ∧ betweenB m.frm m.to (kdown m.kind) = true ∧ 1 ≤ m.inc ∧ m.inc ≤ 1048576 ∧ 0 ≤ m.your ∧ m.your ≤ 1048576) := by
      rintro ⟨q1, q2, q3, -⟩
      first
        | (have : isKind m.kind = true := by unfold isKind; rw [decide_eq_true ⟨q1, q2⟩]
           rw [this] at h13; simp at h13; done)
        | (rw [q3] at h19; simp at h19; done)
    refine wp_region_lit ?_
    refine st_go [1] S rfl (by kernel_rfl) ?_; clear S a; intro a S
    refine nxC ?_
    refine wp_ret ?_
    refine then_ret ?_
    refine end_one S rfl (res_tmp rfl) ?_
    exact ⟨ret_bool (by rw [← hR]; unfold Msg.may; rw [if_neg hno]), M.below⟩
  clear S; intro h19 S
  refine st_condF S rfl ?_
  refine wp_skip ?_
  refine then_normal ?_
  refine wp_seq ?_
  refine wp_seq ?_
  have hk : 1 ≤ m.kind ∧ m.kind ≤ 11 := by
    have : isKind m.kind = true := by simpa using h13
    unfold isKind at this; simpa using this
  have hbt : betweenB m.frm m.to (kdown m.kind) = true := by simpa using h19
  refine wp_region_lit ?_
  refine st_run [4, 2, 1, 1] S M rfl (by kernel_rfl) ?_; clear S a; intro a S
  refine st_if (t := 23) S rfl ?_ ?_
  · clear S; intro h23 S
    refine st_go [0, 0, 0, 1, 1, 0, 0, 0, 1, 1, 0, 0, 0, 1] S rfl (by kernel_rfl) ?_; clear S a; intro a S
    replace S := S.sub [(0, _), (1, _), (2, _), (3, _), (4, _), (19, _), (37, _)] rfl
    refine nxC ?_
    refine st_condT S rfl ?_
    refine nxD ?_
    refine st_go [1] S rfl (by kernel_rfl) ?_; clear S a; intro a S
    refine nxC ?_
    refine wp_ret ?_
    refine then_ret ?_
    refine end_one S rfl (res_tmp rfl) ?_
    exact ⟨ret_bool (by rw [← hR]; unfold Msg.may; rw [if_neg (by rintro ⟨-, -, -, q4, q5, q6, q7⟩; omega)]), M.below⟩
  clear S; intro h23 S
  refine st_run [4, 2, 1, 1, 1] S M rfl (by kernel_rfl) ?_; clear S a; intro a S
  refine st_if (t := 28) S rfl ?_ ?_
  · clear S; intro h28 S
    refine st_go [0, 0, 0, 1, 1, 0, 0, 0, 1] S rfl (by kernel_rfl) ?_; clear S a; intro a S
    replace S := S.sub [(0, _), (1, _), (2, _), (3, _), (4, _), (19, _), (37, _)] rfl
    refine nxC ?_
    refine st_condT S rfl ?_
    refine nxD ?_
    refine st_go [1] S rfl (by kernel_rfl) ?_; clear S a; intro a S
    refine nxC ?_
    refine wp_ret ?_
    refine then_ret ?_
    refine end_one S rfl (res_tmp rfl) ?_
    exact ⟨ret_bool (by rw [← hR]; unfold Msg.may; rw [if_neg (by rintro ⟨-, -, -, q4, q5, q6, q7⟩; omega)]), M.below⟩
  clear S; intro h28 S
  refine st_run [5, 2, 1, 1, 1] S M rfl (by kernel_rfl) ?_; clear S a; intro a S
  refine st_if (t := 33) S rfl ?_ ?_
  · clear S; intro h33 S
    refine st_go [0, 0, 0, 1] S rfl (by kernel_rfl) ?_; clear S a; intro a S
    replace S := S.sub [(0, _), (1, _), (2, _), (3, _), (4, _), (19, _), (37, _)] rfl
    refine nxC ?_
    refine st_condT S rfl ?_
    refine nxD ?_
    refine st_go [1] S rfl (by kernel_rfl) ?_; clear S a; intro a S
    refine nxC ?_
    refine wp_ret ?_
    refine then_ret ?_
    refine end_one S rfl (res_tmp rfl) ?_
    exact ⟨ret_bool (by rw [← hR]; unfold Msg.may; rw [if_neg (by rintro ⟨-, -, -, q4, q5, q6, q7⟩; omega)]), M.below⟩
  clear S; intro h33 S
  refine st_run [5, 2, 1, 1] S M rfl (by kernel_rfl) ?_; clear S a; intro a S
  replace S := S.sub [(0, _), (1, _), (2, _), (3, _), (4, _), (19, _), (37, _)] rfl
  refine nxC ?_
  refine st_if (t := 37) S rfl ?_ ?_
  · clear S; intro h37 S
    refine st_condT S rfl ?_
    refine nxD ?_
    refine st_go [1] S rfl (by kernel_rfl) ?_; clear S a; intro a S
    refine nxC ?_
    refine wp_ret ?_
    refine then_ret ?_
    refine end_one S rfl (res_tmp rfl) ?_
    exact ⟨ret_bool (by rw [← hR]; unfold Msg.may; rw [if_neg (by rintro ⟨-, -, -, q4, q5, q6, q7⟩; omega)]), M.below⟩
  clear S; intro h37 S
  refine st_condF S rfl ?_
  refine wp_skip ?_
  refine then_normal ?_
  refine wp_seq ?_
  have hyes : (1 ≤ m.kind ∧ m.kind ≤ 11 ∧ betweenB m.frm m.to (kdown m.kind) = true ∧ 1 ≤ m.inc ∧ m.inc ≤ 1048576 ∧ 0 ≤ m.your ∧ m.your ≤ 1048576) := ⟨hk.1, hk.2, hbt, by omega, by omega, by omega, by omega⟩
  refine wp_regionK [] #[false, false, false, false, false, false, false, false, false, false, false] rfl M (by kernel_rfl) ?_; clear M; intro w6 M
  refine k_read (listed' := #[true, false, false, false, false, false, false, false, false, false, false]) 0 S rfl rfl rfl rfl (by kernel_rfl) rfl (fun _ d _ _ _ h => by cases d <;> exact h) (fun w hW => have M := M.grow hW; y_loadAgg (cs := [_, _, _, _, _, _, _, _, _, _, _, _, _, _, _, _, _, _, _, _, _, _, _, _]) S (by kernel_rfl) rfl rfl (M.cellsAt (k := 24) 1 rfl rfl)) ?_; clear S a; intro a S
  refine k_read (listed' := #[true, true, false, false, false, false, false, false, false, false, false]) 1 S rfl rfl rfl rfl (by kernel_rfl) rfl (fun _ d _ _ _ h => by cases d <;> exact h) (fun w hW => have M := M.grow hW; y_loadAgg (cs := [_, _, _, _, _, _, _, _, _, _, _, _, _, _, _, _, _, _, _, _, _, _, _, _]) S (by kernel_rfl) rfl rfl (M.cellsAt (k := 24) 1 rfl rfl)) ?_; clear S a; intro a S
  refine k_read (listed' := #[true, true, true, false, false, false, false, false, false, false, false]) 2 S rfl rfl rfl rfl (by kernel_rfl) rfl (fun _ d _ _ _ h => by cases d <;> exact h) (fun w hW => have M := M.grow hW; y_loadAgg (cs := [_, _, _, _, _, _, _, _, _, _, _]) S (by kernel_rfl) rfl rfl (M.cellsAt (k := 11) 0 rfl rfl)) ?_; clear S a; intro a S
  refine k_one (listed' := #[true, true, true, true, false, false, false, false, false, false, false]) 3 rfl (by kernel_rfl) rfl ?_
  refine st_call (xs := [(Operand.tmp 39), (Operand.tmp 40)]) S (enters_of Try.func44 (by decide) rfl) rfl rfl rfl (bare_any m va vn vc x (kdown m.kind) (khas m.kind) _) ?_
  rintro _ w7 ⟨ad, l, c, rfl, hK, hV⟩; refine ⟨_, rfl, ?_⟩; clear S a; intro a S; replace M := M.grow hK
  have hW : Ws 0 w.heap.size w (.slice ad l c) (bareX (khas m.kind) x) := by
    rcases hV with ⟨rfl, rfl, rfl, e⟩ | ⟨rfl, rfl, rfl, e⟩ <;> rw [e]
    · exact Rd.nil _ _ _ _
    · exact hv
  refine wpList_nil ?_; refine then_normal ?_; refine ⟨fun _ => hK, ?_⟩
  refine k_one (listed' := #[true, true, true, true, true, false, false, false, false, false, false]) 4 rfl (by kernel_rfl) rfl ?_
  refine st_call (xs := [(Operand.tmp 38), (Operand.tmp 41)]) S (enters_of Try.func43 (by decide) rfl) rfl rfl rfl (sameM_any m (bareM (khas m.kind) 10 m) _ _ x (bareX (khas m.kind) x) _ (M.argW hv) (M.argW hW)) ?_
  rintro _ w8 ⟨rfl, hK⟩; refine ⟨_, rfl, ?_⟩; clear S a; intro a S; replace M := M.grow hK
  refine wpList_nil ?_; refine then_normal ?_; refine ⟨fun _ => hK, ?_⟩
  refine k_pure (listed' := #[true, true, true, true, true, true, false, false, false, false, false]) 5 S rfl rfl rfl rfl (by kernel_rfl) rfl (fun _ d _ _ _ h => by cases d <;> exact h) (fun w => y_move S rfl) ?_; clear S a; intro a S
  refine st_tils (t := 43) S rfl ?_ ?_
  · clear S; intro h43 S
    refine k_no (listed' := #[true, true, true, true, true, true, true, false, false, false, false]) 6 S rfl rfl rfl rfl (by kernel_rfl) rfl (fun _ d _ _ _ h => by cases d <;> exact h) ?_; clear S a; intro a S
    refine k_no (listed' := #[true, true, true, true, true, true, true, true, false, false, false]) 7 S rfl rfl rfl rfl (by kernel_rfl) rfl (fun _ d _ _ _ h => by cases d <;> exact h) ?_; clear S a; intro a S
    refine k_no (listed' := #[true, true, true, true, true, true, true, true, true, false, false]) 8 S rfl rfl rfl rfl (by kernel_rfl) rfl (fun _ d _ _ _ h => by cases d <;> exact h) ?_; clear S a; intro a S
    refine k_pure (listed' := #[true, true, true, true, true, true, true, true, true, true, false]) 9 S rfl rfl rfl rfl (by kernel_rfl) rfl (fun _ d _ _ _ h => by cases d <;> exact h) (fun w => y_pickF S rfl rfl) ?_; clear S a; intro a S
    refine k_pure (listed' := #[true, true, true, true, true, true, true, true, true, true, true]) 10 S rfl rfl rfl rfl (by kernel_rfl) rfl (fun _ d _ _ _ h => by cases d <;> exact h) (fun w => y_assign S rfl) ?_; clear S a; intro a S
    refine k_end (by kernel_rfl) ?_
    refine then_normal ?_
    refine wp_ret ?_
    refine end_one S rfl (res_tmp rfl) ?_
    exact ⟨ret_bool (by rw [← hR]; unfold Msg.may; rw [if_pos hyes]; clear S M; simp [*]), M.below⟩
  clear S; intro h43 S
  refine k_read (listed' := #[true, true, true, true, true, true, true, false, false, false, false]) 6 S rfl rfl rfl rfl (by kernel_rfl) rfl (fun _ d _ _ _ h => by cases d <;> exact h) (fun w hW => have M := M.grow hW; y_loadAgg (cs := [_, _, _, _, _, _, _, _, _, _, _, _, _, _, _, _, _, _, _, _, _, _, _, _]) S (by kernel_rfl) rfl rfl (M.cellsAt (k := 24) 1 rfl rfl)) ?_; clear S a; intro a S
  refine k_read (listed' := #[true, true, true, true, true, true, true, true, false, false, false]) 7 S rfl rfl rfl rfl (by kernel_rfl) rfl (fun _ d _ _ _ h => by cases d <;> exact h) (fun w hW => have M := M.grow hW; y_loadAgg (cs := [_, _, _, _, _, _, _, _, _, _, _]) S (by kernel_rfl) rfl rfl (M.cellsAt (k := 11) 0 rfl rfl)) ?_; clear S a; intro a S
  refine k_one (listed' := #[true, true, true, true, true, true, true, true, true, false, false]) 8 rfl (by kernel_rfl) rfl ?_
  refine st_call (xs := [(Operand.tmp 44), (Operand.tmp 45)]) S (enters_of Try.func45 (by decide) rfl) rfl rfl rfl (fit_any m va vn vc x (kdown m.kind) (khas m.kind) _ (M.argW hv)) ?_
  rintro _ w9 ⟨rfl, hK⟩; refine ⟨_, rfl, ?_⟩; clear S a; intro a S; replace M := M.grow hK
  refine wpList_nil ?_; refine then_normal ?_; refine ⟨fun _ => hK, ?_⟩
  refine k_pure (listed' := #[true, true, true, true, true, true, true, true, true, true, false]) 9 S rfl rfl rfl rfl (by kernel_rfl) rfl (fun _ d _ _ _ h => by cases d <;> exact h) (fun w => y_pickT S rfl rfl) ?_; clear S a; intro a S
  refine k_pure (listed' := #[true, true, true, true, true, true, true, true, true, true, true]) 10 S rfl rfl rfl rfl (by kernel_rfl) rfl (fun _ d _ _ _ h => by cases d <;> exact h) (fun w => y_assign S rfl) ?_; clear S a; intro a S
  refine k_end (by kernel_rfl) ?_
  refine then_normal ?_
  refine wp_ret ?_
  refine end_one S rfl (res_tmp rfl) ?_
  exact ⟨ret_bool (by rw [← hR]; unfold Msg.may; rw [if_pos hyes]; clear S M; simp [*]), M.below⟩
end Go.Proofs.Ytniijiipkfhjgaa

namespace Go.Proofs.Ytniijiipkfhjgaa
open Go.RowKit Go.Sort
theorem Ope.nAt_cellA (o : Ope) {k : Nat} (h : k ≤ 4) : o.cellsL.toArray[7 + k]? = some (.int .i64 (o.nAt k)) := by
  have : k = 0 ∨ k = 1 ∨ k = 2 ∨ k = 3 ∨ k = 4 := by omega
  rcases this with rfl | rfl | rfl | rfl | rfl <;> rfl
/-- may this exec be under way? -/
def Ope.execMay (o : Ope) (inc : Int) : Bool := o.ex.name.eqb o.nm && o.ex.frm == 0 && o.ex.inc == 0 && o.ex.your == 0 && o.ex.kind == 2 && o.ex.to == o.at_ && o.ex.n == o.nAt o.at_.toNat && ({ o.ex with inc := inc } : Msg).may []
set_option maxHeartbeats 2000000 in
theorem execMay_any (o : Ope) (inc : Int) (w : World) (hat : 1 ≤ o.at_ ∧ o.at_ ≤ 4) :
    Calls Try.prog 50 #[.agg o.cellsL.toArray, .int .i64 inc] w fun e w' => e = .returned (.bool (o.execMay inc)) ∧ Below w.heap.size w w' := by
  obtain ⟨k, hk, hk4⟩ : ∃ k : Nat, o.at_ = (k : Int) ∧ k ≤ 4 := ⟨o.at_.toNat, by omega, by omega⟩
  have M := Mem.start w
  refine calls_enter Try.func50 rfl 54 rfl rfl ?_; intro a S
  refine nxD ?_
  refine st_box S M rfl rfl rfl #[_, _, _, _, _, _, _, _, _, _, _, _, _, _, _, _, _, _, _, _, _, _, _, _, _, _, _, _, _, _, _, _, _, _, _, _, _] rfl ?_; clear S M a; intro a w1 bB S M hB
  refine st_go [1] S rfl (by kernel_rfl) ?_; clear S a; intro a S
  refine nxA ?_
  refine st_go [14] S rfl (by kernel_rfl) ?_; clear S a; intro a S
  refine st_y S rfl rfl rfl (y_loadAgg (cs := [_, _, _, _, _, _, _, _, _, _, _, _, _, _, _, _, _, _, _, _, _, _, _, _]) S (by kernel_rfl) rfl rfl (M.cellsAt (k := 24) 0 rfl rfl)) ?_; clear S a; intro a S
  refine st_alloc S M rfl rfl #[.int .i8 0, .int .i64 0, .int .i64 0, .int .i64 0, .int .i64 0, .int .i64 0, .int .i64 0, .int .i64 0, .int .i64 0, .int .i8 0, .int .i64 0, .int .u8 0, .int .u8 0, .int .u8 0, .int .u8 0, .int .u8 0, .int .u8 0, .int .u8 0, .int .u8 0, .int .i64 0, .bool false, .int .i64 0, .int .i64 0, .slice none 0 0] (by kernel_rfl) ?_; clear S M a; intro a w2 bX S M hB
  refine st_store (sz := 24) (us := [_, _, _, _, _, _, _, _, _, _, _, _, _, _, _, _, _, _, _, _, _, _, _, _]) S M 0 rfl (by kernel_rfl) rfl rfl rfl rfl rfl rfl (by first | decide | (simp; done) | (simp; omega)) ?_; clear M; intro w3 M
  simp only [putL, List.set_cons_zero, List.set_cons_succ, Nat.reduceAdd] at M
  refine nxC ?_
  refine wp_seq ?_
  refine nxD ?_
  refine st_go [6] S rfl (by kernel_rfl) ?_; clear S a; intro a S
  refine st_y S rfl rfl rfl (y_loadAgg (cs := [_, _, _]) S (by kernel_rfl) rfl rfl (M.cellsAt (k := 3) 0 rfl rfl)) ?_; clear S a; intro a S
  refine st_go [3] S rfl (by kernel_rfl) ?_; clear S a; intro a S
  refine st_y S rfl rfl rfl (y_loadAgg (cs := [_, _, _]) S (by kernel_rfl) rfl rfl (M.cellsAt (k := 3) 1 rfl rfl)) ?_; clear S a; intro a S
  refine st_y S rfl rfl rfl (y_neqG (by kernel_rfl) S rfl rfl (fun w => equalNm 9998 ⟨_, _, _⟩ ⟨_, _, _⟩ w)) ?_; clear S a; intro a S
  refine st_go [1] S rfl (by kernel_rfl) ?_; clear S a; intro a S
  refine st_if (t := 13) S rfl ?_ ?_
  · clear S; intro h13 S
    refine st_go [0, 0, 0, 1, 1, 0, 0, 0, 1, 1, 0, 0, 0, 1] S rfl (by kernel_rfl) ?_; clear S a; intro a S
    replace S := S.sub [(0, _), (1, _), (2, _), (4, _), (5, _), (27, _)] rfl
    refine nxC ?_
    refine st_condT S rfl ?_
    refine nxD ?_
    refine st_go [1] S rfl (by kernel_rfl) ?_; clear S a; intro a S
    refine nxC ?_
    refine wp_ret ?_
    refine then_ret ?_
    refine end_one S rfl (res_tmp rfl) ?_
    refine ⟨ret_bool ?_, M.below⟩; clear S M; unfold Ope.execMay; rw [show o.at_.toNat = k by omega]; clear hk hk4 hat; simp [*]
  clear S; intro h13 S
  refine st_run [2, 1, 1, 1, 1] S M rfl (by kernel_rfl) ?_; clear S a; intro a S
  refine st_if (t := 18) S rfl ?_ ?_
  · clear S; intro h18 S
    refine st_go [0, 0, 0, 1, 1, 0, 0, 0, 1] S rfl (by kernel_rfl) ?_; clear S a; intro a S
    replace S := S.sub [(0, _), (1, _), (2, _), (4, _), (5, _), (27, _)] rfl
    refine nxC ?_
    refine st_condT S rfl ?_
    refine nxD ?_
    refine st_go [1] S rfl (by kernel_rfl) ?_; clear S a; intro a S
    refine nxC ?_
    refine wp_ret ?_
    refine then_ret ?_
    refine end_one S rfl (res_tmp rfl) ?_
    refine ⟨ret_bool ?_, M.below⟩; clear S M; unfold Ope.execMay; rw [show o.at_.toNat = k by omega]; clear hk hk4 hat; simp [*]
  clear S; intro h18 S
  refine st_run [4, 1, 1, 1, 1] S M rfl (by kernel_rfl) ?_; clear S a; intro a S
  refine st_if (t := 23) S rfl ?_ ?_
  · clear S; intro h23 S
    refine st_go [0, 0, 0, 1] S rfl (by kernel_rfl) ?_; clear S a; intro a S
    replace S := S.sub [(0, _), (1, _), (2, _), (4, _), (5, _), (27, _)] rfl
    refine nxC ?_
    refine st_condT S rfl ?_
    refine nxD ?_
    refine st_go [1] S rfl (by kernel_rfl) ?_; clear S a; intro a S
    refine nxC ?_
    refine wp_ret ?_
    refine then_ret ?_
    refine end_one S rfl (res_tmp rfl) ?_
    refine ⟨ret_bool ?_, M.below⟩; clear S M; unfold Ope.execMay; rw [show o.at_.toNat = k by omega]; clear hk hk4 hat; simp [*]
  clear S; intro h23 S
  refine st_run [5, 1, 1, 1] S M rfl (by kernel_rfl) ?_; clear S a; intro a S
  replace S := S.sub [(0, _), (1, _), (2, _), (4, _), (5, _), (27, _)] rfl
  refine nxC ?_
  refine st_if (t := 27) S rfl ?_ ?_
  · clear S; intro h27 S
    refine st_condT S rfl ?_
    refine nxD ?_
    refine st_go [1] S rfl (by kernel_rfl) ?_; clear S a; intro a S
    refine nxC ?_
    refine wp_ret ?_
    refine then_ret ?_
    refine end_one S rfl (res_tmp rfl) ?_
    refine ⟨ret_bool ?_, M.below⟩; clear S M; unfold Ope.execMay; rw [show o.at_.toNat = k by omega]; clear hk hk4 hat; simp [*]
  clear S; intro h27 S
  refine st_condF S rfl ?_
  refine wp_skip ?_
  refine nxE ?_
  refine st_go [1, 4] S rfl (by kernel_rfl) ?_; clear S a; intro a S
  refine st_store (sz := 1) (us := [_]) S M 0 rfl (by kernel_rfl) rfl rfl rfl rfl rfl rfl (by first | decide | (simp; done) | (simp; omega)) ?_; clear M; intro w4 M
  simp only [putL, List.set_cons_zero, List.set_cons_succ, Nat.reduceAdd] at M
  refine nxC ?_
  refine wp_seq ?_
  refine wp_regionK [] #[false, false, false, false, false, false, false, false, false, false, false, false, false, false, false, false, false, false, false, false, false, false, false, false, false] rfl M (by kernel_rfl) ?_; clear M; intro w5 M
  refine k_pure (listed' := #[true, false, false, false, false, false, false, false, false, false, false, false, false, false, false, false, false, false, false, false, false, false, false, false, false]) 0 S rfl rfl rfl rfl (by kernel_rfl) rfl (fun _ d _ _ _ h => by cases d <;> exact h) (fun w => y_fieldAddr (k := 0) S (by kernel_rfl) rfl) ?_; clear S a; intro a S
  refine k_read (listed' := #[true, true, false, false, false, false, false, false, false, false, false, false, false, false, false, false, false, false, false, false, false, false, false, false, false]) 1 S rfl rfl rfl rfl (by kernel_rfl) rfl (fun _ d _ _ _ h => by cases d <;> exact h) (fun w hW => have M := M.grow hW; y_load S (by kernel_rfl) rfl (M.cell 0 rfl rfl)) ?_; clear S a; intro a S
  refine k_pure (listed' := #[true, true, true, false, false, false, false, false, false, false, false, false, false, false, false, false, false, false, false, false, false, false, false, false, false]) 2 S rfl rfl rfl rfl (by kernel_rfl) rfl (fun _ d _ _ _ h => by cases d <;> exact h) (fun w => y_int S rfl rfl rfl) ?_; clear S a; intro a S
  refine k_pure (listed' := #[true, true, true, true, false, false, false, false, false, false, false, false, false, false, false, false, false, false, false, false, false, false, false, false, false]) 3 S rfl rfl rfl rfl (by kernel_rfl) rfl (fun _ d _ _ _ h => by cases d <;> exact h) (fun w => y_move S rfl) ?_; clear S a; intro a S
  refine st_fi (t := 33) S rfl ?_ ?_
  · clear S; intro h33 S
    refine k_no (listed' := #[true, true, true, true, true, false, false, false, false, false, false, false, false, false, false, false, false, false, false, false, false, false, false, false, false]) 4 S rfl rfl rfl rfl (by kernel_rfl) rfl (fun _ d _ _ _ h => by cases d <;> exact h) ?_; clear S a; intro a S
    refine k_no (listed' := #[true, true, true, true, true, true, false, false, false, false, false, false, false, false, false, false, false, false, false, false, false, false, false, false, false]) 5 S rfl rfl rfl rfl (by kernel_rfl) rfl (fun _ d _ _ _ h => by cases d <;> exact h) ?_; clear S a; intro a S
    refine k_no (listed' := #[true, true, true, true, true, true, true, false, false, false, false, false, false, false, false, false, false, false, false, false, false, false, false, false, false]) 6 S rfl rfl rfl rfl (by kernel_rfl) rfl (fun _ d _ _ _ h => by cases d <;> exact h) ?_; clear S a; intro a S
    refine k_no (listed' := #[true, true, true, true, true, true, true, true, false, false, false, false, false, false, false, false, false, false, false, false, false, false, false, false, false]) 7 S rfl rfl rfl rfl (by kernel_rfl) rfl (fun _ d _ _ _ h => by cases d <;> exact h) ?_; clear S a; intro a S
    refine k_no (listed' := #[true, true, true, true, true, true, true, true, true, false, false, false, false, false, false, false, false, false, false, false, false, false, false, false, false]) 8 S rfl rfl rfl rfl (by kernel_rfl) rfl (fun _ d _ _ _ h => by cases d <;> exact h) ?_; clear S a; intro a S
    refine k_pure (listed' := #[true, true, true, true, true, true, true, true, true, true, false, false, false, false, false, false, false, false, false, false, false, false, false, false, false]) 9 S rfl rfl rfl rfl (by kernel_rfl) rfl (fun _ d _ _ _ h => by cases d <;> exact h) (fun w => y_pickF S rfl rfl) ?_; clear S a; intro a S
    refine k_pure (listed' := #[true, true, true, true, true, true, true, true, true, true, true, false, false, false, false, false, false, false, false, false, false, false, false, false, false]) 10 S rfl rfl rfl rfl (by kernel_rfl) rfl (fun _ d _ _ _ h => by cases d <;> exact h) (fun w => y_move S rfl) ?_; clear S a; intro a S
    refine k_no (listed' := #[true, true, true, true, true, true, true, true, true, true, true, true, false, false, false, false, false, false, false, false, false, false, false, false, false]) 11 S rfl rfl rfl rfl (by kernel_rfl) rfl (fun _ d _ _ _ h => by cases d <;> exact h) ?_; clear S a; intro a S
    refine k_no (listed' := #[true, true, true, true, true, true, true, true, true, true, true, true, true, false, false, false, false, false, false, false, false, false, false, false, false]) 12 S rfl rfl rfl rfl (by kernel_rfl) rfl (fun _ d _ _ _ h => by cases d <;> exact h) ?_; clear S a; intro a S
    refine k_no (listed' := #[true, true, true, true, true, true, true, true, true, true, true, true, true, true, false, false, false, false, false, false, false, false, false, false, false]) 13 S rfl rfl rfl rfl (by kernel_rfl) rfl (fun _ d _ _ _ h => by cases d <;> exact h) ?_; clear S a; intro a S
    refine k_no (listed' := #[true, true, true, true, true, true, true, true, true, true, true, true, true, true, true, false, false, false, false, false, false, false, false, false, false]) 14 S rfl rfl rfl rfl (by kernel_rfl) rfl (fun _ d _ _ _ h => by cases d <;> exact h) ?_; clear S a; intro a S
    refine k_no (listed' := #[true, true, true, true, true, true, true, true, true, true, true, true, true, true, true, true, false, false, false, false, false, false, false, false, false]) 15 S rfl rfl rfl rfl (by kernel_rfl) rfl (fun _ d _ _ _ h => by cases d <;> exact h) ?_; clear S a; intro a S
    try rw [hk] at S
    refine k_no (listed' := #[true, true, true, true, true, true, true, true, true, true, true, true, true, true, true, true, true, false, false, false, false, false, false, false, false]) 16 S rfl rfl rfl rfl (by kernel_rfl) rfl (fun _ d _ _ _ h => by cases d <;> exact h) ?_; clear S a; intro a S
    refine k_no (listed' := #[true, true, true, true, true, true, true, true, true, true, true, true, true, true, true, true, true, true, false, false, false, false, false, false, false]) 17 S rfl rfl rfl rfl (by kernel_rfl) rfl (fun _ d _ _ _ h => by cases d <;> exact h) ?_; clear S a; intro a S
    refine k_no (listed' := #[true, true, true, true, true, true, true, true, true, true, true, true, true, true, true, true, true, true, true, false, false, false, false, false, false]) 18 S rfl rfl rfl rfl (by kernel_rfl) rfl (fun _ d _ _ _ h => by cases d <;> exact h) ?_; clear S a; intro a S
    refine k_pure (listed' := #[true, true, true, true, true, true, true, true, true, true, true, true, true, true, true, true, true, true, true, true, false, false, false, false, false]) 19 S rfl rfl rfl rfl (by kernel_rfl) rfl (fun _ d _ _ _ h => by cases d <;> exact h) (fun w => y_pickF S rfl rfl) ?_; clear S a; intro a S
    refine k_pure (listed' := #[true, true, true, true, true, true, true, true, true, true, true, true, true, true, true, true, true, true, true, true, true, false, false, false, false]) 20 S rfl rfl rfl rfl (by kernel_rfl) rfl (fun _ d _ _ _ h => by cases d <;> exact h) (fun w => y_move S rfl) ?_; clear S a; intro a S
    refine k_no (listed' := #[true, true, true, true, true, true, true, true, true, true, true, true, true, true, true, true, true, true, true, true, true, true, false, false, false]) 21 S rfl rfl rfl rfl (by kernel_rfl) rfl (fun _ d _ _ _ h => by cases d <;> exact h) ?_; clear S a; intro a S
    refine k_no (listed' := #[true, true, true, true, true, true, true, true, true, true, true, true, true, true, true, true, true, true, true, true, true, true, true, false, false]) 22 S rfl rfl rfl rfl (by kernel_rfl) rfl (fun _ d _ _ _ h => by cases d <;> exact h) ?_; clear S a; intro a S
    refine k_pure (listed' := #[true, true, true, true, true, true, true, true, true, true, true, true, true, true, true, true, true, true, true, true, true, true, true, true, false]) 23 S rfl rfl rfl rfl (by kernel_rfl) rfl (fun _ d _ _ _ h => by cases d <;> exact h) (fun w => y_pickF S rfl rfl) ?_; clear S a; intro a S
    refine k_pure (listed' := #[true, true, true, true, true, true, true, true, true, true, true, true, true, true, true, true, true, true, true, true, true, true, true, true, true]) 24 S rfl rfl rfl rfl (by kernel_rfl) rfl (fun _ d _ _ _ h => by cases d <;> exact h) (fun w => y_assign S rfl) ?_; clear S a; intro a S
    refine k_end (by kernel_rfl) ?_
    replace S := S.sub [(0, _), (1, _), (2, _), (5, _), (27, _), (4, _)] rfl
    refine then_normal ?_
    refine wp_ret ?_
    refine end_one S rfl (res_tmp rfl) ?_
    refine ⟨ret_bool ?_, M.below⟩; clear S M; unfold Ope.execMay; rw [show o.at_.toNat = k by omega]; clear hk hk4 hat; simp [*]
  clear S; intro h33 S
  refine k_pure (listed' := #[true, true, true, true, true, false, false, false, false, false, false, false, false, false, false, false, false, false, false, false, false, false, false, false, false]) 4 S rfl rfl rfl rfl (by kernel_rfl) rfl (fun _ d _ _ _ h => by cases d <;> exact h) (fun w => y_fieldAddr (k := 2) S (by kernel_rfl) rfl) ?_; clear S a; intro a S
  refine k_read (listed' := #[true, true, true, true, true, true, false, false, false, false, false, false, false, false, false, false, false, false, false, false, false, false, false, false, false]) 5 S rfl rfl rfl rfl (by kernel_rfl) rfl (fun _ d _ _ _ h => by cases d <;> exact h) (fun w hW => have M := M.grow hW; y_load S (by kernel_rfl) rfl (M.cell 0 rfl rfl)) ?_; clear S a; intro a S
  refine k_pure (listed' := #[true, true, true, true, true, true, true, false, false, false, false, false, false, false, false, false, false, false, false, false, false, false, false, false, false]) 6 S rfl rfl rfl rfl (by kernel_rfl) rfl (fun _ d _ _ _ h => by cases d <;> exact h) (fun w => y_fieldAddr (k := 12) S (by kernel_rfl) rfl) ?_; clear S a; intro a S
  refine k_read (listed' := #[true, true, true, true, true, true, true, true, false, false, false, false, false, false, false, false, false, false, false, false, false, false, false, false, false]) 7 S rfl rfl rfl rfl (by kernel_rfl) rfl (fun _ d _ _ _ h => by cases d <;> exact h) (fun w hW => have M := M.grow hW; y_load S (by kernel_rfl) rfl (M.cell 1 rfl rfl)) ?_; clear S a; intro a S
  refine k_pure (listed' := #[true, true, true, true, true, true, true, true, true, false, false, false, false, false, false, false, false, false, false, false, false, false, false, false, false]) 8 S rfl rfl rfl rfl (by kernel_rfl) rfl (fun _ d _ _ _ h => by cases d <;> exact h) (fun w => y_int S rfl rfl rfl) ?_; clear S a; intro a S
  refine k_pure (listed' := #[true, true, true, true, true, true, true, true, true, true, false, false, false, false, false, false, false, false, false, false, false, false, false, false, false]) 9 S rfl rfl rfl rfl (by kernel_rfl) rfl (fun _ d _ _ _ h => by cases d <;> exact h) (fun w => y_pickT S rfl rfl) ?_; clear S a; intro a S
  refine k_pure (listed' := #[true, true, true, true, true, true, true, true, true, true, true, false, false, false, false, false, false, false, false, false, false, false, false, false, false]) 10 S rfl rfl rfl rfl (by kernel_rfl) rfl (fun _ d _ _ _ h => by cases d <;> exact h) (fun w => y_move S rfl) ?_; clear S a; intro a S
  refine st_fi (t := 40) S rfl ?_ ?_
  · clear S; intro h40 S
    refine k_no (listed' := #[true, true, true, true, true, true, true, true, true, true, true, true, false, false, false, false, false, false, false, false, false, false, false, false, false]) 11 S rfl rfl rfl rfl (by kernel_rfl) rfl (fun _ d _ _ _ h => by cases d <;> exact h) ?_; clear S a; intro a S
    refine k_no (listed' := #[true, true, true, true, true, true, true, true, true, true, true, true, true, false, false, false, false, false, false, false, false, false, false, false, false]) 12 S rfl rfl rfl rfl (by kernel_rfl) rfl (fun _ d _ _ _ h => by cases d <;> exact h) ?_; clear S a; intro a S
    refine k_no (listed' := #[true, true, true, true, true, true, true, true, true, true, true, true, true, true, false, false, false, false, false, false, false, false, false, false, false]) 13 S rfl rfl rfl rfl (by kernel_rfl) rfl (fun _ d _ _ _ h => by cases d <;> exact h) ?_; clear S a; intro a S
    refine k_no (listed' := #[true, true, true, true, true, true, true, true, true, true, true, true, true, true, true, false, false, false, false, false, false, false, false, false, false]) 14 S rfl rfl rfl rfl (by kernel_rfl) rfl (fun _ d _ _ _ h => by cases d <;> exact h) ?_; clear S a; intro a S
    refine k_no (listed' := #[true, true, true, true, true, true, true, true, true, true, true, true, true, true, true, true, false, false, false, false, false, false, false, false, false]) 15 S rfl rfl rfl rfl (by kernel_rfl) rfl (fun _ d _ _ _ h => by cases d <;> exact h) ?_; clear S a; intro a S
    try rw [hk] at S
    refine k_no (listed' := #[true, true, true, true, true, true, true, true, true, true, true, true, true, true, true, true, true, false, false, false, false, false, false, false, false]) 16 S rfl rfl rfl rfl (by kernel_rfl) rfl (fun _ d _ _ _ h => by cases d <;> exact h) ?_; clear S a; intro a S
    refine k_no (listed' := #[true, true, true, true, true, true, true, true, true, true, true, true, true, true, true, true, true, true, false, false, false, false, false, false, false]) 17 S rfl rfl rfl rfl (by kernel_rfl) rfl (fun _ d _ _ _ h => by cases d <;> exact h) ?_; clear S a; intro a S
    refine k_no (listed' := #[true, true, true, true, true, true, true, true, true, true, true, true, true, true, true, true, true, true, true, false, false, false, false, false, false]) 18 S rfl rfl rfl rfl (by kernel_rfl) rfl (fun _ d _ _ _ h => by cases d <;> exact h) ?_; clear S a; intro a S
    refine k_pure (listed' := #[true, true, true, true, true, true, true, true, true, true, true, true, true, true, true, true, true, true, true, true, false, false, false, false, false]) 19 S rfl rfl rfl rfl (by kernel_rfl) rfl (fun _ d _ _ _ h => by cases d <;> exact h) (fun w => y_pickF S rfl rfl) ?_; clear S a; intro a S
    refine k_pure (listed' := #[true, true, true, true, true, true, true, true, true, true, true, true, true, true, true, true, true, true, true, true, true, false, false, false, false]) 20 S rfl rfl rfl rfl (by kernel_rfl) rfl (fun _ d _ _ _ h => by cases d <;> exact h) (fun w => y_move S rfl) ?_; clear S a; intro a S
    refine k_no (listed' := #[true, true, true, true, true, true, true, true, true, true, true, true, true, true, true, true, true, true, true, true, true, true, false, false, false]) 21 S rfl rfl rfl rfl (by kernel_rfl) rfl (fun _ d _ _ _ h => by cases d <;> exact h) ?_; clear S a; intro a S
    refine k_no (listed' := #[true, true, true, true, true, true, true, true, true, true, true, true, true, true, true, true, true, true, true, true, true, true, true, false, false]) 22 S rfl rfl rfl rfl (by kernel_rfl) rfl (fun _ d _ _ _ h => by cases d <;> exact h) ?_; clear S a; intro a S
    refine k_pure (listed' := #[true, true, true, true, true, true, true, true, true, true, true, true, true, true, true, true, true, true, true, true, true, true, true, true, false]) 23 S rfl rfl rfl rfl (by kernel_rfl) rfl (fun _ d _ _ _ h => by cases d <;> exact h) (fun w => y_pickF S rfl rfl) ?_; clear S a; intro a S
    refine k_pure (listed' := #[true, true, true, true, true, true, true, true, true, true, true, true, true, true, true, true, true, true, true, true, true, true, true, true, true]) 24 S rfl rfl rfl rfl (by kernel_rfl) rfl (fun _ d _ _ _ h => by cases d <;> exact h) (fun w => y_assign S rfl) ?_; clear S a; intro a S
    refine k_end (by kernel_rfl) ?_
    replace S := S.sub [(0, _), (1, _), (2, _), (5, _), (27, _), (4, _)] rfl
    refine then_normal ?_
    refine wp_ret ?_
    refine end_one S rfl (res_tmp rfl) ?_
    refine ⟨ret_bool ?_, M.below⟩; clear S M; unfold Ope.execMay; rw [show o.at_.toNat = k by omega]; clear hk hk4 hat; simp [*]
  clear S; intro h40 S
  refine k_pure (listed' := #[true, true, true, true, true, true, true, true, true, true, true, true, false, false, false, false, false, false, false, false, false, false, false, false, false]) 11 S rfl rfl rfl rfl (by kernel_rfl) rfl (fun _ d _ _ _ h => by cases d <;> exact h) (fun w => y_fieldAddr (k := 8) S (by kernel_rfl) rfl) ?_; clear S a; intro a S
  refine k_read (listed' := #[true, true, true, true, true, true, true, true, true, true, true, true, true, false, false, false, false, false, false, false, false, false, false, false, false]) 12 S rfl rfl rfl rfl (by kernel_rfl) rfl (fun _ d _ _ _ h => by cases d <;> exact h) (fun w hW => have M := M.grow hW; y_load S (by kernel_rfl) rfl (M.cell 0 rfl rfl)) ?_; clear S a; intro a S
  refine k_pure (listed' := #[true, true, true, true, true, true, true, true, true, true, true, true, true, true, false, false, false, false, false, false, false, false, false, false, false]) 13 S rfl rfl rfl rfl (by kernel_rfl) rfl (fun _ d _ _ _ h => by cases d <;> exact h) (fun w => y_fieldAddr (k := 12) S (by kernel_rfl) rfl) ?_; clear S a; intro a S
  refine k_read (listed' := #[true, true, true, true, true, true, true, true, true, true, true, true, true, true, true, false, false, false, false, false, false, false, false, false, false]) 14 S rfl rfl rfl rfl (by kernel_rfl) rfl (fun _ d _ _ _ h => by cases d <;> exact h) (fun w hW => have M := M.grow hW; y_load S (by kernel_rfl) rfl (M.cell 1 rfl rfl)) ?_; clear S a; intro a S
  refine k_pure (listed' := #[true, true, true, true, true, true, true, true, true, true, true, true, true, true, true, true, false, false, false, false, false, false, false, false, false]) 15 S rfl rfl rfl rfl (by kernel_rfl) rfl (fun _ d _ _ _ h => by cases d <;> exact h) (fun w => y_fieldAddr (k := 7) S (by kernel_rfl) rfl) ?_; clear S a; intro a S
  try rw [hk] at S
  refine k_pure (listed' := #[true, true, true, true, true, true, true, true, true, true, true, true, true, true, true, true, true, false, false, false, false, false, false, false, false]) 16 S rfl rfl rfl rfl (by kernel_rfl) rfl (fun _ d _ _ _ h => by cases d <;> exact h) (fun w => y_indexA (m := 5) (sz := 1) S (by kernel_rfl) rfl rfl (by first | omega | (simp; done) | (simp; omega))) ?_; clear S a; intro a S
  try simp only [Int.toNat_natCast, Nat.mul_one, Nat.zero_add] at S
  refine k_read (listed' := #[true, true, true, true, true, true, true, true, true, true, true, true, true, true, true, true, true, true, false, false, false, false, false, false, false]) 17 S rfl rfl rfl rfl (by kernel_rfl) rfl (fun _ d _ _ _ h => by cases d <;> exact h) (fun w hW => have M := M.grow hW; y_load S (by kernel_rfl) rfl (M.cell 1 rfl (o.nAt_cellA hk4))) ?_; clear S a; intro a S
  refine k_pure (listed' := #[true, true, true, true, true, true, true, true, true, true, true, true, true, true, true, true, true, true, true, false, false, false, false, false, false]) 18 S rfl rfl rfl rfl (by kernel_rfl) rfl (fun _ d _ _ _ h => by cases d <;> exact h) (fun w => y_int S rfl rfl rfl) ?_; clear S a; intro a S
  refine k_pure (listed' := #[true, true, true, true, true, true, true, true, true, true, true, true, true, true, true, true, true, true, true, true, false, false, false, false, false]) 19 S rfl rfl rfl rfl (by kernel_rfl) rfl (fun _ d _ _ _ h => by cases d <;> exact h) (fun w => y_pickT S rfl rfl) ?_; clear S a; intro a S
  refine k_pure (listed' := #[true, true, true, true, true, true, true, true, true, true, true, true, true, true, true, true, true, true, true, true, true, false, false, false, false]) 20 S rfl rfl rfl rfl (by kernel_rfl) rfl (fun _ d _ _ _ h => by cases d <;> exact h) (fun w => y_move S rfl) ?_; clear S a; intro a S
  refine st_fi (t := 50) S rfl ?_ ?_
  · clear S; intro h50 S
    refine k_no (listed' := #[true, true, true, true, true, true, true, true, true, true, true, true, true, true, true, true, true, true, true, true, true, true, false, false, false]) 21 S rfl rfl rfl rfl (by kernel_rfl) rfl (fun _ d _ _ _ h => by cases d <;> exact h) ?_; clear S a; intro a S
    refine k_no (listed' := #[true, true, true, true, true, true, true, true, true, true, true, true, true, true, true, true, true, true, true, true, true, true, true, false, false]) 22 S rfl rfl rfl rfl (by kernel_rfl) rfl (fun _ d _ _ _ h => by cases d <;> exact h) ?_; clear S a; intro a S
    refine k_pure (listed' := #[true, true, true, true, true, true, true, true, true, true, true, true, true, true, true, true, true, true, true, true, true, true, true, true, false]) 23 S rfl rfl rfl rfl (by kernel_rfl) rfl (fun _ d _ _ _ h => by cases d <;> exact h) (fun w => y_pickF S rfl rfl) ?_; clear S a; intro a S
    refine k_pure (listed' := #[true, true, true, true, true, true, true, true, true, true, true, true, true, true, true, true, true, true, true, true, true, true, true, true, true]) 24 S rfl rfl rfl rfl (by kernel_rfl) rfl (fun _ d _ _ _ h => by cases d <;> exact h) (fun w => y_assign S rfl) ?_; clear S a; intro a S
    refine k_end (by kernel_rfl) ?_
    replace S := S.sub [(0, _), (1, _), (2, _), (5, _), (27, _), (4, _)] rfl
    refine then_normal ?_
    refine wp_ret ?_
    refine end_one S rfl (res_tmp rfl) ?_
    refine ⟨ret_bool ?_, M.below⟩; clear S M; unfold Ope.execMay; rw [show o.at_.toNat = k by omega]; clear hk hk4 hat; simp [*]
  clear S; intro h50 S
  refine k_read (listed' := #[true, true, true, true, true, true, true, true, true, true, true, true, true, true, true, true, true, true, true, true, true, true, false, false, false]) 21 S rfl rfl rfl rfl (by kernel_rfl) rfl (fun _ d _ _ _ h => by cases d <;> exact h) (fun w hW => have M := M.grow hW; y_loadAgg (cs := [_, _, _, _, _, _, _, _, _, _, _, _, _, _, _, _, _, _, _, _, _, _, _, _]) S (by kernel_rfl) rfl rfl (M.cellsAt (k := 24) 0 rfl rfl)) ?_; clear S a; intro a S
  refine k_one (listed' := #[true, true, true, true, true, true, true, true, true, true, true, true, true, true, true, true, true, true, true, true, true, true, true, false, false]) 22 rfl (by kernel_rfl) rfl ?_
  refine st_call (xs := [(Operand.tmp 51)]) S (enters_of Try.func21 (by decide) rfl) rfl rfl rfl (mayM_any { o.ex with inc := inc } none 0 0 [] _ (Rd.nil _ _ _ _)) ?_
  rintro _ w6 ⟨rfl, hK⟩; refine ⟨_, rfl, ?_⟩; clear S a; intro a S; replace M := M.grow hK
  refine wpList_nil ?_; refine then_normal ?_; refine ⟨fun _ => hK, ?_⟩
  refine k_pure (listed' := #[true, true, true, true, true, true, true, true, true, true, true, true, true, true, true, true, true, true, true, true, true, true, true, true, false]) 23 S rfl rfl rfl rfl (by kernel_rfl) rfl (fun _ d _ _ _ h => by cases d <;> exact h) (fun w => y_pickT S rfl rfl) ?_; clear S a; intro a S
  refine k_pure (listed' := #[true, true, true, true, true, true, true, true, true, true, true, true, true, true, true, true, true, true, true, true, true, true, true, true, true]) 24 S rfl rfl rfl rfl (by kernel_rfl) rfl (fun _ d _ _ _ h => by cases d <;> exact h) (fun w => y_assign S rfl) ?_; clear S a; intro a S
  refine k_end (by kernel_rfl) ?_
  replace S := S.sub [(0, _), (1, _), (2, _), (5, _), (27, _), (4, _)] rfl
  refine then_normal ?_
  refine wp_ret ?_
  refine end_one S rfl (res_tmp rfl) ?_
  refine ⟨ret_bool ?_, M.below⟩; clear S M; unfold Ope.execMay; rw [show o.at_.toNat = k by omega]; clear hk hk4 hat; simp [*]
/-- may these shards be touched, with these numbers of execs? -/
def nOk (sh : Int) (k : Nat) (n : Int) : Bool := if hasBit sh k = true then decide (1 ≤ n ∧ n ≤ 1048576) else decide (n = 0)
def notV (x y : Int) : Int := IntKind.i64.wrap (BitVec.ofInt IntKind.i64.bits x &&& ~~~BitVec.ofInt IntKind.i64.bits y).toNat
def Ope.touchedMay (o : Ope) : Bool := notV o.sh 30 == 0 && (nOk o.sh 0 o.n0 && nOk o.sh 1 o.n1 && nOk o.sh 2 o.n2 && nOk o.sh 3 o.n3 && nOk o.sh 4 o.n4)
theorem Ope.nAt_lst (o : Ope) {k : Nat} (h : k < 5) : [Value.int .i64 o.n0, .int .i64 o.n1, .int .i64 o.n2, .int .i64 o.n3, .int .i64 o.n4][k]? = some (.int .i64 (o.nAt k)) := by
  have : k = 0 ∨ k = 1 ∨ k = 2 ∨ k = 3 ∨ k = 4 := by omega
  rcases this with rfl | rfl | rfl | rfl | rfl <;> rfl
theorem touched_no {o : Ope} {k : Nat} (hk : k < 5) (h : nOk o.sh k (o.nAt k) = false) : o.touchedMay = false := by
  have : k = 0 ∨ k = 1 ∨ k = 2 ∨ k = 3 ∨ k = 4 := by omega
  unfold Ope.touchedMay
  rcases this with rfl | rfl | rfl | rfl | rfl <;> (simp only [Ope.nAt] at h; rw [h]; simp)
theorem touched_yes {o : Ope} (h0 : (notV o.sh 30 == 0) = true) (h : ∀ i, i < 5 → nOk o.sh i (o.nAt i) = true) : o.touchedMay = true := by
  have a0 := h 0 (by omega)
  have a1 := h 1 (by omega)
  have a2 := h 2 (by omega)
  have a3 := h 3 (by omega)
  have a4 := h 4 (by omega)
  simp only [Ope.nAt] at a0 a1 a2 a3 a4
  unfold Ope.touchedMay
  rw [h0, a0, a1, a2, a3, a4]; rfl
theorem touchedMay_any (o : Ope) (w : World) :
    Calls Try.prog 49 #[.agg o.cellsL.toArray] w fun e w' => e = .returned (.bool o.touchedMay) ∧ Below w.heap.size w w' := by
  have M := Mem.start w
  refine calls_enter Try.func49 rfl 30 rfl rfl ?_; intro a S
  refine nxD ?_
  refine st_box S M rfl rfl rfl #[_, _, _, _, _, _, _, _, _, _, _, _, _, _, _, _, _, _, _, _, _, _, _, _, _, _, _, _, _, _, _, _, _, _, _, _, _] rfl ?_; clear S M a; intro a w1 bB S M hB
  refine st_go [1] S rfl (by kernel_rfl) ?_; clear S a; intro a S
  refine nxC ?_
  refine wp_seq ?_
  refine nxD ?_
  refine st_run [7, 1] S M rfl (by kernel_rfl) ?_; clear S a; intro a S
  refine st_y S rfl rfl rfl (y_andNot S rfl rfl) ?_; clear S a; intro a S
  refine st_go [1] S rfl (by kernel_rfl) ?_; clear S a; intro a S
  refine nxC ?_
  refine st_split (t := 8) S rfl ?_ ?_
  · clear S; intro h8 S
    refine st_condT S rfl ?_
    refine nxD ?_
    refine st_go [1] S rfl (by kernel_rfl) ?_; clear S a; intro a S
    refine nxC ?_
    refine wp_ret ?_
    refine then_ret ?_
    refine end_one S rfl (res_tmp rfl) ?_
    refine ⟨ret_bool ?_, M.below⟩
    have h9 : (notV o.sh 30 == 0) = false := by unfold notV; simpa using h8
    unfold Ope.touchedMay; rw [h9]; rfl
  clear S; intro h8 S
  refine st_condF S rfl ?_
  refine wp_skip ?_
  refine then_normal ?_
  refine wp_seq ?_
  refine nxD ?_
  refine st_go [8] S rfl (by kernel_rfl) ?_; clear S a; intro a S
  refine st_y S rfl rfl rfl (y_loadAgg (cs := [_, _, _, _, _]) S (by kernel_rfl) rfl rfl (M.cellsAt (k := 5) 0 rfl rfl)) ?_; clear S a; intro a S
  refine st_go [1] S rfl (by kernel_rfl) ?_; clear S a; intro a S
  refine nxC ?_
  refine wp_block ?_
  refine wp_loop_g (fun m a w' => ∃ k : Nat, k ≤ 5 ∧ m = 5 - k ∧ (notV o.sh 30 == 0) = true ∧ (∀ i, i < k → nOk o.sh i (o.nAt i) = true) ∧ Sees 30 a [(1, .pointer (some ⟨bB, 0, none⟩)), (10, .agg #[.int .i64 o.n0, .int .i64 o.n1, .int .i64 o.n2, .int .i64 o.n3, .int .i64 o.n4]), (11, .int .i64 (k : Int))] ∧ Mem w w' [.blk bB o.cellsL.toArray 65]) (5) ?_ ?_
  · skip
    exact ⟨0, by omega, rfl, by unfold notV; simpa using h8, fun i h => absurd h (by omega), S.sub _ rfl, M⟩
  clear S M a; intro m a wl
  rintro ⟨k, hk, rfl, hnot, hpre, S, M⟩
  refine nxD ?_
  refine st_go [1] S rfl (by kernel_rfl) ?_; clear S a; intro a S
  refine nxC ?_
  refine wp_seq ?_
  refine st_fi (t := 12) S rfl ?_ ?_
  · clear S; intro h12 S
    refine st_condF S rfl ?_
    refine wp_exit ?_
    refine then_exit ?_
    refine then_exit ?_
    refine block_hit ?_
    refine nxE ?_
    refine st_go [1] S rfl (by kernel_rfl) ?_; clear S a; intro a S
    refine nxC ?_
    refine wp_ret ?_
    refine end_one S rfl (res_tmp rfl) ?_
    exact ⟨ret_bool (touched_yes hnot fun i hi => hpre i (by omega)).symm, M.below⟩
  clear S; intro h12 S
  refine st_condT S rfl ?_
  refine wp_skip ?_
  refine then_normal ?_
  refine wp_seq ?_
  refine wp_block ?_
  refine nxD ?_
  refine st_go [1] S rfl (by kernel_rfl) ?_; clear S a; intro a S
  refine st_y S rfl rfl rfl (y_indexP (m := 5) (sz := 1) S (by kernel_rfl) (fun e he => by cases he.symm.trans (show _ = some (.array 5 3) by kernel_rfl); kernel_rfl) rfl rfl (by first | omega | (simp; done) | (simp; omega)) (show _ = some (Value.int .i64 (o.nAt k)) from (by rw [Int.toNat_natCast, Nat.mul_one]; exact o.nAt_lst (by omega)))) ?_; clear S a; intro a S
  refine st_go [1, 1] S rfl (by kernel_rfl) ?_; clear S a; intro a S
  refine nxC ?_
  refine wp_seq ?_
  refine wp_quiet M (by kernel_rfl) (by kernel_rfl) ?_
  refine qt_y S rfl rfl rfl (fun w M => y_fieldAddr (k := 6) S (by kernel_rfl) rfl) ?_; clear S a; intro a S
  refine qt_y S rfl rfl rfl (fun w M => y_load S (by kernel_rfl) rfl (M.cell 0 rfl rfl)) ?_; clear S a; intro a S
  refine qt_y S rfl rfl rfl (fun w M => y_move S rfl) ?_; clear S a; intro a S
  (first | refine qt_y S rfl rfl rfl (fun w M => y_shlN S rfl rfl (by omega) (by first | exact shl_bd (by omega) | (rw [Int.toNat_natCast]; exact shl_bd (by omega)))) ?_ | refine qt_y S rfl rfl rfl (fun w M => y_shl S rfl rfl (by omega)) ?_); clear S a; intro a S
  refine qt_y S rfl rfl rfl (fun w M => y_int S rfl rfl rfl) ?_; clear S a; intro a S
  refine qt_y S rfl rfl rfl (fun w M => y_int S rfl rfl rfl) ?_; clear S a; intro a S
  refine wpQuiet_nil ?_; clear M; intro w2 M
  refine then_normal ?_
  refine st_fi (t := 20) S rfl ?_ ?_
  · clear S; intro h20 S
    refine st_condF S rfl ?_
    refine nxD ?_
    refine st_go [1, 1] S rfl (by kernel_rfl) ?_; clear S a; intro a S
    refine nxC ?_
    refine st_if (t := 28) S rfl ?_ ?_
    · clear S; intro h28 S
      refine st_condT S rfl ?_
      refine nxD ?_
      refine st_go [1] S rfl (by kernel_rfl) ?_; clear S a; intro a S
      refine nxC ?_
      refine wp_ret ?_
      refine block_ret ?_
      refine then_ret ?_
      refine then_ret ?_
      refine block_ret ?_
      refine then_ret ?_
      refine end_one S rfl (res_tmp rfl) ?_
      refine ⟨ret_bool (touched_no (k := k) (by omega) ?_).symm, M.below⟩
      have hb : ¬ hasBit o.sh k = true := by unfold hasBit andV; simpa [Int.toNat_natCast] using h20
      unfold nOk; rw [if_neg hb]; simp; omega
    clear S; intro h28 S
    refine st_condF S rfl ?_
    refine wp_skip ?_
    refine block_normal ?_
    refine nxF ?_
    (first | refine st_y S rfl rfl rfl (y_addN S rfl rfl (by omega)) ?_ | refine st_y S rfl rfl rfl (y_int S rfl rfl rfl) ?_); clear S a; intro a S
    refine st_go [1] S rfl (by kernel_rfl) ?_; clear S a; intro a S
    refine nxC ?_
    refine ⟨5 - (k + 1), by omega, k + 1, by omega, rfl, hnot, fun i hi => ?_, S.sub _ rfl, M⟩
    rcases Nat.lt_or_ge i k with h | h
    · exact hpre i h
    · obtain rfl : i = k := by omega
      unfold nOk
      first
        | (have hb : hasBit o.sh i = true := by unfold hasBit andV; simpa [Int.toNat_natCast] using h20
           rw [if_pos hb]; simp; omega)
        | (have hb : ¬ hasBit o.sh i = true := by unfold hasBit andV; simpa [Int.toNat_natCast] using h20
           rw [if_neg hb]; simp; omega)
  clear S; intro h20 S
  refine st_condT S rfl ?_
  refine nxD ?_
  refine st_go [1, 1, 1] S rfl (by kernel_rfl) ?_; clear S a; intro a S
  refine st_if (t := 23) S rfl ?_ ?_
  · clear S; intro h23 S
    refine st_go [0, 0, 1] S rfl (by kernel_rfl) ?_; clear S a; intro a S
    refine nxC ?_
    refine st_condT S rfl ?_
    refine nxD ?_
    refine st_go [1] S rfl (by kernel_rfl) ?_; clear S a; intro a S
    refine nxC ?_
    refine wp_ret ?_
    refine block_ret ?_
    refine then_ret ?_
    refine then_ret ?_
    refine block_ret ?_
    refine then_ret ?_
    refine end_one S rfl (res_tmp rfl) ?_
    refine ⟨ret_bool (touched_no (k := k) (by omega) ?_).symm, M.below⟩
    have hb : hasBit o.sh k = true := by unfold hasBit andV; simpa [Int.toNat_natCast] using h20
    unfold nOk; rw [if_pos hb]; simp; omega
  clear S; intro h23 S
  refine st_go [1, 1, 1] S rfl (by kernel_rfl) ?_; clear S a; intro a S
  refine nxC ?_
  refine st_if (t := 26) S rfl ?_ ?_
  · clear S; intro h26 S
    refine st_condT S rfl ?_
    refine nxD ?_
    refine st_go [1] S rfl (by kernel_rfl) ?_; clear S a; intro a S
    refine nxC ?_
    refine wp_ret ?_
    refine block_ret ?_
    refine then_ret ?_
    refine then_ret ?_
    refine block_ret ?_
    refine then_ret ?_
    refine end_one S rfl (res_tmp rfl) ?_
    refine ⟨ret_bool (touched_no (k := k) (by omega) ?_).symm, M.below⟩
    have hb : hasBit o.sh k = true := by unfold hasBit andV; simpa [Int.toNat_natCast] using h20
    unfold nOk; rw [if_pos hb]; simp; omega
  clear S; intro h26 S
  refine st_condF S rfl ?_
  refine wp_skip ?_
  refine block_normal ?_
  refine nxF ?_
  (first | refine st_y S rfl rfl rfl (y_addN S rfl rfl (by omega)) ?_ | refine st_y S rfl rfl rfl (y_int S rfl rfl rfl) ?_); clear S a; intro a S
  refine st_go [1] S rfl (by kernel_rfl) ?_; clear S a; intro a S
  replace S := S.sub [(1, _), (10, _), (12, _), (3, _), (4, _), (20, _), (26, _), (11, _)] rfl
  refine nxC ?_
  refine ⟨5 - (k + 1), by omega, k + 1, by omega, rfl, hnot, fun i hi => ?_, S.sub _ rfl, M⟩
  rcases Nat.lt_or_ge i k with h | h
  · exact hpre i h
  · obtain rfl : i = k := by omega
    unfold nOk
    first
      | (have hb : hasBit o.sh i = true := by unfold hasBit andV; simpa [Int.toNat_natCast] using h20
         rw [if_pos hb]; simp; omega)
      | (have hb : ¬ hasBit o.sh i = true := by unfold hasBit andV; simpa [Int.toNat_natCast] using h20
         rw [if_neg hb]; simp; omega)
end Go.Proofs.Ytniijiipkfhjgaa

namespace Go.Proofs.Ytniijiipkfhjgaa
open Go.RowKit Go.Sort
/-- may an open one be? -/
def Ope.may (o : Ope) (inc : Int) : Bool :=
  if (o.nm.named && o.nm.inc == inc && decide (1 ≤ o.c ∧ o.c ≤ 1048576) && o.touchedMay) = true then
    if o.ph ≠ 1 ∧ o.ex.same zMg [] [] = false then false
    else if o.ph = 0 then o.at_ == 0
    else if o.ph = 1 then decide (1 ≤ o.at_ ∧ o.at_ ≤ 4) && (hasBit o.sh o.at_.toNat && o.execMay inc)
    else if o.ph = 2 then decide (1 ≤ o.at_ ∧ o.at_ ≤ 4) && o.sh == 1 * (2 : Int) ^ o.at_.toNat
    else if o.ph = 3 then o.at_ == 0 && andV o.sh (o.sh - 1) != 0
    else false
  else false
set_option maxHeartbeats 2000000 in
theorem openMay_any (o : Ope) (inc : Int) (w : World) (hsh : ShOk o.sh) :
    Calls Try.prog 28 #[.agg o.cellsL.toArray, .int .i64 inc] w fun e w' => e = .returned (.bool (o.may inc)) ∧ Below w.heap.size w w' := by
  have hshb : 0 ≤ o.sh ∧ o.sh ≤ 30 := by
    obtain ⟨k, hk, h⟩ := hsh
    omega
  have M := Mem.start w
  refine calls_enter Try.func28 rfl 100 rfl rfl ?_; intro a S
  refine nxD ?_
  refine st_box S M rfl rfl rfl #[_, _, _, _, _, _, _, _, _, _, _, _, _, _, _, _, _, _, _, _, _, _, _, _, _, _, _, _, _, _, _, _, _, _, _, _, _] rfl ?_; clear S M a; intro a w1 bB S M hB
  refine st_go [1] S rfl (by kernel_rfl) ?_; clear S a; intro a S
  refine nxC ?_
  refine wp_seq ?_
  refine nxD ?_
  refine st_go [3] S rfl (by kernel_rfl) ?_; clear S a; intro a S
  refine st_y S rfl rfl rfl (y_loadAgg (cs := [_, _, _]) S (by kernel_rfl) rfl rfl (M.cellsAt (k := 3) 0 rfl rfl)) ?_; clear S a; intro a S
  refine st_call (xs := [(Operand.tmp 6)]) S (enters_of Try.func30 (by decide) rfl) rfl rfl rfl (named_any o.nm _) ?_
  rintro _ w2 ⟨rfl, hK⟩; refine ⟨_, rfl, ?_⟩; clear S a; intro a S; replace M := M.grow hK
  refine st_go [1, 1] S rfl (by kernel_rfl) ?_; clear S a; intro a S
  refine st_if (t := 9) S rfl ?_ ?_
  · clear S; intro h9 S
    refine st_go [0, 0, 0, 0, 0, 1, 1, 0, 0, 0, 0, 1, 1, 0, 0, 0, 1] S rfl (by kernel_rfl) ?_; clear S a; intro a S
    replace S := S.sub [(0, _), (1, _), (2, _), (4, _), (26, _)] rfl
    refine nxC ?_
    refine st_condT S rfl ?_
    refine nxD ?_
    refine st_go [1] S rfl (by kernel_rfl) ?_; clear S a; intro a S
    refine nxC ?_
    refine wp_ret ?_
    refine then_ret ?_
    refine end_one S rfl (res_tmp rfl) ?_
    refine ⟨ret_bool ?_, M.below⟩; clear S M
    unfold Ope.may; refine (if_neg ?_).symm; simp [*]
  clear S; intro h9 S
  refine st_run [3, 2, 1, 1, 1, 1, 1] S M rfl (by kernel_rfl) ?_; clear S a; intro a S
  refine st_if (t := 16) S rfl ?_ ?_
  · clear S; intro h16 S
    refine st_go [0, 0, 0, 0, 1, 1, 0, 0, 0, 1] S rfl (by kernel_rfl) ?_; clear S a; intro a S
    replace S := S.sub [(0, _), (1, _), (2, _), (4, _), (26, _)] rfl
    refine nxC ?_
    refine st_condT S rfl ?_
    refine nxD ?_
    refine st_go [1] S rfl (by kernel_rfl) ?_; clear S a; intro a S
    refine nxC ?_
    refine wp_ret ?_
    refine then_ret ?_
    refine end_one S rfl (res_tmp rfl) ?_
    refine ⟨ret_bool ?_, M.below⟩; clear S M
    unfold Ope.may; refine (if_neg ?_).symm; simp [*]
  clear S; intro h16 S
  refine st_run [2, 1] S M rfl (by kernel_rfl) ?_; clear S a; intro a S
  refine st_call (xs := [(Operand.tmp 18)]) S (enters_of Try.func29 (by decide) rfl) rfl rfl rfl (clientIs_any o.c _) ?_
  rintro _ w3 ⟨rfl, hK⟩; refine ⟨_, rfl, ?_⟩; clear S a; intro a S; replace M := M.grow hK
  refine st_go [1, 1, 1] S rfl (by kernel_rfl) ?_; clear S a; intro a S
  refine st_if (t := 22) S rfl ?_ ?_
  · clear S; intro h22 S
    refine st_go [0, 0, 0, 1] S rfl (by kernel_rfl) ?_; clear S a; intro a S
    replace S := S.sub [(0, _), (1, _), (2, _), (4, _), (26, _)] rfl
    refine nxC ?_
    refine st_condT S rfl ?_
    refine nxD ?_
    refine st_go [1] S rfl (by kernel_rfl) ?_; clear S a; intro a S
    refine nxC ?_
    refine wp_ret ?_
    refine then_ret ?_
    refine end_one S rfl (res_tmp rfl) ?_
    refine ⟨ret_bool ?_, M.below⟩; clear S M
    unfold Ope.may; refine (if_neg ?_).symm; simp [*]
  clear S; intro h22 S
  refine st_y S rfl rfl rfl (y_loadAgg (cs := [_, _, _, _, _, _, _, _, _, _, _, _, _, _, _, _, _, _, _, _, _, _, _, _, _, _, _, _, _, _, _, _, _, _, _, _, _]) S (by kernel_rfl) rfl rfl (M.cellsAt (k := 37) 0 rfl rfl)) ?_; clear S a; intro a S
  refine st_call (xs := [(Operand.tmp 23)]) S (enters_of Try.func49 (by decide) rfl) rfl rfl rfl (touchedMay_any o _) ?_
  rintro _ w4 ⟨rfl, hK⟩; refine ⟨_, rfl, ?_⟩; clear S a; intro a S; replace M := M.grow hK
  refine st_go [1, 1] S rfl (by kernel_rfl) ?_; clear S a; intro a S
  replace S := S.sub [(0, _), (1, _), (2, _), (4, _), (26, _)] rfl
  refine nxC ?_
  refine st_if (t := 26) S rfl ?_ ?_
  · clear S; intro h26 S
    refine st_condT S rfl ?_
    refine nxD ?_
    refine st_go [1] S rfl (by kernel_rfl) ?_; clear S a; intro a S
    refine nxC ?_
    refine wp_ret ?_
    refine then_ret ?_
    refine end_one S rfl (res_tmp rfl) ?_
    refine ⟨ret_bool ?_, M.below⟩; clear S M
    unfold Ope.may; refine (if_neg ?_).symm; simp [*]
  clear S; intro h26 S
  refine st_condF S rfl ?_
  refine wp_skip ?_
  refine then_normal ?_
  refine wp_seq ?_
  refine nxD ?_
  refine st_run [6, 1, 1, 1] S M rfl (by kernel_rfl) ?_; clear S a; intro a S
  refine st_fi (t := 30) S rfl ?_ ?_
  · clear S; intro h30 S
    refine st_go [0, 0, 0, 0, 0, 1] S rfl (by kernel_rfl) ?_; clear S a; intro a S
    refine nxC ?_
    refine st_condF S rfl ?_
    refine wp_skip ?_
    refine then_normal ?_
    refine wp_seq ?_
    refine nxD ?_
    refine st_run [6, 1] S M rfl (by kernel_rfl) ?_; clear S a; intro a S
    refine nxC ?_
    refine wp_block ?_
    refine nxD ?_
    refine st_go [1, 1] S rfl (by kernel_rfl) ?_; clear S a; intro a S
    refine nxC ?_
    refine st_if (t := 39) S rfl ?_ ?_
    · clear S; intro h39 S
      refine st_condT S rfl ?_
      refine nxD ?_
      refine st_run [13, 1, 1, 1] S M rfl (by kernel_rfl) ?_; clear S a; intro a S
      replace S := S.sub [(0, _), (1, _), (2, _), (26, _), (36, _), (38, _), (39, _), (4, _)] rfl
      refine nxC ?_
      refine wp_ret ?_
      refine block_ret ?_
      refine then_ret ?_
      refine end_one S rfl (res_tmp rfl) ?_
      refine ⟨ret_bool ?_, M.below⟩; clear S M
      have hA : (o.nm.named && o.nm.inc == inc && decide (1 ≤ o.c ∧ o.c ≤ 1048576) && o.touchedMay) = true := by simp [*]
      unfold Ope.may; rw [if_pos hA]; clear hA
      first
        | (exfalso; omega)
        | (refine (?_ : _ = _).trans (if_neg ?_).symm
           rotate_left
           · rintro ⟨q1, q2⟩
             first
               | omega
               | (rw [q2] at h36; exact absurd h36 (by decide))
           rw [if_pos (by omega)])
    clear S; intro h39 S
    refine st_condF S rfl ?_
    refine nxD ?_
    refine st_go [1, 1] S rfl (by kernel_rfl) ?_; clear S a; intro a S
    refine nxC ?_
    refine st_fi (t := 44) S rfl ?_ ?_
    · clear S; intro h44 S
      refine st_condF S rfl ?_
      refine nxD ?_
      refine st_go [1, 1] S rfl (by kernel_rfl) ?_; clear S a; intro a S
      refine nxC ?_
      refine st_fi (t := 68) S rfl ?_ ?_
      · clear S; intro h68 S
        refine st_condF S rfl ?_
        refine nxD ?_
        refine st_go [1, 1] S rfl (by kernel_rfl) ?_; clear S a; intro a S
        replace S := S.sub [(0, _), (1, _), (2, _), (4, _), (26, _), (36, _), (38, _), (39, _), (44, _), (68, _), (86, _)] rfl
        refine nxC ?_
        refine st_fi (t := 86) S rfl ?_ ?_
        · clear S; intro h86 S
          refine st_condF S rfl ?_
          refine wp_skip ?_
          refine block_normal ?_
          refine nxE ?_
          refine st_go [1] S rfl (by kernel_rfl) ?_; clear S a; intro a S
          refine nxC ?_
          refine wp_ret ?_
          refine end_one S rfl (res_tmp rfl) ?_
          refine ⟨ret_bool ?_, M.below⟩; clear S M
          have hA : (o.nm.named && o.nm.inc == inc && decide (1 ≤ o.c ∧ o.c ≤ 1048576) && o.touchedMay) = true := by simp [*]
          unfold Ope.may; rw [if_pos hA]; clear hA
          first
            | (exfalso; omega)
            | (refine (?_ : _ = _).trans (if_neg ?_).symm
               rotate_left
               · rintro ⟨q1, q2⟩
                 first
                   | omega
                   | (rw [q2] at h36; exact absurd h36 (by decide))
               rw [if_neg (by omega), if_neg (by omega), if_neg (by omega), if_neg (by omega)])
        clear S; intro h86 S
        refine st_condT S rfl ?_
        refine nxD ?_
        refine st_run [13, 1, 1, 1] S M rfl (by kernel_rfl) ?_; clear S a; intro a S
        refine st_fi (t := 91) S rfl ?_ ?_
        · clear S; intro h91 S
          refine st_go [0, 0, 0, 0, 0, 0, 0, 1, 1] S rfl (by kernel_rfl) ?_; clear S a; intro a S
          refine nxC ?_
          refine wp_ret ?_
          refine block_ret ?_
          refine then_ret ?_
          refine end_one S rfl (res_tmp rfl) ?_
          refine ⟨ret_bool ?_, M.below⟩; clear S M
          have hA : (o.nm.named && o.nm.inc == inc && decide (1 ≤ o.c ∧ o.c ≤ 1048576) && o.touchedMay) = true := by simp [*]
          unfold Ope.may; rw [if_pos hA]; clear hA
          first
            | (exfalso; omega)
            | (refine (?_ : _ = _).trans (if_neg ?_).symm
               rotate_left
               · rintro ⟨q1, q2⟩
                 first
                   | omega
                   | (rw [q2] at h36; exact absurd h36 (by decide))
               rw [if_neg (by omega), if_neg (by omega), if_neg (by omega), if_pos (by omega)]
               rcases Bool.eq_false_or_eq_true (o.at_ == 0) with hd | hd
               · rw [hd]
                 simp at hd
                 unfold andV
                 first
                   | (exfalso; omega)
                   | (rw [Bool.true_and]; done)
               · rw [hd]
                 simp at hd
                 first
                   | (exfalso; omega)
                   | rfl)
        clear S; intro h91 S
        refine st_run [7, 1, 7, 1] S M rfl (by kernel_rfl) ?_; clear S a; intro a S
        (first | refine st_y S rfl rfl rfl (y_subN S rfl rfl (by omega)) ?_ | refine st_y S rfl rfl rfl (y_int S rfl rfl rfl) ?_); clear S a; intro a S
        refine st_y S rfl rfl rfl (y_int S rfl rfl rfl) ?_; clear S a; intro a S
        refine st_go [1, 1, 1] S rfl (by kernel_rfl) ?_; clear S a; intro a S
        refine nxC ?_
        refine wp_ret ?_
        refine block_ret ?_
        refine then_ret ?_
        refine end_one S rfl (res_tmp rfl) ?_
        refine ⟨ret_bool ?_, M.below⟩; clear S M
        have hA : (o.nm.named && o.nm.inc == inc && decide (1 ≤ o.c ∧ o.c ≤ 1048576) && o.touchedMay) = true := by simp [*]
        unfold Ope.may; rw [if_pos hA]; clear hA
        first
          | (exfalso; omega)
          | (refine (?_ : _ = _).trans (if_neg ?_).symm
             rotate_left
             · rintro ⟨q1, q2⟩
               first
                 | omega
                 | (rw [q2] at h36; exact absurd h36 (by decide))
             rw [if_neg (by omega), if_neg (by omega), if_neg (by omega), if_pos (by omega)]
             rcases Bool.eq_false_or_eq_true (o.at_ == 0) with hd | hd
             · rw [hd]
               simp at hd
               unfold andV
               first
                 | (exfalso; omega)
                 | (rw [Bool.true_and]; done)
             · rw [hd]
               simp at hd
               first
                 | (exfalso; omega)
                 | rfl)
      clear S; intro h68 S
      refine st_condT S rfl ?_
      refine wp_seq ?_
      refine wp_quiet M (by kernel_rfl) (by kernel_rfl) ?_
      refine qt_y S rfl rfl rfl (fun w M => y_fieldAddr (k := 12) S (by kernel_rfl) rfl) ?_; clear S a; intro a S
      refine qt_y S rfl rfl rfl (fun w M => y_load S (by kernel_rfl) rfl (M.cell 0 rfl rfl)) ?_; clear S a; intro a S
      refine qt_y S rfl rfl rfl (fun w M => y_int S rfl rfl rfl) ?_; clear S a; intro a S
      refine qt_y S rfl rfl rfl (fun w M => y_move S rfl) ?_; clear S a; intro a S
      refine st_fi (t := 73) S rfl ?_ ?_
      · clear S; intro h73 S
        refine qt_skip 3 S rfl ?_; clear S a; intro a S
        refine qt_y S rfl rfl rfl (fun w M => y_pickF S rfl rfl) ?_; clear S a; intro a S
        refine qt_y S rfl rfl rfl (fun w M => y_move S rfl) ?_; clear S a; intro a S
        refine qt_skip 6 S rfl ?_; clear S a; intro a S
        refine qt_y S rfl rfl rfl (fun w M => y_pickF S rfl rfl) ?_; clear S a; intro a S
        refine qt_y S rfl rfl rfl (fun w M => y_assign S rfl) ?_; clear S a; intro a S
        refine wpQuiet_nil ?_; clear M; intro w15 M
        replace S := S.sub [(0, _), (1, _), (2, _), (26, _), (36, _), (38, _), (39, _), (44, _), (68, _), (4, _)] rfl
        refine then_normal ?_
        refine wp_ret ?_
        refine block_ret ?_
        refine then_ret ?_
        refine end_one S rfl (res_tmp rfl) ?_
        refine ⟨ret_bool ?_, M.below⟩; clear S M
        have hA : (o.nm.named && o.nm.inc == inc && decide (1 ≤ o.c ∧ o.c ≤ 1048576) && o.touchedMay) = true := by simp [*]
        unfold Ope.may; rw [if_pos hA]; clear hA
        first
          | (exfalso; omega)
          | (refine (?_ : _ = _).trans (if_neg ?_).symm
             rotate_left
             · rintro ⟨q1, q2⟩
               first
                 | omega
                 | (rw [q2] at h36; exact absurd h36 (by decide))
             rw [if_neg (by omega), if_neg (by omega), if_pos (by omega)]
             rcases Bool.eq_false_or_eq_true (decide (1 ≤ o.at_ ∧ o.at_ ≤ 4)) with hd | hd
             · rw [hd]
               simp only [decide_eq_true_eq] at hd
               first
                 | (exfalso; omega)
                 | (simp; done)
             · rw [hd]
               simp only [decide_eq_false_iff_not] at hd
               first
                 | rfl
                 | (exfalso; omega))
      clear S; intro h73 S
      refine qt_y S rfl rfl rfl (fun w M => y_fieldAddr (k := 12) S (by kernel_rfl) rfl) ?_; clear S a; intro a S
      refine qt_y S rfl rfl rfl (fun w M => y_load S (by kernel_rfl) rfl (M.cell 0 rfl rfl)) ?_; clear S a; intro a S
      refine qt_y S rfl rfl rfl (fun w M => y_int S rfl rfl rfl) ?_; clear S a; intro a S
      refine qt_y S rfl rfl rfl (fun w M => y_pickT S rfl rfl) ?_; clear S a; intro a S
      refine qt_y S rfl rfl rfl (fun w M => y_move S rfl) ?_; clear S a; intro a S
      refine st_fi (t := 78) S rfl ?_ ?_
      · clear S; intro h78 S
        refine qt_skip 6 S rfl ?_; clear S a; intro a S
        refine qt_y S rfl rfl rfl (fun w M => y_pickF S rfl rfl) ?_; clear S a; intro a S
        refine qt_y S rfl rfl rfl (fun w M => y_assign S rfl) ?_; clear S a; intro a S
        refine wpQuiet_nil ?_; clear M; intro w14 M
        replace S := S.sub [(0, _), (1, _), (2, _), (26, _), (36, _), (38, _), (39, _), (44, _), (68, _), (4, _)] rfl
        refine then_normal ?_
        refine wp_ret ?_
        refine block_ret ?_
        refine then_ret ?_
        refine end_one S rfl (res_tmp rfl) ?_
        refine ⟨ret_bool ?_, M.below⟩; clear S M
        have hA : (o.nm.named && o.nm.inc == inc && decide (1 ≤ o.c ∧ o.c ≤ 1048576) && o.touchedMay) = true := by simp [*]
        unfold Ope.may; rw [if_pos hA]; clear hA
        first
          | (exfalso; omega)
          | (refine (?_ : _ = _).trans (if_neg ?_).symm
             rotate_left
             · rintro ⟨q1, q2⟩
               first
                 | omega
                 | (rw [q2] at h36; exact absurd h36 (by decide))
             rw [if_neg (by omega), if_neg (by omega), if_pos (by omega)]
             rcases Bool.eq_false_or_eq_true (decide (1 ≤ o.at_ ∧ o.at_ ≤ 4)) with hd | hd
             · rw [hd]
               simp only [decide_eq_true_eq] at hd
               first
                 | (exfalso; omega)
                 | (simp; done)
             · rw [hd]
               simp only [decide_eq_false_iff_not] at hd
               first
                 | rfl
                 | (exfalso; omega))
      clear S; intro h78 S
      refine qt_y S rfl rfl rfl (fun w M => y_fieldAddr (k := 6) S (by kernel_rfl) rfl) ?_; clear S a; intro a S
      refine qt_y S rfl rfl rfl (fun w M => y_load S (by kernel_rfl) rfl (M.cell 0 rfl rfl)) ?_; clear S a; intro a S
      refine qt_y S rfl rfl rfl (fun w M => y_fieldAddr (k := 12) S (by kernel_rfl) rfl) ?_; clear S a; intro a S
      refine qt_y S rfl rfl rfl (fun w M => y_load S (by kernel_rfl) rfl (M.cell 0 rfl rfl)) ?_; clear S a; intro a S
      (first | refine qt_y S rfl rfl rfl (fun w M => y_shlN S rfl rfl (by omega) (by exact shl_bd (by omega))) ?_ | refine qt_y S rfl rfl rfl (fun w M => y_shl S rfl rfl (by omega)) ?_); clear S a; intro a S
      refine qt_y S rfl rfl rfl (fun w M => y_int S rfl rfl rfl) ?_; clear S a; intro a S
      refine qt_y S rfl rfl rfl (fun w M => y_pickT S rfl rfl) ?_; clear S a; intro a S
      refine qt_y S rfl rfl rfl (fun w M => y_assign S rfl) ?_; clear S a; intro a S
      refine wpQuiet_nil ?_; clear M; intro w13 M
      replace S := S.sub [(0, _), (1, _), (2, _), (26, _), (36, _), (38, _), (39, _), (44, _), (68, _), (4, _)] rfl
      refine then_normal ?_
      refine wp_ret ?_
      refine block_ret ?_
      refine then_ret ?_
      refine end_one S rfl (res_tmp rfl) ?_
      refine ⟨ret_bool ?_, M.below⟩; clear S M
      have hA : (o.nm.named && o.nm.inc == inc && decide (1 ≤ o.c ∧ o.c ≤ 1048576) && o.touchedMay) = true := by simp [*]
      unfold Ope.may; rw [if_pos hA]; clear hA
      first
        | (exfalso; omega)
        | (refine (?_ : _ = _).trans (if_neg ?_).symm
           rotate_left
           · rintro ⟨q1, q2⟩
             first
               | omega
               | (rw [q2] at h36; exact absurd h36 (by decide))
           rw [if_neg (by omega), if_neg (by omega), if_pos (by omega)]
           rcases Bool.eq_false_or_eq_true (decide (1 ≤ o.at_ ∧ o.at_ ≤ 4)) with hd | hd
           · rw [hd]
             simp only [decide_eq_true_eq] at hd
             first
               | (exfalso; omega)
               | (simp; done)
           · rw [hd]
             simp only [decide_eq_false_iff_not] at hd
             first
               | rfl
               | (exfalso; omega))
    clear S; intro h44 S
    refine st_condT S rfl ?_
    refine wp_seq ?_
    refine wp_regionK [] #[false, false, false, false, false, false, false, false, false, false, false, false, false, false, false, false, false, false, false, false, false, false, false] rfl M (by kernel_rfl) ?_; clear M; intro w11 M
    refine k_pure (listed' := #[true, false, false, false, false, false, false, false, false, false, false, false, false, false, false, false, false, false, false, false, false, false, false]) 0 S rfl rfl rfl rfl (by kernel_rfl) rfl (fun _ d _ _ _ h => by cases d <;> exact h) (fun w => y_fieldAddr (k := 12) S (by kernel_rfl) rfl) ?_; clear S a; intro a S
    refine k_read (listed' := #[true, true, false, false, false, false, false, false, false, false, false, false, false, false, false, false, false, false, false, false, false, false, false]) 1 S rfl rfl rfl rfl (by kernel_rfl) rfl (fun _ d _ _ _ h => by cases d <;> exact h) (fun w hW => have M := M.grow hW; y_load S (by kernel_rfl) rfl (M.cell 0 rfl rfl)) ?_; clear S a; intro a S
    refine k_pure (listed' := #[true, true, true, false, false, false, false, false, false, false, false, false, false, false, false, false, false, false, false, false, false, false, false]) 2 S rfl rfl rfl rfl (by kernel_rfl) rfl (fun _ d _ _ _ h => by cases d <;> exact h) (fun w => y_int S rfl rfl rfl) ?_; clear S a; intro a S
    refine k_pure (listed' := #[true, true, true, true, false, false, false, false, false, false, false, false, false, false, false, false, false, false, false, false, false, false, false]) 3 S rfl rfl rfl rfl (by kernel_rfl) rfl (fun _ d _ _ _ h => by cases d <;> exact h) (fun w => y_move S rfl) ?_; clear S a; intro a S
    refine st_fi (t := 49) S rfl ?_ ?_
    · clear S; intro h49 S
      refine k_no (listed' := #[true, true, true, true, true, false, false, false, false, false, false, false, false, false, false, false, false, false, false, false, false, false, false]) 4 S rfl rfl rfl rfl (by kernel_rfl) rfl (fun _ d _ _ _ h => by cases d <;> exact h) ?_; clear S a; intro a S
      refine k_no (listed' := #[true, true, true, true, true, true, false, false, false, false, false, false, false, false, false, false, false, false, false, false, false, false, false]) 5 S rfl rfl rfl rfl (by kernel_rfl) rfl (fun _ d _ _ _ h => by cases d <;> exact h) ?_; clear S a; intro a S
      refine k_no (listed' := #[true, true, true, true, true, true, true, false, false, false, false, false, false, false, false, false, false, false, false, false, false, false, false]) 6 S rfl rfl rfl rfl (by kernel_rfl) rfl (fun _ d _ _ _ h => by cases d <;> exact h) ?_; clear S a; intro a S
      refine k_pure (listed' := #[true, true, true, true, true, true, true, true, false, false, false, false, false, false, false, false, false, false, false, false, false, false, false]) 7 S rfl rfl rfl rfl (by kernel_rfl) rfl (fun _ d _ _ _ h => by cases d <;> exact h) (fun w => y_pickF S rfl rfl) ?_; clear S a; intro a S
      refine k_pure (listed' := #[true, true, true, true, true, true, true, true, true, false, false, false, false, false, false, false, false, false, false, false, false, false, false]) 8 S rfl rfl rfl rfl (by kernel_rfl) rfl (fun _ d _ _ _ h => by cases d <;> exact h) (fun w => y_move S rfl) ?_; clear S a; intro a S
      refine k_no (listed' := #[true, true, true, true, true, true, true, true, true, true, false, false, false, false, false, false, false, false, false, false, false, false, false]) 9 S rfl rfl rfl rfl (by kernel_rfl) rfl (fun _ d _ _ _ h => by cases d <;> exact h) ?_; clear S a; intro a S
      refine k_no (listed' := #[true, true, true, true, true, true, true, true, true, true, true, false, false, false, false, false, false, false, false, false, false, false, false]) 10 S rfl rfl rfl rfl (by kernel_rfl) rfl (fun _ d _ _ _ h => by cases d <;> exact h) ?_; clear S a; intro a S
      refine k_no (listed' := #[true, true, true, true, true, true, true, true, true, true, true, true, false, false, false, false, false, false, false, false, false, false, false]) 11 S rfl rfl rfl rfl (by kernel_rfl) rfl (fun _ d _ _ _ h => by cases d <;> exact h) ?_; clear S a; intro a S
      refine k_no (listed' := #[true, true, true, true, true, true, true, true, true, true, true, true, true, false, false, false, false, false, false, false, false, false, false]) 12 S rfl rfl rfl rfl (by kernel_rfl) rfl (fun _ d _ _ _ h => by cases d <;> exact h) ?_; clear S a; intro a S
      refine k_no (listed' := #[true, true, true, true, true, true, true, true, true, true, true, true, true, true, false, false, false, false, false, false, false, false, false]) 13 S rfl rfl rfl rfl (by kernel_rfl) rfl (fun _ d _ _ _ h => by cases d <;> exact h) ?_; clear S a; intro a S
      refine k_no (listed' := #[true, true, true, true, true, true, true, true, true, true, true, true, true, true, true, false, false, false, false, false, false, false, false]) 14 S rfl rfl rfl rfl (by kernel_rfl) rfl (fun _ d _ _ _ h => by cases d <;> exact h) ?_; clear S a; intro a S
      refine k_no (listed' := #[true, true, true, true, true, true, true, true, true, true, true, true, true, true, true, true, false, false, false, false, false, false, false]) 15 S rfl rfl rfl rfl (by kernel_rfl) rfl (fun _ d _ _ _ h => by cases d <;> exact h) ?_; clear S a; intro a S
      refine k_pure (listed' := #[true, true, true, true, true, true, true, true, true, true, true, true, true, true, true, true, true, false, false, false, false, false, false]) 16 S rfl rfl rfl rfl (by kernel_rfl) rfl (fun _ d _ _ _ h => by cases d <;> exact h) (fun w => y_pickF S rfl rfl) ?_; clear S a; intro a S
      refine k_pure (listed' := #[true, true, true, true, true, true, true, true, true, true, true, true, true, true, true, true, true, true, false, false, false, false, false]) 17 S rfl rfl rfl rfl (by kernel_rfl) rfl (fun _ d _ _ _ h => by cases d <;> exact h) (fun w => y_move S rfl) ?_; clear S a; intro a S
      refine k_no (listed' := #[true, true, true, true, true, true, true, true, true, true, true, true, true, true, true, true, true, true, true, false, false, false, false]) 18 S rfl rfl rfl rfl (by kernel_rfl) rfl (fun _ d _ _ _ h => by cases d <;> exact h) ?_; clear S a; intro a S
      refine k_no (listed' := #[true, true, true, true, true, true, true, true, true, true, true, true, true, true, true, true, true, true, true, true, false, false, false]) 19 S rfl rfl rfl rfl (by kernel_rfl) rfl (fun _ d _ _ _ h => by cases d <;> exact h) ?_; clear S a; intro a S
      refine k_no (listed' := #[true, true, true, true, true, true, true, true, true, true, true, true, true, true, true, true, true, true, true, true, true, false, false]) 20 S rfl rfl rfl rfl (by kernel_rfl) rfl (fun _ d _ _ _ h => by cases d <;> exact h) ?_; clear S a; intro a S
      refine k_pure (listed' := #[true, true, true, true, true, true, true, true, true, true, true, true, true, true, true, true, true, true, true, true, true, true, false]) 21 S rfl rfl rfl rfl (by kernel_rfl) rfl (fun _ d _ _ _ h => by cases d <;> exact h) (fun w => y_pickF S rfl rfl) ?_; clear S a; intro a S
      refine k_pure (listed' := #[true, true, true, true, true, true, true, true, true, true, true, true, true, true, true, true, true, true, true, true, true, true, true]) 22 S rfl rfl rfl rfl (by kernel_rfl) rfl (fun _ d _ _ _ h => by cases d <;> exact h) (fun w => y_assign S rfl) ?_; clear S a; intro a S
      refine k_end (by kernel_rfl) ?_
      replace S := S.sub [(0, _), (1, _), (2, _), (26, _), (36, _), (38, _), (39, _), (44, _), (4, _)] rfl
      refine then_normal ?_
      refine wp_ret ?_
      refine block_ret ?_
      refine then_ret ?_
      refine end_one S rfl (res_tmp rfl) ?_
      refine ⟨ret_bool ?_, M.below⟩; clear S M
      have hA : (o.nm.named && o.nm.inc == inc && decide (1 ≤ o.c ∧ o.c ≤ 1048576) && o.touchedMay) = true := by simp [*]
      unfold Ope.may; rw [if_pos hA]; clear hA
      first
        | (exfalso; omega)
        | (refine (?_ : _ = _).trans (if_neg ?_).symm
           rotate_left
           · rintro ⟨q1, q2⟩
             first
               | omega
               | (rw [q2] at h36; exact absurd h36 (by decide))
           rw [if_neg (by omega), if_pos (by omega)]
           rcases Bool.eq_false_or_eq_true (decide (1 ≤ o.at_ ∧ o.at_ ≤ 4)) with hd | hd
           · rw [hd]
             simp only [decide_eq_true_eq] at hd
             rcases Bool.eq_false_or_eq_true (hasBit o.sh o.at_.toNat) with hb | hb
             · rw [hb]
               first
                 | (simp; done)
                 | (exfalso; unfold hasBit andV at hb; simp at hb; simp at h63; exact hb h63)
                 | (exfalso; omega)
             · rw [hb]
               first
                 | (simp; done)
                 | (exfalso; unfold hasBit andV at hb; simp at hb; simp at h63; exact h63 hb)
                 | (exfalso; omega)
           · rw [hd]
             simp only [decide_eq_false_iff_not] at hd
             first
               | rfl
               | (exfalso; omega))
    clear S; intro h49 S
    refine k_pure (listed' := #[true, true, true, true, true, false, false, false, false, false, false, false, false, false, false, false, false, false, false, false, false, false, false]) 4 S rfl rfl rfl rfl (by kernel_rfl) rfl (fun _ d _ _ _ h => by cases d <;> exact h) (fun w => y_fieldAddr (k := 12) S (by kernel_rfl) rfl) ?_; clear S a; intro a S
    refine k_read (listed' := #[true, true, true, true, true, true, false, false, false, false, false, false, false, false, false, false, false, false, false, false, false, false, false]) 5 S rfl rfl rfl rfl (by kernel_rfl) rfl (fun _ d _ _ _ h => by cases d <;> exact h) (fun w hW => have M := M.grow hW; y_load S (by kernel_rfl) rfl (M.cell 0 rfl rfl)) ?_; clear S a; intro a S
    refine k_pure (listed' := #[true, true, true, true, true, true, true, false, false, false, false, false, false, false, false, false, false, false, false, false, false, false, false]) 6 S rfl rfl rfl rfl (by kernel_rfl) rfl (fun _ d _ _ _ h => by cases d <;> exact h) (fun w => y_int S rfl rfl rfl) ?_; clear S a; intro a S
    refine k_pure (listed' := #[true, true, true, true, true, true, true, true, false, false, false, false, false, false, false, false, false, false, false, false, false, false, false]) 7 S rfl rfl rfl rfl (by kernel_rfl) rfl (fun _ d _ _ _ h => by cases d <;> exact h) (fun w => y_pickT S rfl rfl) ?_; clear S a; intro a S
    refine k_pure (listed' := #[true, true, true, true, true, true, true, true, true, false, false, false, false, false, false, false, false, false, false, false, false, false, false]) 8 S rfl rfl rfl rfl (by kernel_rfl) rfl (fun _ d _ _ _ h => by cases d <;> exact h) (fun w => y_move S rfl) ?_; clear S a; intro a S
    refine st_fi (t := 54) S rfl ?_ ?_
    · clear S; intro h54 S
      refine k_no (listed' := #[true, true, true, true, true, true, true, true, true, true, false, false, false, false, false, false, false, false, false, false, false, false, false]) 9 S rfl rfl rfl rfl (by kernel_rfl) rfl (fun _ d _ _ _ h => by cases d <;> exact h) ?_; clear S a; intro a S
      refine k_no (listed' := #[true, true, true, true, true, true, true, true, true, true, true, false, false, false, false, false, false, false, false, false, false, false, false]) 10 S rfl rfl rfl rfl (by kernel_rfl) rfl (fun _ d _ _ _ h => by cases d <;> exact h) ?_; clear S a; intro a S
      refine k_no (listed' := #[true, true, true, true, true, true, true, true, true, true, true, true, false, false, false, false, false, false, false, false, false, false, false]) 11 S rfl rfl rfl rfl (by kernel_rfl) rfl (fun _ d _ _ _ h => by cases d <;> exact h) ?_; clear S a; intro a S
      refine k_no (listed' := #[true, true, true, true, true, true, true, true, true, true, true, true, true, false, false, false, false, false, false, false, false, false, false]) 12 S rfl rfl rfl rfl (by kernel_rfl) rfl (fun _ d _ _ _ h => by cases d <;> exact h) ?_; clear S a; intro a S
      refine k_no (listed' := #[true, true, true, true, true, true, true, true, true, true, true, true, true, true, false, false, false, false, false, false, false, false, false]) 13 S rfl rfl rfl rfl (by kernel_rfl) rfl (fun _ d _ _ _ h => by cases d <;> exact h) ?_; clear S a; intro a S
      refine k_no (listed' := #[true, true, true, true, true, true, true, true, true, true, true, true, true, true, true, false, false, false, false, false, false, false, false]) 14 S rfl rfl rfl rfl (by kernel_rfl) rfl (fun _ d _ _ _ h => by cases d <;> exact h) ?_; clear S a; intro a S
      refine k_no (listed' := #[true, true, true, true, true, true, true, true, true, true, true, true, true, true, true, true, false, false, false, false, false, false, false]) 15 S rfl rfl rfl rfl (by kernel_rfl) rfl (fun _ d _ _ _ h => by cases d <;> exact h) ?_; clear S a; intro a S
      refine k_pure (listed' := #[true, true, true, true, true, true, true, true, true, true, true, true, true, true, true, true, true, false, false, false, false, false, false]) 16 S rfl rfl rfl rfl (by kernel_rfl) rfl (fun _ d _ _ _ h => by cases d <;> exact h) (fun w => y_pickF S rfl rfl) ?_; clear S a; intro a S
      refine k_pure (listed' := #[true, true, true, true, true, true, true, true, true, true, true, true, true, true, true, true, true, true, false, false, false, false, false]) 17 S rfl rfl rfl rfl (by kernel_rfl) rfl (fun _ d _ _ _ h => by cases d <;> exact h) (fun w => y_move S rfl) ?_; clear S a; intro a S
      refine k_no (listed' := #[true, true, true, true, true, true, true, true, true, true, true, true, true, true, true, true, true, true, true, false, false, false, false]) 18 S rfl rfl rfl rfl (by kernel_rfl) rfl (fun _ d _ _ _ h => by cases d <;> exact h) ?_; clear S a; intro a S
      refine k_no (listed' := #[true, true, true, true, true, true, true, true, true, true, true, true, true, true, true, true, true, true, true, true, false, false, false]) 19 S rfl rfl rfl rfl (by kernel_rfl) rfl (fun _ d _ _ _ h => by cases d <;> exact h) ?_; clear S a; intro a S
      refine k_no (listed' := #[true, true, true, true, true, true, true, true, true, true, true, true, true, true, true, true, true, true, true, true, true, false, false]) 20 S rfl rfl rfl rfl (by kernel_rfl) rfl (fun _ d _ _ _ h => by cases d <;> exact h) ?_; clear S a; intro a S
      refine k_pure (listed' := #[true, true, true, true, true, true, true, true, true, true, true, true, true, true, true, true, true, true, true, true, true, true, false]) 21 S rfl rfl rfl rfl (by kernel_rfl) rfl (fun _ d _ _ _ h => by cases d <;> exact h) (fun w => y_pickF S rfl rfl) ?_; clear S a; intro a S
      refine k_pure (listed' := #[true, true, true, true, true, true, true, true, true, true, true, true, true, true, true, true, true, true, true, true, true, true, true]) 22 S rfl rfl rfl rfl (by kernel_rfl) rfl (fun _ d _ _ _ h => by cases d <;> exact h) (fun w => y_assign S rfl) ?_; clear S a; intro a S
      refine k_end (by kernel_rfl) ?_
      replace S := S.sub [(0, _), (1, _), (2, _), (26, _), (36, _), (38, _), (39, _), (44, _), (4, _)] rfl
      refine then_normal ?_
      refine wp_ret ?_
      refine block_ret ?_
      refine then_ret ?_
      refine end_one S rfl (res_tmp rfl) ?_
      refine ⟨ret_bool ?_, M.below⟩; clear S M
      have hA : (o.nm.named && o.nm.inc == inc && decide (1 ≤ o.c ∧ o.c ≤ 1048576) && o.touchedMay) = true := by simp [*]
      unfold Ope.may; rw [if_pos hA]; clear hA
      first
        | (exfalso; omega)
        | (refine (?_ : _ = _).trans (if_neg ?_).symm
           rotate_left
           · rintro ⟨q1, q2⟩
             first
               | omega
               | (rw [q2] at h36; exact absurd h36 (by decide))
           rw [if_neg (by omega), if_pos (by omega)]
           rcases Bool.eq_false_or_eq_true (decide (1 ≤ o.at_ ∧ o.at_ ≤ 4)) with hd | hd
           · rw [hd]
             simp only [decide_eq_true_eq] at hd
             rcases Bool.eq_false_or_eq_true (hasBit o.sh o.at_.toNat) with hb | hb
             · rw [hb]
               first
                 | (simp; done)
                 | (exfalso; unfold hasBit andV at hb; simp at hb; simp at h63; exact hb h63)
                 | (exfalso; omega)
             · rw [hb]
               first
                 | (simp; done)
                 | (exfalso; unfold hasBit andV at hb; simp at hb; simp at h63; exact h63 hb)
                 | (exfalso; omega)
           · rw [hd]
             simp only [decide_eq_false_iff_not] at hd
             first
               | rfl
               | (exfalso; omega))
    clear S; intro h54 S
    refine k_pure (listed' := #[true, true, true, true, true, true, true, true, true, true, false, false, false, false, false, false, false, false, false, false, false, false, false]) 9 S rfl rfl rfl rfl (by kernel_rfl) rfl (fun _ d _ _ _ h => by cases d <;> exact h) (fun w => y_fieldAddr (k := 6) S (by kernel_rfl) rfl) ?_; clear S a; intro a S
    refine k_read (listed' := #[true, true, true, true, true, true, true, true, true, true, true, false, false, false, false, false, false, false, false, false, false, false, false]) 10 S rfl rfl rfl rfl (by kernel_rfl) rfl (fun _ d _ _ _ h => by cases d <;> exact h) (fun w hW => have M := M.grow hW; y_load S (by kernel_rfl) rfl (M.cell 0 rfl rfl)) ?_; clear S a; intro a S
    refine k_pure (listed' := #[true, true, true, true, true, true, true, true, true, true, true, true, false, false, false, false, false, false, false, false, false, false, false]) 11 S rfl rfl rfl rfl (by kernel_rfl) rfl (fun _ d _ _ _ h => by cases d <;> exact h) (fun w => y_fieldAddr (k := 12) S (by kernel_rfl) rfl) ?_; clear S a; intro a S
    refine k_read (listed' := #[true, true, true, true, true, true, true, true, true, true, true, true, true, false, false, false, false, false, false, false, false, false, false]) 12 S rfl rfl rfl rfl (by kernel_rfl) rfl (fun _ d _ _ _ h => by cases d <;> exact h) (fun w hW => have M := M.grow hW; y_load S (by kernel_rfl) rfl (M.cell 0 rfl rfl)) ?_; clear S a; intro a S
    (first | refine k_pure (listed' := #[true, true, true, true, true, true, true, true, true, true, true, true, true, true, false, false, false, false, false, false, false, false, false]) 13 S rfl rfl rfl rfl (by kernel_rfl) rfl (fun _ d _ _ _ h => by cases d <;> exact h) (fun w => y_shlN S rfl rfl (by omega) (by exact shl_bd (by omega))) ?_ | refine k_pure (listed' := #[true, true, true, true, true, true, true, true, true, true, true, true, true, true, false, false, false, false, false, false, false, false, false]) 13 S rfl rfl rfl rfl (by kernel_rfl) rfl (fun _ d _ _ _ h => by cases d <;> exact h) (fun w => y_shl S rfl rfl (by omega)) ?_); clear S a; intro a S
    refine k_pure (listed' := #[true, true, true, true, true, true, true, true, true, true, true, true, true, true, true, false, false, false, false, false, false, false, false]) 14 S rfl rfl rfl rfl (by kernel_rfl) rfl (fun _ d _ _ _ h => by cases d <;> exact h) (fun w => y_int S rfl rfl rfl) ?_; clear S a; intro a S
    refine k_pure (listed' := #[true, true, true, true, true, true, true, true, true, true, true, true, true, true, true, true, false, false, false, false, false, false, false]) 15 S rfl rfl rfl rfl (by kernel_rfl) rfl (fun _ d _ _ _ h => by cases d <;> exact h) (fun w => y_int S rfl rfl rfl) ?_; clear S a; intro a S
    refine k_pure (listed' := #[true, true, true, true, true, true, true, true, true, true, true, true, true, true, true, true, true, false, false, false, false, false, false]) 16 S rfl rfl rfl rfl (by kernel_rfl) rfl (fun _ d _ _ _ h => by cases d <;> exact h) (fun w => y_pickT S rfl rfl) ?_; clear S a; intro a S
    refine k_pure (listed' := #[true, true, true, true, true, true, true, true, true, true, true, true, true, true, true, true, true, true, false, false, false, false, false]) 17 S rfl rfl rfl rfl (by kernel_rfl) rfl (fun _ d _ _ _ h => by cases d <;> exact h) (fun w => y_move S rfl) ?_; clear S a; intro a S
    refine st_fi (t := 63) S rfl ?_ ?_
    · clear S; intro h63 S
      refine k_no (listed' := #[true, true, true, true, true, true, true, true, true, true, true, true, true, true, true, true, true, true, true, false, false, false, false]) 18 S rfl rfl rfl rfl (by kernel_rfl) rfl (fun _ d _ _ _ h => by cases d <;> exact h) ?_; clear S a; intro a S
      refine k_no (listed' := #[true, true, true, true, true, true, true, true, true, true, true, true, true, true, true, true, true, true, true, true, false, false, false]) 19 S rfl rfl rfl rfl (by kernel_rfl) rfl (fun _ d _ _ _ h => by cases d <;> exact h) ?_; clear S a; intro a S
      refine k_no (listed' := #[true, true, true, true, true, true, true, true, true, true, true, true, true, true, true, true, true, true, true, true, true, false, false]) 20 S rfl rfl rfl rfl (by kernel_rfl) rfl (fun _ d _ _ _ h => by cases d <;> exact h) ?_; clear S a; intro a S
      refine k_pure (listed' := #[true, true, true, true, true, true, true, true, true, true, true, true, true, true, true, true, true, true, true, true, true, true, false]) 21 S rfl rfl rfl rfl (by kernel_rfl) rfl (fun _ d _ _ _ h => by cases d <;> exact h) (fun w => y_pickF S rfl rfl) ?_; clear S a; intro a S
      refine k_pure (listed' := #[true, true, true, true, true, true, true, true, true, true, true, true, true, true, true, true, true, true, true, true, true, true, true]) 22 S rfl rfl rfl rfl (by kernel_rfl) rfl (fun _ d _ _ _ h => by cases d <;> exact h) (fun w => y_assign S rfl) ?_; clear S a; intro a S
      refine k_end (by kernel_rfl) ?_
      replace S := S.sub [(0, _), (1, _), (2, _), (26, _), (36, _), (38, _), (39, _), (44, _), (4, _)] rfl
      refine then_normal ?_
      refine wp_ret ?_
      refine block_ret ?_
      refine then_ret ?_
      refine end_one S rfl (res_tmp rfl) ?_
      refine ⟨ret_bool ?_, M.below⟩; clear S M
      have hA : (o.nm.named && o.nm.inc == inc && decide (1 ≤ o.c ∧ o.c ≤ 1048576) && o.touchedMay) = true := by simp [*]
      unfold Ope.may; rw [if_pos hA]; clear hA
      first
        | (exfalso; omega)
        | (refine (?_ : _ = _).trans (if_neg ?_).symm
           rotate_left
           · rintro ⟨q1, q2⟩
             first
               | omega
               | (rw [q2] at h36; exact absurd h36 (by decide))
           rw [if_neg (by omega), if_pos (by omega)]
           rcases Bool.eq_false_or_eq_true (decide (1 ≤ o.at_ ∧ o.at_ ≤ 4)) with hd | hd
           · rw [hd]
             simp only [decide_eq_true_eq] at hd
             rcases Bool.eq_false_or_eq_true (hasBit o.sh o.at_.toNat) with hb | hb
             · rw [hb]
               first
                 | (simp; done)
                 | (exfalso; unfold hasBit andV at hb; simp at hb; simp at h63; exact hb h63)
                 | (exfalso; omega)
             · rw [hb]
               first
                 | (simp; done)
                 | (exfalso; unfold hasBit andV at hb; simp at hb; simp at h63; exact h63 hb)
                 | (exfalso; omega)
           · rw [hd]
             simp only [decide_eq_false_iff_not] at hd
             first
               | rfl
               | (exfalso; omega))
    clear S; intro h63 S
    refine k_read (listed' := #[true, true, true, true, true, true, true, true, true, true, true, true, true, true, true, true, true, true, true, false, false, false, false]) 18 S rfl rfl rfl rfl (by kernel_rfl) rfl (fun _ d _ _ _ h => by cases d <;> exact h) (fun w hW => have M := M.grow hW; y_loadAgg (cs := [_, _, _, _, _, _, _, _, _, _, _, _, _, _, _, _, _, _, _, _, _, _, _, _, _, _, _, _, _, _, _, _, _, _, _, _, _]) S (by kernel_rfl) rfl rfl (M.cellsAt (k := 37) 0 rfl rfl)) ?_; clear S a; intro a S
    refine k_pure (listed' := #[true, true, true, true, true, true, true, true, true, true, true, true, true, true, true, true, true, true, true, true, false, false, false]) 19 S rfl rfl rfl rfl (by kernel_rfl) rfl (fun _ d _ _ _ h => by cases d <;> exact h) (fun w => y_move S rfl) ?_; clear S a; intro a S
    refine k_one (listed' := #[true, true, true, true, true, true, true, true, true, true, true, true, true, true, true, true, true, true, true, true, true, false, false]) 20 rfl (by kernel_rfl) rfl ?_
    refine st_call (xs := [(Operand.tmp 64), (Operand.tmp 65)]) S (enters_of Try.func50 (by decide) rfl) rfl rfl rfl (execMay_any o inc _ (by omega)) ?_
    rintro _ w12 ⟨rfl, hK⟩; refine ⟨_, rfl, ?_⟩; clear S a; intro a S; replace M := M.grow hK
    refine wpList_nil ?_; refine then_normal ?_; refine ⟨fun _ => hK, ?_⟩
    refine k_pure (listed' := #[true, true, true, true, true, true, true, true, true, true, true, true, true, true, true, true, true, true, true, true, true, true, false]) 21 S rfl rfl rfl rfl (by kernel_rfl) rfl (fun _ d _ _ _ h => by cases d <;> exact h) (fun w => y_pickT S rfl rfl) ?_; clear S a; intro a S
    refine k_pure (listed' := #[true, true, true, true, true, true, true, true, true, true, true, true, true, true, true, true, true, true, true, true, true, true, true]) 22 S rfl rfl rfl rfl (by kernel_rfl) rfl (fun _ d _ _ _ h => by cases d <;> exact h) (fun w => y_assign S rfl) ?_; clear S a; intro a S
    refine k_end (by kernel_rfl) ?_
    replace S := S.sub [(0, _), (1, _), (2, _), (26, _), (36, _), (38, _), (39, _), (44, _), (4, _)] rfl
    refine then_normal ?_
    refine wp_ret ?_
    refine block_ret ?_
    refine then_ret ?_
    refine end_one S rfl (res_tmp rfl) ?_
    refine ⟨ret_bool ?_, M.below⟩; clear S M
    have hA : (o.nm.named && o.nm.inc == inc && decide (1 ≤ o.c ∧ o.c ≤ 1048576) && o.touchedMay) = true := by simp [*]
    unfold Ope.may; rw [if_pos hA]; clear hA
    first
      | (exfalso; omega)
      | (refine (?_ : _ = _).trans (if_neg ?_).symm
         rotate_left
         · rintro ⟨q1, q2⟩
           first
             | omega
             | (rw [q2] at h36; exact absurd h36 (by decide))
         rw [if_neg (by omega), if_pos (by omega)]
         rcases Bool.eq_false_or_eq_true (decide (1 ≤ o.at_ ∧ o.at_ ≤ 4)) with hd | hd
         · rw [hd]
           simp only [decide_eq_true_eq] at hd
           rcases Bool.eq_false_or_eq_true (hasBit o.sh o.at_.toNat) with hb | hb
           · rw [hb]
             first
               | (simp; done)
               | (exfalso; unfold hasBit andV at hb; simp at hb; simp at h63; exact hb h63)
               | (exfalso; omega)
           · rw [hb]
             first
               | (simp; done)
               | (exfalso; unfold hasBit andV at hb; simp at hb; simp at h63; exact h63 hb)
               | (exfalso; omega)
         · rw [hd]
           simp only [decide_eq_false_iff_not] at hd
           first
             | rfl
             | (exfalso; omega))
  clear S; intro h30 S
  refine st_go [14] S rfl (by kernel_rfl) ?_; clear S a; intro a S
  refine st_y S rfl rfl rfl (y_loadAgg (cs := [_, _, _, _, _, _, _, _, _, _, _, _, _, _, _, _, _, _, _, _, _, _, _, _]) S (by kernel_rfl) rfl rfl (M.cellsAt (k := 24) 0 rfl rfl)) ?_; clear S a; intro a S
  refine st_y S rfl rfl rfl (y_build (ps := []) (pl := [(0, 1), (1, 1), (2, 1), (3, 1), (4, 1), (5, 3), (8, 1), (9, 1), (10, 1), (11, 8), (19, 1), (20, 1), (21, 1), (22, 1), (23, 1)]) (z := [.int .i8 0, .int .i64 0, .int .i64 0, .int .i64 0, .int .i64 0, .int .i64 0, .int .i64 0, .int .i64 0, .int .i64 0, .int .i8 0, .int .i64 0, .int .u8 0, .int .u8 0, .int .u8 0, .int .u8 0, .int .u8 0, .int .u8 0, .int .u8 0, .int .u8 0, .int .i64 0, .bool false, .int .i64 0, .int .i64 0, .slice none 0 0]) (cs := msgL zMg) S (by kernel_rfl) rfl (by kernel_rfl)) ?_; clear S a; intro a S
  refine st_call (xs := [(Operand.tmp 32), (Operand.tmp 33)]) S (enters_of Try.func43 (by decide) rfl) rfl rfl rfl (sameM_any o.ex zMg (.slice none 0 0) (.slice none 0 0) [] [] _ (Rd.nil _ _ _ _) (Rd.nil _ _ _ _)) ?_
  rintro _ w5 ⟨rfl, hK⟩; refine ⟨_, rfl, ?_⟩; clear S a; intro a S; replace M := M.grow hK
  refine st_go [1, 1] S rfl (by kernel_rfl) ?_; clear S a; intro a S
  refine nxC ?_
  refine st_if (t := 36) S rfl ?_ ?_
  · clear S; intro h36 S
    refine st_condT S rfl ?_
    refine nxD ?_
    refine st_go [1] S rfl (by kernel_rfl) ?_; clear S a; intro a S
    refine nxC ?_
    refine wp_ret ?_
    refine then_ret ?_
    refine end_one S rfl (res_tmp rfl) ?_
    refine ⟨ret_bool ?_, M.below⟩; clear S M
    have hA : (o.nm.named && o.nm.inc == inc && decide (1 ≤ o.c ∧ o.c ≤ 1048576) && o.touchedMay) = true := by simp [*]
    unfold Ope.may; rw [if_pos hA]; clear hA
    exact (if_pos ⟨by assumption, by assumption⟩).symm
  clear S; intro h36 S
  refine st_condF S rfl ?_
  refine wp_skip ?_
  refine then_normal ?_
  refine wp_seq ?_
  refine nxD ?_
  refine st_run [6, 1] S M rfl (by kernel_rfl) ?_; clear S a; intro a S
  refine nxC ?_
  refine wp_block ?_
  refine nxD ?_
  refine st_go [1, 1] S rfl (by kernel_rfl) ?_; clear S a; intro a S
  refine nxC ?_
  refine st_if (t := 39) S rfl ?_ ?_
  · clear S; intro h39 S
    refine st_condT S rfl ?_
    refine nxD ?_
    refine st_run [13, 1, 1, 1] S M rfl (by kernel_rfl) ?_; clear S a; intro a S
    replace S := S.sub [(0, _), (1, _), (2, _), (26, _), (36, _), (38, _), (39, _), (4, _)] rfl
    refine nxC ?_
    refine wp_ret ?_
    refine block_ret ?_
    refine then_ret ?_
    refine end_one S rfl (res_tmp rfl) ?_
    refine ⟨ret_bool ?_, M.below⟩; clear S M
    have hA : (o.nm.named && o.nm.inc == inc && decide (1 ≤ o.c ∧ o.c ≤ 1048576) && o.touchedMay) = true := by simp [*]
    unfold Ope.may; rw [if_pos hA]; clear hA
    first
      | (exfalso; omega)
      | (refine (?_ : _ = _).trans (if_neg ?_).symm
         rotate_left
         · rintro ⟨q1, q2⟩
           first
             | omega
             | (rw [q2] at h36; exact absurd h36 (by decide))
         rw [if_pos (by omega)])
  clear S; intro h39 S
  refine st_condF S rfl ?_
  refine nxD ?_
  refine st_go [1, 1] S rfl (by kernel_rfl) ?_; clear S a; intro a S
  refine nxC ?_
  refine st_fi (t := 44) S rfl ?_ ?_
  · clear S; intro h44 S
    refine st_condF S rfl ?_
    refine nxD ?_
    refine st_go [1, 1] S rfl (by kernel_rfl) ?_; clear S a; intro a S
    refine nxC ?_
    refine st_fi (t := 68) S rfl ?_ ?_
    · clear S; intro h68 S
      refine st_condF S rfl ?_
      refine nxD ?_
      refine st_go [1, 1] S rfl (by kernel_rfl) ?_; clear S a; intro a S
      replace S := S.sub [(0, _), (1, _), (2, _), (4, _), (26, _), (36, _), (38, _), (39, _), (44, _), (68, _), (86, _)] rfl
      refine nxC ?_
      refine st_fi (t := 86) S rfl ?_ ?_
      · clear S; intro h86 S
        refine st_condF S rfl ?_
        refine wp_skip ?_
        refine block_normal ?_
        refine nxE ?_
        refine st_go [1] S rfl (by kernel_rfl) ?_; clear S a; intro a S
        refine nxC ?_
        refine wp_ret ?_
        refine end_one S rfl (res_tmp rfl) ?_
        refine ⟨ret_bool ?_, M.below⟩; clear S M
        have hA : (o.nm.named && o.nm.inc == inc && decide (1 ≤ o.c ∧ o.c ≤ 1048576) && o.touchedMay) = true := by simp [*]
        unfold Ope.may; rw [if_pos hA]; clear hA
        first
          | (exfalso; omega)
          | (refine (?_ : _ = _).trans (if_neg ?_).symm
             rotate_left
             · rintro ⟨q1, q2⟩
               first
                 | omega
                 | (rw [q2] at h36; exact absurd h36 (by decide))
             rw [if_neg (by omega), if_neg (by omega), if_neg (by omega), if_neg (by omega)])
      clear S; intro h86 S
      refine st_condT S rfl ?_
      refine nxD ?_
      refine st_run [13, 1, 1, 1] S M rfl (by kernel_rfl) ?_; clear S a; intro a S
      refine st_fi (t := 91) S rfl ?_ ?_
      · clear S; intro h91 S
        refine st_go [0, 0, 0, 0, 0, 0, 0, 1, 1] S rfl (by kernel_rfl) ?_; clear S a; intro a S
        refine nxC ?_
        refine wp_ret ?_
        refine block_ret ?_
        refine then_ret ?_
        refine end_one S rfl (res_tmp rfl) ?_
        refine ⟨ret_bool ?_, M.below⟩; clear S M
        have hA : (o.nm.named && o.nm.inc == inc && decide (1 ≤ o.c ∧ o.c ≤ 1048576) && o.touchedMay) = true := by simp [*]
        unfold Ope.may; rw [if_pos hA]; clear hA
        first
          | (exfalso; omega)
          | (refine (?_ : _ = _).trans (if_neg ?_).symm
             rotate_left
             · rintro ⟨q1, q2⟩
               first
                 | omega
                 | (rw [q2] at h36; exact absurd h36 (by decide))
             rw [if_neg (by omega), if_neg (by omega), if_neg (by omega), if_pos (by omega)]
             rcases Bool.eq_false_or_eq_true (o.at_ == 0) with hd | hd
             · rw [hd]
               simp at hd
               unfold andV
               first
                 | (exfalso; omega)
                 | (rw [Bool.true_and]; done)
             · rw [hd]
               simp at hd
               first
                 | (exfalso; omega)
                 | rfl)
      clear S; intro h91 S
      refine st_run [7, 1, 7, 1] S M rfl (by kernel_rfl) ?_; clear S a; intro a S
      (first | refine st_y S rfl rfl rfl (y_subN S rfl rfl (by omega)) ?_ | refine st_y S rfl rfl rfl (y_int S rfl rfl rfl) ?_); clear S a; intro a S
      refine st_y S rfl rfl rfl (y_int S rfl rfl rfl) ?_; clear S a; intro a S
      refine st_go [1, 1, 1] S rfl (by kernel_rfl) ?_; clear S a; intro a S
      refine nxC ?_
      refine wp_ret ?_
      refine block_ret ?_
      refine then_ret ?_
      refine end_one S rfl (res_tmp rfl) ?_
      refine ⟨ret_bool ?_, M.below⟩; clear S M
      have hA : (o.nm.named && o.nm.inc == inc && decide (1 ≤ o.c ∧ o.c ≤ 1048576) && o.touchedMay) = true := by simp [*]
      unfold Ope.may; rw [if_pos hA]; clear hA
      first
        | (exfalso; omega)
        | (refine (?_ : _ = _).trans (if_neg ?_).symm
           rotate_left
           · rintro ⟨q1, q2⟩
             first
               | omega
               | (rw [q2] at h36; exact absurd h36 (by decide))
           rw [if_neg (by omega), if_neg (by omega), if_neg (by omega), if_pos (by omega)]
           rcases Bool.eq_false_or_eq_true (o.at_ == 0) with hd | hd
           · rw [hd]
             simp at hd
             unfold andV
             first
               | (exfalso; omega)
               | (rw [Bool.true_and]; done)
           · rw [hd]
             simp at hd
             first
               | (exfalso; omega)
               | rfl)
    clear S; intro h68 S
    refine st_condT S rfl ?_
    refine wp_seq ?_
    refine wp_quiet M (by kernel_rfl) (by kernel_rfl) ?_
    refine qt_y S rfl rfl rfl (fun w M => y_fieldAddr (k := 12) S (by kernel_rfl) rfl) ?_; clear S a; intro a S
    refine qt_y S rfl rfl rfl (fun w M => y_load S (by kernel_rfl) rfl (M.cell 0 rfl rfl)) ?_; clear S a; intro a S
    refine qt_y S rfl rfl rfl (fun w M => y_int S rfl rfl rfl) ?_; clear S a; intro a S
    refine qt_y S rfl rfl rfl (fun w M => y_move S rfl) ?_; clear S a; intro a S
    refine st_fi (t := 73) S rfl ?_ ?_
    · clear S; intro h73 S
      refine qt_skip 3 S rfl ?_; clear S a; intro a S
      refine qt_y S rfl rfl rfl (fun w M => y_pickF S rfl rfl) ?_; clear S a; intro a S
      refine qt_y S rfl rfl rfl (fun w M => y_move S rfl) ?_; clear S a; intro a S
      refine qt_skip 6 S rfl ?_; clear S a; intro a S
      refine qt_y S rfl rfl rfl (fun w M => y_pickF S rfl rfl) ?_; clear S a; intro a S
      refine qt_y S rfl rfl rfl (fun w M => y_assign S rfl) ?_; clear S a; intro a S
      refine wpQuiet_nil ?_; clear M; intro w10 M
      replace S := S.sub [(0, _), (1, _), (2, _), (26, _), (36, _), (38, _), (39, _), (44, _), (68, _), (4, _)] rfl
      refine then_normal ?_
      refine wp_ret ?_
      refine block_ret ?_
      refine then_ret ?_
      refine end_one S rfl (res_tmp rfl) ?_
      refine ⟨ret_bool ?_, M.below⟩; clear S M
      have hA : (o.nm.named && o.nm.inc == inc && decide (1 ≤ o.c ∧ o.c ≤ 1048576) && o.touchedMay) = true := by simp [*]
      unfold Ope.may; rw [if_pos hA]; clear hA
      first
        | (exfalso; omega)
        | (refine (?_ : _ = _).trans (if_neg ?_).symm
           rotate_left
           · rintro ⟨q1, q2⟩
             first
               | omega
               | (rw [q2] at h36; exact absurd h36 (by decide))
           rw [if_neg (by omega), if_neg (by omega), if_pos (by omega)]
           rcases Bool.eq_false_or_eq_true (decide (1 ≤ o.at_ ∧ o.at_ ≤ 4)) with hd | hd
           · rw [hd]
             simp only [decide_eq_true_eq] at hd
             first
               | (exfalso; omega)
               | (simp; done)
           · rw [hd]
             simp only [decide_eq_false_iff_not] at hd
             first
               | rfl
               | (exfalso; omega))
    clear S; intro h73 S
    refine qt_y S rfl rfl rfl (fun w M => y_fieldAddr (k := 12) S (by kernel_rfl) rfl) ?_; clear S a; intro a S
    refine qt_y S rfl rfl rfl (fun w M => y_load S (by kernel_rfl) rfl (M.cell 0 rfl rfl)) ?_; clear S a; intro a S
    refine qt_y S rfl rfl rfl (fun w M => y_int S rfl rfl rfl) ?_; clear S a; intro a S
    refine qt_y S rfl rfl rfl (fun w M => y_pickT S rfl rfl) ?_; clear S a; intro a S
    refine qt_y S rfl rfl rfl (fun w M => y_move S rfl) ?_; clear S a; intro a S
    refine st_fi (t := 78) S rfl ?_ ?_
    · clear S; intro h78 S
      refine qt_skip 6 S rfl ?_; clear S a; intro a S
      refine qt_y S rfl rfl rfl (fun w M => y_pickF S rfl rfl) ?_; clear S a; intro a S
      refine qt_y S rfl rfl rfl (fun w M => y_assign S rfl) ?_; clear S a; intro a S
      refine wpQuiet_nil ?_; clear M; intro w9 M
      replace S := S.sub [(0, _), (1, _), (2, _), (26, _), (36, _), (38, _), (39, _), (44, _), (68, _), (4, _)] rfl
      refine then_normal ?_
      refine wp_ret ?_
      refine block_ret ?_
      refine then_ret ?_
      refine end_one S rfl (res_tmp rfl) ?_
      refine ⟨ret_bool ?_, M.below⟩; clear S M
      have hA : (o.nm.named && o.nm.inc == inc && decide (1 ≤ o.c ∧ o.c ≤ 1048576) && o.touchedMay) = true := by simp [*]
      unfold Ope.may; rw [if_pos hA]; clear hA
      first
        | (exfalso; omega)
        | (refine (?_ : _ = _).trans (if_neg ?_).symm
           rotate_left
           · rintro ⟨q1, q2⟩
             first
               | omega
               | (rw [q2] at h36; exact absurd h36 (by decide))
           rw [if_neg (by omega), if_neg (by omega), if_pos (by omega)]
           rcases Bool.eq_false_or_eq_true (decide (1 ≤ o.at_ ∧ o.at_ ≤ 4)) with hd | hd
           · rw [hd]
             simp only [decide_eq_true_eq] at hd
             first
               | (exfalso; omega)
               | (simp; done)
           · rw [hd]
             simp only [decide_eq_false_iff_not] at hd
             first
               | rfl
               | (exfalso; omega))
    clear S; intro h78 S
    refine qt_y S rfl rfl rfl (fun w M => y_fieldAddr (k := 6) S (by kernel_rfl) rfl) ?_; clear S a; intro a S
    refine qt_y S rfl rfl rfl (fun w M => y_load S (by kernel_rfl) rfl (M.cell 0 rfl rfl)) ?_; clear S a; intro a S
    refine qt_y S rfl rfl rfl (fun w M => y_fieldAddr (k := 12) S (by kernel_rfl) rfl) ?_; clear S a; intro a S
    refine qt_y S rfl rfl rfl (fun w M => y_load S (by kernel_rfl) rfl (M.cell 0 rfl rfl)) ?_; clear S a; intro a S
    (first | refine qt_y S rfl rfl rfl (fun w M => y_shlN S rfl rfl (by omega) (by exact shl_bd (by omega))) ?_ | refine qt_y S rfl rfl rfl (fun w M => y_shl S rfl rfl (by omega)) ?_); clear S a; intro a S
    refine qt_y S rfl rfl rfl (fun w M => y_int S rfl rfl rfl) ?_; clear S a; intro a S
    refine qt_y S rfl rfl rfl (fun w M => y_pickT S rfl rfl) ?_; clear S a; intro a S
    refine qt_y S rfl rfl rfl (fun w M => y_assign S rfl) ?_; clear S a; intro a S
    refine wpQuiet_nil ?_; clear M; intro w8 M
    replace S := S.sub [(0, _), (1, _), (2, _), (26, _), (36, _), (38, _), (39, _), (44, _), (68, _), (4, _)] rfl
    refine then_normal ?_
    refine wp_ret ?_
    refine block_ret ?_
    refine then_ret ?_
    refine end_one S rfl (res_tmp rfl) ?_
    refine ⟨ret_bool ?_, M.below⟩; clear S M
    have hA : (o.nm.named && o.nm.inc == inc && decide (1 ≤ o.c ∧ o.c ≤ 1048576) && o.touchedMay) = true := by simp [*]
    unfold Ope.may; rw [if_pos hA]; clear hA
    first
      | (exfalso; omega)
      | (refine (?_ : _ = _).trans (if_neg ?_).symm
         rotate_left
         · rintro ⟨q1, q2⟩
           first
             | omega
             | (rw [q2] at h36; exact absurd h36 (by decide))
         rw [if_neg (by omega), if_neg (by omega), if_pos (by omega)]
         rcases Bool.eq_false_or_eq_true (decide (1 ≤ o.at_ ∧ o.at_ ≤ 4)) with hd | hd
         · rw [hd]
           simp only [decide_eq_true_eq] at hd
           first
             | (exfalso; omega)
             | (simp; done)
         · rw [hd]
           simp only [decide_eq_false_iff_not] at hd
           first
             | rfl
             | (exfalso; omega))
  clear S; intro h44 S
  refine st_condT S rfl ?_
  refine wp_seq ?_
  refine wp_regionK [] #[false, false, false, false, false, false, false, false, false, false, false, false, false, false, false, false, false, false, false, false, false, false, false] rfl M (by kernel_rfl) ?_; clear M; intro w6 M
  refine k_pure (listed' := #[true, false, false, false, false, false, false, false, false, false, false, false, false, false, false, false, false, false, false, false, false, false, false]) 0 S rfl rfl rfl rfl (by kernel_rfl) rfl (fun _ d _ _ _ h => by cases d <;> exact h) (fun w => y_fieldAddr (k := 12) S (by kernel_rfl) rfl) ?_; clear S a; intro a S
  refine k_read (listed' := #[true, true, false, false, false, false, false, false, false, false, false, false, false, false, false, false, false, false, false, false, false, false, false]) 1 S rfl rfl rfl rfl (by kernel_rfl) rfl (fun _ d _ _ _ h => by cases d <;> exact h) (fun w hW => have M := M.grow hW; y_load S (by kernel_rfl) rfl (M.cell 0 rfl rfl)) ?_; clear S a; intro a S
  refine k_pure (listed' := #[true, true, true, false, false, false, false, false, false, false, false, false, false, false, false, false, false, false, false, false, false, false, false]) 2 S rfl rfl rfl rfl (by kernel_rfl) rfl (fun _ d _ _ _ h => by cases d <;> exact h) (fun w => y_int S rfl rfl rfl) ?_; clear S a; intro a S
  refine k_pure (listed' := #[true, true, true, true, false, false, false, false, false, false, false, false, false, false, false, false, false, false, false, false, false, false, false]) 3 S rfl rfl rfl rfl (by kernel_rfl) rfl (fun _ d _ _ _ h => by cases d <;> exact h) (fun w => y_move S rfl) ?_; clear S a; intro a S
  refine st_fi (t := 49) S rfl ?_ ?_
  · clear S; intro h49 S
    refine k_no (listed' := #[true, true, true, true, true, false, false, false, false, false, false, false, false, false, false, false, false, false, false, false, false, false, false]) 4 S rfl rfl rfl rfl (by kernel_rfl) rfl (fun _ d _ _ _ h => by cases d <;> exact h) ?_; clear S a; intro a S
    refine k_no (listed' := #[true, true, true, true, true, true, false, false, false, false, false, false, false, false, false, false, false, false, false, false, false, false, false]) 5 S rfl rfl rfl rfl (by kernel_rfl) rfl (fun _ d _ _ _ h => by cases d <;> exact h) ?_; clear S a; intro a S
    refine k_no (listed' := #[true, true, true, true, true, true, true, false, false, false, false, false, false, false, false, false, false, false, false, false, false, false, false]) 6 S rfl rfl rfl rfl (by kernel_rfl) rfl (fun _ d _ _ _ h => by cases d <;> exact h) ?_; clear S a; intro a S
    refine k_pure (listed' := #[true, true, true, true, true, true, true, true, false, false, false, false, false, false, false, false, false, false, false, false, false, false, false]) 7 S rfl rfl rfl rfl (by kernel_rfl) rfl (fun _ d _ _ _ h => by cases d <;> exact h) (fun w => y_pickF S rfl rfl) ?_; clear S a; intro a S
    refine k_pure (listed' := #[true, true, true, true, true, true, true, true, true, false, false, false, false, false, false, false, false, false, false, false, false, false, false]) 8 S rfl rfl rfl rfl (by kernel_rfl) rfl (fun _ d _ _ _ h => by cases d <;> exact h) (fun w => y_move S rfl) ?_; clear S a; intro a S
    refine k_no (listed' := #[true, true, true, true, true, true, true, true, true, true, false, false, false, false, false, false, false, false, false, false, false, false, false]) 9 S rfl rfl rfl rfl (by kernel_rfl) rfl (fun _ d _ _ _ h => by cases d <;> exact h) ?_; clear S a; intro a S
    refine k_no (listed' := #[true, true, true, true, true, true, true, true, true, true, true, false, false, false, false, false, false, false, false, false, false, false, false]) 10 S rfl rfl rfl rfl (by kernel_rfl) rfl (fun _ d _ _ _ h => by cases d <;> exact h) ?_; clear S a; intro a S
    refine k_no (listed' := #[true, true, true, true, true, true, true, true, true, true, true, true, false, false, false, false, false, false, false, false, false, false, false]) 11 S rfl rfl rfl rfl (by kernel_rfl) rfl (fun _ d _ _ _ h => by cases d <;> exact h) ?_; clear S a; intro a S
    refine k_no (listed' := #[true, true, true, true, true, true, true, true, true, true, true, true, true, false, false, false, false, false, false, false, false, false, false]) 12 S rfl rfl rfl rfl (by kernel_rfl) rfl (fun _ d _ _ _ h => by cases d <;> exact h) ?_; clear S a; intro a S
    refine k_no (listed' := #[true, true, true, true, true, true, true, true, true, true, true, true, true, true, false, false, false, false, false, false, false, false, false]) 13 S rfl rfl rfl rfl (by kernel_rfl) rfl (fun _ d _ _ _ h => by cases d <;> exact h) ?_; clear S a; intro a S
    refine k_no (listed' := #[true, true, true, true, true, true, true, true, true, true, true, true, true, true, true, false, false, false, false, false, false, false, false]) 14 S rfl rfl rfl rfl (by kernel_rfl) rfl (fun _ d _ _ _ h => by cases d <;> exact h) ?_; clear S a; intro a S
    refine k_no (listed' := #[true, true, true, true, true, true, true, true, true, true, true, true, true, true, true, true, false, false, false, false, false, false, false]) 15 S rfl rfl rfl rfl (by kernel_rfl) rfl (fun _ d _ _ _ h => by cases d <;> exact h) ?_; clear S a; intro a S
    refine k_pure (listed' := #[true, true, true, true, true, true, true, true, true, true, true, true, true, true, true, true, true, false, false, false, false, false, false]) 16 S rfl rfl rfl rfl (by kernel_rfl) rfl (fun _ d _ _ _ h => by cases d <;> exact h) (fun w => y_pickF S rfl rfl) ?_; clear S a; intro a S
    refine k_pure (listed' := #[true, true, true, true, true, true, true, true, true, true, true, true, true, true, true, true, true, true, false, false, false, false, false]) 17 S rfl rfl rfl rfl (by kernel_rfl) rfl (fun _ d _ _ _ h => by cases d <;> exact h) (fun w => y_move S rfl) ?_; clear S a; intro a S
    refine k_no (listed' := #[true, true, true, true, true, true, true, true, true, true, true, true, true, true, true, true, true, true, true, false, false, false, false]) 18 S rfl rfl rfl rfl (by kernel_rfl) rfl (fun _ d _ _ _ h => by cases d <;> exact h) ?_; clear S a; intro a S
    refine k_no (listed' := #[true, true, true, true, true, true, true, true, true, true, true, true, true, true, true, true, true, true, true, true, false, false, false]) 19 S rfl rfl rfl rfl (by kernel_rfl) rfl (fun _ d _ _ _ h => by cases d <;> exact h) ?_; clear S a; intro a S
    refine k_no (listed' := #[true, true, true, true, true, true, true, true, true, true, true, true, true, true, true, true, true, true, true, true, true, false, false]) 20 S rfl rfl rfl rfl (by kernel_rfl) rfl (fun _ d _ _ _ h => by cases d <;> exact h) ?_; clear S a; intro a S
    refine k_pure (listed' := #[true, true, true, true, true, true, true, true, true, true, true, true, true, true, true, true, true, true, true, true, true, true, false]) 21 S rfl rfl rfl rfl (by kernel_rfl) rfl (fun _ d _ _ _ h => by cases d <;> exact h) (fun w => y_pickF S rfl rfl) ?_; clear S a; intro a S
    refine k_pure (listed' := #[true, true, true, true, true, true, true, true, true, true, true, true, true, true, true, true, true, true, true, true, true, true, true]) 22 S rfl rfl rfl rfl (by kernel_rfl) rfl (fun _ d _ _ _ h => by cases d <;> exact h) (fun w => y_assign S rfl) ?_; clear S a; intro a S
    refine k_end (by kernel_rfl) ?_
    replace S := S.sub [(0, _), (1, _), (2, _), (26, _), (36, _), (38, _), (39, _), (44, _), (4, _)] rfl
    refine then_normal ?_
    refine wp_ret ?_
    refine block_ret ?_
    refine then_ret ?_
    refine end_one S rfl (res_tmp rfl) ?_
    refine ⟨ret_bool ?_, M.below⟩; clear S M
    have hA : (o.nm.named && o.nm.inc == inc && decide (1 ≤ o.c ∧ o.c ≤ 1048576) && o.touchedMay) = true := by simp [*]
    unfold Ope.may; rw [if_pos hA]; clear hA
    first
      | (exfalso; omega)
      | (refine (?_ : _ = _).trans (if_neg ?_).symm
         rotate_left
         · rintro ⟨q1, q2⟩
           first
             | omega
             | (rw [q2] at h36; exact absurd h36 (by decide))
         rw [if_neg (by omega), if_pos (by omega)]
         rcases Bool.eq_false_or_eq_true (decide (1 ≤ o.at_ ∧ o.at_ ≤ 4)) with hd | hd
         · rw [hd]
           simp only [decide_eq_true_eq] at hd
           rcases Bool.eq_false_or_eq_true (hasBit o.sh o.at_.toNat) with hb | hb
           · rw [hb]
             first
               | (simp; done)
               | (exfalso; unfold hasBit andV at hb; simp at hb; simp at h63; exact hb h63)
               | (exfalso; omega)
           · rw [hb]
             first
               | (simp; done)
               | (exfalso; unfold hasBit andV at hb; simp at hb; simp at h63; exact h63 hb)
               | (exfalso; omega)
         · rw [hd]
           simp only [decide_eq_false_iff_not] at hd
           first
             | rfl
             | (exfalso; omega))
  clear S; intro h49 S
  refine k_pure (listed' := #[true, true, true, true, true, false, false, false, false, false, false, false, false, false, false, false, false, false, false, false, false, false, false]) 4 S rfl rfl rfl rfl (by kernel_rfl) rfl (fun _ d _ _ _ h => by cases d <;> exact h) (fun w => y_fieldAddr (k := 12) S (by kernel_rfl) rfl) ?_; clear S a; intro a S
  refine k_read (listed' := #[true, true, true, true, true, true, false, false, false, false, false, false, false, false, false, false, false, false, false, false, false, false, false]) 5 S rfl rfl rfl rfl (by kernel_rfl) rfl (fun _ d _ _ _ h => by cases d <;> exact h) (fun w hW => have M := M.grow hW; y_load S (by kernel_rfl) rfl (M.cell 0 rfl rfl)) ?_; clear S a; intro a S
  refine k_pure (listed' := #[true, true, true, true, true, true, true, false, false, false, false, false, false, false, false, false, false, false, false, false, false, false, false]) 6 S rfl rfl rfl rfl (by kernel_rfl) rfl (fun _ d _ _ _ h => by cases d <;> exact h) (fun w => y_int S rfl rfl rfl) ?_; clear S a; intro a S
  refine k_pure (listed' := #[true, true, true, true, true, true, true, true, false, false, false, false, false, false, false, false, false, false, false, false, false, false, false]) 7 S rfl rfl rfl rfl (by kernel_rfl) rfl (fun _ d _ _ _ h => by cases d <;> exact h) (fun w => y_pickT S rfl rfl) ?_; clear S a; intro a S
  refine k_pure (listed' := #[true, true, true, true, true, true, true, true, true, false, false, false, false, false, false, false, false, false, false, false, false, false, false]) 8 S rfl rfl rfl rfl (by kernel_rfl) rfl (fun _ d _ _ _ h => by cases d <;> exact h) (fun w => y_move S rfl) ?_; clear S a; intro a S
  refine st_fi (t := 54) S rfl ?_ ?_
  · clear S; intro h54 S
    refine k_no (listed' := #[true, true, true, true, true, true, true, true, true, true, false, false, false, false, false, false, false, false, false, false, false, false, false]) 9 S rfl rfl rfl rfl (by kernel_rfl) rfl (fun _ d _ _ _ h => by cases d <;> exact h) ?_; clear S a; intro a S
    refine k_no (listed' := #[true, true, true, true, true, true, true, true, true, true, true, false, false, false, false, false, false, false, false, false, false, false, false]) 10 S rfl rfl rfl rfl (by kernel_rfl) rfl (fun _ d _ _ _ h => by cases d <;> exact h) ?_; clear S a; intro a S
    refine k_no (listed' := #[true, true, true, true, true, true, true, true, true, true, true, true, false, false, false, false, false, false, false, false, false, false, false]) 11 S rfl rfl rfl rfl (by kernel_rfl) rfl (fun _ d _ _ _ h => by cases d <;> exact h) ?_; clear S a; intro a S
    refine k_no (listed' := #[true, true, true, true, true, true, true, true, true, true, true, true, true, false, false, false, false, false, false, false, false, false, false]) 12 S rfl rfl rfl rfl (by kernel_rfl) rfl (fun _ d _ _ _ h => by cases d <;> exact h) ?_; clear S a; intro a S
    refine k_no (listed' := #[true, true, true, true, true, true, true, true, true, true, true, true, true, true, false, false, false, false, false, false, false, false, false]) 13 S rfl rfl rfl rfl (by kernel_rfl) rfl (fun _ d _ _ _ h => by cases d <;> exact h) ?_; clear S a; intro a S
    refine k_no (listed' := #[true, true, true, true, true, true, true, true, true, true, true, true, true, true, true, false, false, false, false, false, false, false, false]) 14 S rfl rfl rfl rfl (by kernel_rfl) rfl (fun _ d _ _ _ h => by cases d <;> exact h) ?_; clear S a; intro a S
    refine k_no (listed' := #[true, true, true, true, true, true, true, true, true, true, true, true, true, true, true, true, false, false, false, false, false, false, false]) 15 S rfl rfl rfl rfl (by kernel_rfl) rfl (fun _ d _ _ _ h => by cases d <;> exact h) ?_; clear S a; intro a S
    refine k_pure (listed' := #[true, true, true, true, true, true, true, true, true, true, true, true, true, true, true, true, true, false, false, false, false, false, false]) 16 S rfl rfl rfl rfl (by kernel_rfl) rfl (fun _ d _ _ _ h => by cases d <;> exact h) (fun w => y_pickF S rfl rfl) ?_; clear S a; intro a S
    refine k_pure (listed' := #[true, true, true, true, true, true, true, true, true, true, true, true, true, true, true, true, true, true, false, false, false, false, false]) 17 S rfl rfl rfl rfl (by kernel_rfl) rfl (fun _ d _ _ _ h => by cases d <;> exact h) (fun w => y_move S rfl) ?_; clear S a; intro a S
    refine k_no (listed' := #[true, true, true, true, true, true, true, true, true, true, true, true, true, true, true, true, true, true, true, false, false, false, false]) 18 S rfl rfl rfl rfl (by kernel_rfl) rfl (fun _ d _ _ _ h => by cases d <;> exact h) ?_; clear S a; intro a S
    refine k_no (listed' := #[true, true, true, true, true, true, true, true, true, true, true, true, true, true, true, true, true, true, true, true, false, false, false]) 19 S rfl rfl rfl rfl (by kernel_rfl) rfl (fun _ d _ _ _ h => by cases d <;> exact h) ?_; clear S a; intro a S
    refine k_no (listed' := #[true, true, true, true, true, true, true, true, true, true, true, true, true, true, true, true, true, true, true, true, true, false, false]) 20 S rfl rfl rfl rfl (by kernel_rfl) rfl (fun _ d _ _ _ h => by cases d <;> exact h) ?_; clear S a; intro a S
    refine k_pure (listed' := #[true, true, true, true, true, true, true, true, true, true, true, true, true, true, true, true, true, true, true, true, true, true, false]) 21 S rfl rfl rfl rfl (by kernel_rfl) rfl (fun _ d _ _ _ h => by cases d <;> exact h) (fun w => y_pickF S rfl rfl) ?_; clear S a; intro a S
    refine k_pure (listed' := #[true, true, true, true, true, true, true, true, true, true, true, true, true, true, true, true, true, true, true, true, true, true, true]) 22 S rfl rfl rfl rfl (by kernel_rfl) rfl (fun _ d _ _ _ h => by cases d <;> exact h) (fun w => y_assign S rfl) ?_; clear S a; intro a S
    refine k_end (by kernel_rfl) ?_
    replace S := S.sub [(0, _), (1, _), (2, _), (26, _), (36, _), (38, _), (39, _), (44, _), (4, _)] rfl
    refine then_normal ?_
    refine wp_ret ?_
    refine block_ret ?_
    refine then_ret ?_
    refine end_one S rfl (res_tmp rfl) ?_
    refine ⟨ret_bool ?_, M.below⟩; clear S M
    have hA : (o.nm.named && o.nm.inc == inc && decide (1 ≤ o.c ∧ o.c ≤ 1048576) && o.touchedMay) = true := by simp [*]
    unfold Ope.may; rw [if_pos hA]; clear hA
    first
      | (exfalso; omega)
      | (refine (?_ : _ = _).trans (if_neg ?_).symm
         rotate_left
         · rintro ⟨q1, q2⟩
           first
             | omega
             | (rw [q2] at h36; exact absurd h36 (by decide))
         rw [if_neg (by omega), if_pos (by omega)]
         rcases Bool.eq_false_or_eq_true (decide (1 ≤ o.at_ ∧ o.at_ ≤ 4)) with hd | hd
         · rw [hd]
           simp only [decide_eq_true_eq] at hd
           rcases Bool.eq_false_or_eq_true (hasBit o.sh o.at_.toNat) with hb | hb
           · rw [hb]
             first
               | (simp; done)
               | (exfalso; unfold hasBit andV at hb; simp at hb; simp at h63; exact hb h63)
               | (exfalso; omega)
           · rw [hb]
             first
               | (simp; done)
               | (exfalso; unfold hasBit andV at hb; simp at hb; simp at h63; exact h63 hb)
               | (exfalso; omega)
         · rw [hd]
           simp only [decide_eq_false_iff_not] at hd
           first
             | rfl
             | (exfalso; omega))
  clear S; intro h54 S
  refine k_pure (listed' := #[true, true, true, true, true, true, true, true, true, true, false, false, false, false, false, false, false, false, false, false, false, false, false]) 9 S rfl rfl rfl rfl (by kernel_rfl) rfl (fun _ d _ _ _ h => by cases d <;> exact h) (fun w => y_fieldAddr (k := 6) S (by kernel_rfl) rfl) ?_; clear S a; intro a S
  refine k_read (listed' := #[true, true, true, true, true, true, true, true, true, true, true, false, false, false, false, false, false, false, false, false, false, false, false]) 10 S rfl rfl rfl rfl (by kernel_rfl) rfl (fun _ d _ _ _ h => by cases d <;> exact h) (fun w hW => have M := M.grow hW; y_load S (by kernel_rfl) rfl (M.cell 0 rfl rfl)) ?_; clear S a; intro a S
  refine k_pure (listed' := #[true, true, true, true, true, true, true, true, true, true, true, true, false, false, false, false, false, false, false, false, false, false, false]) 11 S rfl rfl rfl rfl (by kernel_rfl) rfl (fun _ d _ _ _ h => by cases d <;> exact h) (fun w => y_fieldAddr (k := 12) S (by kernel_rfl) rfl) ?_; clear S a; intro a S
  refine k_read (listed' := #[true, true, true, true, true, true, true, true, true, true, true, true, true, false, false, false, false, false, false, false, false, false, false]) 12 S rfl rfl rfl rfl (by kernel_rfl) rfl (fun _ d _ _ _ h => by cases d <;> exact h) (fun w hW => have M := M.grow hW; y_load S (by kernel_rfl) rfl (M.cell 0 rfl rfl)) ?_; clear S a; intro a S
  (first | refine k_pure (listed' := #[true, true, true, true, true, true, true, true, true, true, true, true, true, true, false, false, false, false, false, false, false, false, false]) 13 S rfl rfl rfl rfl (by kernel_rfl) rfl (fun _ d _ _ _ h => by cases d <;> exact h) (fun w => y_shlN S rfl rfl (by omega) (by exact shl_bd (by omega))) ?_ | refine k_pure (listed' := #[true, true, true, true, true, true, true, true, true, true, true, true, true, true, false, false, false, false, false, false, false, false, false]) 13 S rfl rfl rfl rfl (by kernel_rfl) rfl (fun _ d _ _ _ h => by cases d <;> exact h) (fun w => y_shl S rfl rfl (by omega)) ?_); clear S a; intro a S
  refine k_pure (listed' := #[true, true, true, true, true, true, true, true, true, true, true, true, true, true, true, false, false, false, false, false, false, false, false]) 14 S rfl rfl rfl rfl (by kernel_rfl) rfl (fun _ d _ _ _ h => by cases d <;> exact h) (fun w => y_int S rfl rfl rfl) ?_; clear S a; intro a S
  refine k_pure (listed' := #[true, true, true, true, true, true, true, true, true, true, true, true, true, true, true, true, false, false, false, false, false, false, false]) 15 S rfl rfl rfl rfl (by kernel_rfl) rfl (fun _ d _ _ _ h => by cases d <;> exact h) (fun w => y_int S rfl rfl rfl) ?_; clear S a; intro a S
  refine k_pure (listed' := #[true, true, true, true, true, true, true, true, true, true, true, true, true, true, true, true, true, false, false, false, false, false, false]) 16 S rfl rfl rfl rfl (by kernel_rfl) rfl (fun _ d _ _ _ h => by cases d <;> exact h) (fun w => y_pickT S rfl rfl) ?_; clear S a; intro a S
  refine k_pure (listed' := #[true, true, true, true, true, true, true, true, true, true, true, true, true, true, true, true, true, true, false, false, false, false, false]) 17 S rfl rfl rfl rfl (by kernel_rfl) rfl (fun _ d _ _ _ h => by cases d <;> exact h) (fun w => y_move S rfl) ?_; clear S a; intro a S
  refine st_fi (t := 63) S rfl ?_ ?_
  · clear S; intro h63 S
    refine k_no (listed' := #[true, true, true, true, true, true, true, true, true, true, true, true, true, true, true, true, true, true, true, false, false, false, false]) 18 S rfl rfl rfl rfl (by kernel_rfl) rfl (fun _ d _ _ _ h => by cases d <;> exact h) ?_; clear S a; intro a S
    refine k_no (listed' := #[true, true, true, true, true, true, true, true, true, true, true, true, true, true, true, true, true, true, true, true, false, false, false]) 19 S rfl rfl rfl rfl (by kernel_rfl) rfl (fun _ d _ _ _ h => by cases d <;> exact h) ?_; clear S a; intro a S
    refine k_no (listed' := #[true, true, true, true, true, true, true, true, true, true, true, true, true, true, true, true, true, true, true, true, true, false, false]) 20 S rfl rfl rfl rfl (by kernel_rfl) rfl (fun _ d _ _ _ h => by cases d <;> exact h) ?_; clear S a; intro a S
    refine k_pure (listed' := #[true, true, true, true, true, true, true, true, true, true, true, true, true, true, true, true, true, true, true, true, true, true, false]) 21 S rfl rfl rfl rfl (by kernel_rfl) rfl (fun _ d _ _ _ h => by cases d <;> exact h) (fun w => y_pickF S rfl rfl) ?_; clear S a; intro a S
    refine k_pure (listed' := #[true, true, true, true, true, true, true, true, true, true, true, true, true, true, true, true, true, true, true, true, true, true, true]) 22 S rfl rfl rfl rfl (by kernel_rfl) rfl (fun _ d _ _ _ h => by cases d <;> exact h) (fun w => y_assign S rfl) ?_; clear S a; intro a S
    refine k_end (by kernel_rfl) ?_
    replace S := S.sub [(0, _), (1, _), (2, _), (26, _), (36, _), (38, _), (39, _), (44, _), (4, _)] rfl
    refine then_normal ?_
    refine wp_ret ?_
    refine block_ret ?_
    refine then_ret ?_
    refine end_one S rfl (res_tmp rfl) ?_
    refine ⟨ret_bool ?_, M.below⟩; clear S M
    have hA : (o.nm.named && o.nm.inc == inc && decide (1 ≤ o.c ∧ o.c ≤ 1048576) && o.touchedMay) = true := by simp [*]
    unfold Ope.may; rw [if_pos hA]; clear hA
    first
      | (exfalso; omega)
      | (refine (?_ : _ = _).trans (if_neg ?_).symm
         rotate_left
         · rintro ⟨q1, q2⟩
           first
             | omega
             | (rw [q2] at h36; exact absurd h36 (by decide))
         rw [if_neg (by omega), if_pos (by omega)]
         rcases Bool.eq_false_or_eq_true (decide (1 ≤ o.at_ ∧ o.at_ ≤ 4)) with hd | hd
         · rw [hd]
           simp only [decide_eq_true_eq] at hd
           rcases Bool.eq_false_or_eq_true (hasBit o.sh o.at_.toNat) with hb | hb
           · rw [hb]
             first
               | (simp; done)
               | (exfalso; unfold hasBit andV at hb; simp at hb; simp at h63; exact hb h63)
               | (exfalso; omega)
           · rw [hb]
             first
               | (simp; done)
               | (exfalso; unfold hasBit andV at hb; simp at hb; simp at h63; exact h63 hb)
               | (exfalso; omega)
         · rw [hd]
           simp only [decide_eq_false_iff_not] at hd
           first
             | rfl
             | (exfalso; omega))
  clear S; intro h63 S
  refine k_read (listed' := #[true, true, true, true, true, true, true, true, true, true, true, true, true, true, true, true, true, true, true, false, false, false, false]) 18 S rfl rfl rfl rfl (by kernel_rfl) rfl (fun _ d _ _ _ h => by cases d <;> exact h) (fun w hW => have M := M.grow hW; y_loadAgg (cs := [_, _, _, _, _, _, _, _, _, _, _, _, _, _, _, _, _, _, _, _, _, _, _, _, _, _, _, _, _, _, _, _, _, _, _, _, _]) S (by kernel_rfl) rfl rfl (M.cellsAt (k := 37) 0 rfl rfl)) ?_; clear S a; intro a S
  refine k_pure (listed' := #[true, true, true, true, true, true, true, true, true, true, true, true, true, true, true, true, true, true, true, true, false, false, false]) 19 S rfl rfl rfl rfl (by kernel_rfl) rfl (fun _ d _ _ _ h => by cases d <;> exact h) (fun w => y_move S rfl) ?_; clear S a; intro a S
  refine k_one (listed' := #[true, true, true, true, true, true, true, true, true, true, true, true, true, true, true, true, true, true, true, true, true, false, false]) 20 rfl (by kernel_rfl) rfl ?_
  refine st_call (xs := [(Operand.tmp 64), (Operand.tmp 65)]) S (enters_of Try.func50 (by decide) rfl) rfl rfl rfl (execMay_any o inc _ (by omega)) ?_
  rintro _ w7 ⟨rfl, hK⟩; refine ⟨_, rfl, ?_⟩; clear S a; intro a S; replace M := M.grow hK
  refine wpList_nil ?_; refine then_normal ?_; refine ⟨fun _ => hK, ?_⟩
  refine k_pure (listed' := #[true, true, true, true, true, true, true, true, true, true, true, true, true, true, true, true, true, true, true, true, true, true, false]) 21 S rfl rfl rfl rfl (by kernel_rfl) rfl (fun _ d _ _ _ h => by cases d <;> exact h) (fun w => y_pickT S rfl rfl) ?_; clear S a; intro a S
  refine k_pure (listed' := #[true, true, true, true, true, true, true, true, true, true, true, true, true, true, true, true, true, true, true, true, true, true, true]) 22 S rfl rfl rfl rfl (by kernel_rfl) rfl (fun _ d _ _ _ h => by cases d <;> exact h) (fun w => y_assign S rfl) ?_; clear S a; intro a S
  refine k_end (by kernel_rfl) ?_
  replace S := S.sub [(0, _), (1, _), (2, _), (26, _), (36, _), (38, _), (39, _), (44, _), (4, _)] rfl
  refine then_normal ?_
  refine wp_ret ?_
  refine block_ret ?_
  refine then_ret ?_
  refine end_one S rfl (res_tmp rfl) ?_
  refine ⟨ret_bool ?_, M.below⟩; clear S M
  have hA : (o.nm.named && o.nm.inc == inc && decide (1 ≤ o.c ∧ o.c ≤ 1048576) && o.touchedMay) = true := by simp [*]
  unfold Ope.may; rw [if_pos hA]; clear hA
  first
    | (exfalso; omega)
    | (refine (?_ : _ = _).trans (if_neg ?_).symm
       rotate_left
       · rintro ⟨q1, q2⟩
         first
           | omega
           | (rw [q2] at h36; exact absurd h36 (by decide))
       rw [if_neg (by omega), if_pos (by omega)]
       rcases Bool.eq_false_or_eq_true (decide (1 ≤ o.at_ ∧ o.at_ ≤ 4)) with hd | hd
       · rw [hd]
         simp only [decide_eq_true_eq] at hd
         rcases Bool.eq_false_or_eq_true (hasBit o.sh o.at_.toNat) with hb | hb
         · rw [hb]
           first
             | (simp; done)
             | (exfalso; unfold hasBit andV at hb; simp at hb; simp at h63; exact hb h63)
             | (exfalso; omega)
         · rw [hb]
           first
             | (simp; done)
             | (exfalso; unfold hasBit andV at hb; simp at hb; simp at h63; exact h63 hb)
             | (exfalso; omega)
       · rw [hd]
         simp only [decide_eq_false_iff_not] at hd
         first
           | rfl
           | (exfalso; omega))
end Go.Proofs.Ytniijiipkfhjgaa

namespace Go.Proofs.Ytniijiipkfhjgaa
open Go.RowKit Go.Sort
variable {ds : List Deferred}
variable {P : Program} {ops : Array Oper} {Q : Exit → Act → World → Prop} {md : Region.Mode} {rest : List Oper} {n d : Nat} {a : Act} {L : List (Nat × Value)} {w w0 : World} {v : Value} {o : Oper} {H : List Ent} {r : Option Nat}
/-- all functions, in the round r or in none -/
abbrev Fnc (r : Option Nat) : Fence := { fn := fun _ => True, depth := none, alive := false, round := r }
def noDefer (l : List Oper) : Bool := l.all fun o => match o.op with | .defer _ => false | _ => true
/-! ### codes in a round -/
open Classical in
/-! ### what is ranged over -/
/-- a call of yield, whatever round -/
abbrev Yld (P : Program) (l : Nat) (args : List Value) (w : World) (R : Ending → World → Prop) : Prop := YieldAt (Fnc none) 0 P l args.toArray w R
/-- the function gf, with what it has caught, gives these, one behind the other; C: what it reads -/
def Gen {α : Type} (P : Program) (gf : FuncId) (lb : List Value) (encs : α → List Value) (xs : List α) (C : World → Prop) : Prop :=
  ∀ (l : Nat) (I : List α → World → Prop) (w : World), (∀ pre w, I pre w → C w) → (∀ pre w w', I pre w → Below w.heap.size w w' → I pre w') →
    (∀ pre x t w1, xs = pre ++ x :: t → I pre w1 → Yld P l (encs x) w1 fun e w2 => e = .returned (.bool true) ∧ I (pre ++ [x]) w2) → I [] w →
    CallsIn (Fnc none) 0 P gf ((.func (.yield l) #[] #[] :: lb).toArray) w fun e w' => (∃ v, e = .returned v) ∧ I xs w'
/-! ### a range over a function, of which each round goes on -/
def putsL : List Nat → List Value → List (Nat × Value) → List (Nat × Value)
  | p :: ps, v :: vs, L => putsL ps vs ((p, v) :: L)
  | _, _, L => L
/-- what the loop keeps of itself -/
abbrev kE (D : Nat) (R : Loop) : Ent := .own D (D + 2) fun W => W.heap[D]? = some (.deferred (some [])) ∧ W.heap[D + 1]? = some (.loop R)
abbrev markE (D : Nat) : Ent := .own D (D + 2) fun W => W.heap[D]? = some (.deferred (some []))
abbrev markD (D : Nat) : Deferred := { target := .collected D, args := #[] }
theorem Mem.keep {D : Nat} {R R' : Loop} {W : World} (M : Mem w0 W (kE D R :: H)) : W.heap[D + 1]? = some (.loop R) ∧ Mem w0 (W.putObj (D + 1) (.loop R')) (kE D R' :: H) := by
  have h := M.own 0 rfl
  have hlt := (Array.getElem?_eq_some_iff.1 h.2).1
  refine ⟨h.2, ?_⟩
  have hoth : ∀ k, k ≠ D + 1 → (W.putObj (D + 1) (.loop R')).heap[k]? = W.heap[k]? := fun k hk => World.putObj_heap_other hk
  refine M.change (e' := kE D R') 0 rfl rfl rfl (fun W' hs => ⟨?_, ?_⟩) (by simp [World.putObj]) rfl rfl rfl (fun k hk => hoth k (fun e => hk (by subst e; simp [Ent.lo, Ent.hi])))
  · rw [hs D (Nat.le_refl _) (by omega), hoth D (by omega)]; exact h.1
  · rw [hs (D + 1) (by omega) (by omega)]; exact World.putObj_heap_same hlt
def roundQ (w0 : World) (B : Ent) (J : List Ent → Prop) : Exit → Act → World → Prop
  | .normal, _, W => ∃ Hs, Mem w0 W (B :: Hs) ∧ J Hs
  | _, _, _ => False
/-! ### functions that hold such a range -/
/-- such a function's end: no panic -/
def postM (P : Program) (fn : Func) (R : Ending → World → Prop) : Exit → Act → World → Prop
  | .normal, a, w => bodyPostM (Fnc none) 0 P fn R .normal a w
  | .ret, a, w => bodyPostM (Fnc none) 0 P fn R .ret a w
  | _, _, _ => False
end Go.Proofs.Ytniijiipkfhjgaa

namespace Go.Proofs.Ytniijiipkfhjgaa
open Go.RowKit Go.Sort
variable {ds : List Deferred}
variable {P : Program} {ops : Array Oper} {Q : Exit → Act → World → Prop} {rest : List Oper} {n d : Nat} {a : Act} {L : List (Nat × Value)} {w w0 : World} {v : Value} {o : Oper} {H : List Ent}
section
variable {κ : Type} {enc : κ → Value}
abbrev Mes (κ : Type) := List (κ × MapEntry)
/-- entries as a map keeps them -/
structure Good (enc : κ → Value) (l : Mes κ) (clock : Nat) : Prop where
  keys : ∀ p ∈ l, p.2.key = enc p.1
  born : (l.map (·.2.born)).Pairwise (· < ·)
  old : ∀ p ∈ l, p.2.born < clock
  nodup : (l.map (·.1)).Nodup
theorem nodup_at {l : Mes κ} (h : (l.map (·.1)).Nodup) {i j : Nat} {p q : κ × MapEntry} (hp : l[i]? = some p) (hq : l[j]? = some q) (e : p.1 = q.1) : i = j := by
  have h1 : (l.map (·.1))[i]? = some p.1 := by simp [hp]
  have h2 : (l.map (·.1))[j]? = some q.1 := by simp [hq]
  have hi : i < (l.map (·.1)).length := (List.getElem?_eq_some_iff.1 h1).1
  exact (List.getElem?_inj hi h).1 (by rw [h1, h2, e])
theorem good_nil (c : Nat) : Good enc ([] : Mes κ) c := ⟨fun p h => (by cases h), .nil, fun p h => (by cases h), .nil⟩
/-- the block b is a map of these entries -/
abbrev mapX (b : Nat) (l : Mes κ) (c : Nat) : Ent := .own b (b + 1) fun W => W.heap[b]? = some (.map (l.map (·.2)).toArray c)
theorem Mem.mapAt {b c pos : Nat} {l : Mes κ} (M : Mem w0 w H) (h : H[pos]? = some (mapX b l c)) : w.heap[b]? = some (.map (l.map (·.2)).toArray c) := M.own pos h
theorem Mem.mapSet {b c pos c' : Nat} {l l' : Mes κ} (M : Mem w0 w H) (h : H[pos]? = some (mapX b l c)) : Mem w0 (w.putObj b (.map (l'.map (·.2)).toArray c')) (H.set pos (mapX b l' c')) := by
  have hlt := (Array.getElem?_eq_some_iff.1 (M.mapAt h)).1
  have hoth : ∀ k, k ≠ b → (w.putObj b (.map (l'.map (·.2)).toArray c')).heap[k]? = w.heap[k]? := fun k hk => World.putObj_heap_other hk
  refine M.change (e' := mapX b l' c') pos h rfl rfl (fun W' hs => ?_) (by simp [World.putObj]) rfl rfl rfl (fun k hk => hoth k (fun e => hk (by subst e; simp [Ent.lo, Ent.hi])))
  show W'.heap[b]? = _
  rw [hs b (Nat.le_refl _) (Nat.lt_succ_self _)]; exact World.putObj_heap_same hlt
variable [DecidableEq κ]
/-- where a key stands -/
def posK (k : κ) : Mes κ → Nat → Option (Nat × Value)
  | [], _ => none
  | p :: l, i => if p.1 = k then some (i, p.2.val) else posK k l (i + 1)
/-- keys of a kind: how they are found -/
structure KeyT (P : Program) (kt : TypeId) (enc : κ → Value) : Prop where
  find : ∀ (k : κ) (l : Mes κ) (w : World), (∀ p ∈ l, p.2.key = enc p.1) → (Instr.findKey kt (enc k) (l.map (·.2))).run P w = .ok (posK k l 0) w
  check : ∀ (b : Bool) (k : κ) (w : World), (Instr.checkKey b 10000 kt (enc k)).run P w = .ok () w
  bits : ∀ k : κ, Instr.sameBits 10000 (enc k) (enc k) = true
def getM (l : Mes κ) (k : κ) : Option Value := (l.find? (·.1 = k)).map (·.2.val)
def hasM (l : Mes κ) (k : κ) : Prop := k ∈ l.map (·.1)
def setM (l : Mes κ) (k : κ) (v : Value) : Mes κ := l.map fun p => if p.1 = k then (p.1, { p.2 with val := v }) else p
/-- the entries and the clock behind a store -/
def putM (enc : κ → Value) (l : Mes κ) (clock : Nat) (k : κ) (v : Value) : Mes κ × Nat :=
  if k ∈ l.map (·.1) then (setM l k v, clock) else (l ++ [(k, { key := enc k, val := v, born := clock })], clock + 1)
theorem posK_none : ∀ {l : Mes κ} {k : κ} {i : Nat}, k ∉ l.map (·.1) → posK k l i = none
  | [], k, i, h => rfl
  | p :: l, k, i, h => by
    rw [List.map_cons, List.mem_cons, not_or] at h
    rw [posK, if_neg (fun e => h.1 e.symm)]
    exact posK_none h.2
theorem posK_some : ∀ {l : Mes κ} {k : κ} {i : Nat}, k ∈ l.map (·.1) → ∃ (j : Nat) (p : κ × MapEntry), l[j]? = some p ∧ p.1 = k ∧ posK k l i = some (i + j, p.2.val) ∧ getM l k = some p.2.val
  | p :: l, k, i, h => by
    by_cases hp : p.1 = k
    · exact ⟨0, p, rfl, hp, by rw [posK, if_pos hp]; rfl, by simp [getM, hp]⟩
    · have h' : k ∈ l.map (·.1) := by
        rcases List.mem_cons.1 h with h | h
        · exact absurd h.symm hp
        · exact h
      obtain ⟨j, q, h1, h2, h3, h4⟩ := posK_some (i := i + 1) h'
      refine ⟨j + 1, q, h1, h2, by rw [posK, if_neg hp, h3]; congr 2; omega, ?_⟩
      unfold getM at h4 ⊢
      rw [List.find?_cons_of_neg (by simpa using hp)]; exact h4
theorem getM_none {l : Mes κ} {k : κ} (h : k ∉ l.map (·.1)) : getM l k = none := by
  unfold getM
  rw [Option.map_eq_none_iff, List.find?_eq_none]
  intro p hp
  simp only [decide_eq_true_eq]
  intro e; exact h (by rw [← e]; exact List.mem_map_of_mem hp)
theorem setM_modify {l : Mes κ} {k : κ} {v : Value} (h : (l.map (·.1)).Nodup) {j : Nat} {p : κ × MapEntry} (hj : l[j]? = some p) (hk : p.1 = k) : ((l.map (·.2)).toArray.modify j fun e => { e with val := v }) = ((setM l k v).map (·.2)).toArray := by
  apply Array.ext'
  rw [Array.toList_modify]
  refine List.ext_getElem? fun i => ?_
  rw [List.getElem?_modify]
  simp only [setM, List.map_map, List.getElem?_map]
  cases hi : l[i]? with
  | none => simp
  | some q =>
    simp only [Option.map_some, Function.comp]
    by_cases hij : j = i
    · subst hij
      rw [hj] at hi; obtain rfl := Option.some.inj hi
      simp [hk]
    · have hne : q.1 ≠ k := fun e => hij (nodup_at h hj hi (by rw [hk, e]))
      simp [hij, hne]
theorem Good.put {l : Mes κ} {c : Nat} (h : Good enc l c) (k : κ) (v : Value) : Good enc (putM enc l c k v).1 (putM enc l c k v).2 := by
  unfold putM
  split
  · have e1 : (setM l k v).map (·.1) = l.map (·.1) := by
      unfold setM; rw [List.map_map]; congr 1; funext p; simp only [Function.comp]; split <;> rfl
    have e2 : (setM l k v).map (·.2.born) = l.map (·.2.born) := by
      unfold setM; rw [List.map_map]; congr 1; funext p; simp only [Function.comp]; split <;> rfl
    refine ⟨fun p hp => ?_, by rw [e2]; exact h.born, fun p hp => ?_, by rw [e1]; exact h.nodup⟩
    · obtain ⟨q, hq, rfl⟩ := List.mem_map.1 hp
      simp only
      split
      · exact h.keys q hq
      · exact h.keys q hq
    · obtain ⟨q, hq, rfl⟩ := List.mem_map.1 hp
      simp only
      split
      · exact h.old q hq
      · exact h.old q hq
  · rename_i hk
    refine ⟨fun p hp => ?_, ?_, fun p hp => ?_, ?_⟩
    · rcases List.mem_append.1 hp with hp | hp
      · exact h.keys p hp
      · obtain rfl := List.mem_singleton.1 hp; rfl
    · rw [List.map_append, List.pairwise_append]
      refine ⟨h.born, by simp, fun x hx y hy => ?_⟩
      obtain ⟨q, hq, rfl⟩ := List.mem_map.1 hx
      simp at hy; subst hy
      exact h.old q hq
    · rcases List.mem_append.1 hp with hp | hp
      · exact Nat.lt_succ_of_lt (h.old p hp)
      · obtain rfl := List.mem_singleton.1 hp; exact Nat.lt_succ_self _
    · rw [List.map_append, List.nodup_append]
      refine ⟨h.nodup, by simp, fun x hx y hy e => ?_⟩
      simp at hy; subst hy; subst e; exact hk hx
theorem run_lookupM {b t kt e : Nat} {l : Mes κ} {c : Nat} {z : Value} {k : κ} {cm : Bool} (K : KeyT P kt enc) (G : Good enc l c) (ht : P.underlying t = some (.map kt e)) (hz : (zeroValue e).run P w = .ok z w) (hb : w.heap[b]? = some (.map (l.map (·.2)).toArray c)) :
    (Instr.lookup t (.map (some b)) (enc k) cm).run P w = .ok (if cm = true then .tuple #[(getM l k).getD z, .bool (decide (k ∈ l.map (·.1)))] else (getM l k).getD z) w := by
  have hf := K.find k l w G.keys
  simp only [Instr.lookup, Sem.run_bind, run_underlying ht, Result.andThen_ok, getObj, Sem.run, hb, Result.andThen, Sem.run_pure, List.toList_toArray, K.check]
  rw [hf]
  by_cases hk : k ∈ l.map (·.1)
  · obtain ⟨j, p, h1, h2, h3, h4⟩ := posK_some (i := 0) hk
    simp only [h3, h4, Option.getD_some, decide_eq_true hk]
    cases cm <;> rfl
  · simp only [posK_none hk, getM_none hk, Option.getD_none, decide_eq_false hk, Sem.run_bind, hz, Result.andThen]
    cases cm <;> rfl
theorem run_updateM {b t kt e : Nat} {l : Mes κ} {c : Nat} {k : κ} (K : KeyT P kt enc) (G : Good enc l c) (ht : P.underlying t = some (.map kt e)) (hb : w.heap[b]? = some (.map (l.map (·.2)).toArray c)) :
    (Instr.mapUpdate t (.map (some b)) (enc k) v).run P w = .ok () (w.putObj b (.map ((putM enc l c k v).1.map (·.2)).toArray (putM enc l c k v).2)) := by
  have hf := K.find k l w G.keys
  simp only [Instr.mapUpdate, Sem.run_bind, run_underlying ht, Result.andThen_ok, getObj, Sem.run, hb, Result.andThen, Sem.run_pure, List.toList_toArray, K.check]
  rw [hf]
  by_cases hk : k ∈ l.map (·.1)
  · obtain ⟨j, p, h1, h2, h3, h4⟩ := posK_some (i := 0) hk
    have hkey : (((l.map (·.2)).toArray[0 + j]?).map (·.key)).getD (enc k) = enc k := by
      simp [h1, G.keys p (List.mem_of_getElem? h1), h2]
    simp only [h3]
    rw [hkey]
    simp only [Instr.keyThatStays, K.bits, if_true, Sem.run_bind, Sem.run_pure, Result.andThen]
    have e : ((l.map (·.2)).toArray.modify (0 + j) fun e => { key := enc k, val := v, born := e.born }) = ((setM l k v).map (·.2)).toArray := by
      rw [← setM_modify (v := v) G.nodup h1 h2, Nat.zero_add]
      apply Array.ext'
      rw [Array.toList_modify, Array.toList_modify]
      refine List.ext_getElem? fun i => ?_
      rw [List.getElem?_modify, List.getElem?_modify]
      by_cases hij : j = i
      · subst hij
        simp [h1, G.keys p (List.mem_of_getElem? h1), h2]
      · simp [hij]
    rw [e]
    simp [setObj, Sem.run, hb, World.putObj, putM, hk]
  · simp only [posK_none hk]
    simp [setObj, Sem.run, hb, World.putObj, putM, hk]
end
end Go.Proofs.Ytniijiipkfhjgaa

namespace Go.Proofs.Ytniijiipkfhjgaa
open Go.RowKit Go.Sort
variable {ds : List Deferred}
variable {P : Program} {ops : Array Oper} {Q : Exit → Act → World → Prop} {rest : List Oper} {n d : Nat} {a : Act} {L : List (Nat × Value)} {w w0 : World} {v : Value} {o : Oper} {H : List Ent}
/-! ### keys -/
theorem key_int {kt : TypeId} (hk : P.underlying kt = some (.int .i64)) : KeyT P kt (fun z : Int => Value.int .i64 z) := by
  have hnow : ∀ (k : Int) (l : Mes Int) (i : Nat), (∀ p ∈ l, p.2.key = .int .i64 p.1) → Instr.findNow (.int .i64) (.int .i64 k) (l.map (·.2)) i = some (posK k l i) := by
    intro k l
    induction l with
    | nil => intro i _; rfl
    | cons p l ih =>
      intro i h
      rw [List.map_cons, Instr.findNow, h p (List.mem_cons_self ..)]
      by_cases e : p.1 = k
      · simp [Instr.sameNow, e, posK]
      · have e' : ¬ k = p.1 := fun h => e h.symm
        simp only [Instr.sameNow, if_true, posK, if_neg e]
        rw [show (k == p.1) = false by simpa using e']
        exact ih (i + 1) fun q hq => h q (List.mem_cons_of_mem _ hq)
  refine ⟨fun k l w h => ?_, fun b k w => ?_, fun k => by simp [Instr.sameBits]⟩
  · simp only [Instr.findKey, Sem.run_bind, run_underlying hk, Result.andThen, hnow k l 0 h, Sem.run_pure]
  · rw [show (10000 : Nat) = 9999 + 1 from rfl, Instr.checkKey]
    simp only [Sem.run_bind, run_underlying hk, Result.andThen, Sem.run_pure]
section
variable {κ : Type} {enc : κ → Value}
theorem st_makeMap {t : TypeId} (S : SeesD ds n a L) (M : Mem w0 w H) {d : Nat} {ty : TypeId} {p : String} {e : Array Edge} {g : Option (Nat × Bool)} (hg : gd ops L ⟨some d, .makeMap t none, ty, p, e, g⟩ = some true) (hn : Nat.blt d n = true)
    (k : ∀ a w' b, SeesD ds n a ((d, .map (some b)) :: L) → Mem w0 w' (mapX b ([] : Mes κ) 0 :: H) → Below w.heap.size w w' → wpList P ops Q rest a w') : wpList P ops Q (⟨some d, .makeMap t none, ty, p, e, g⟩ :: rest) a w := by
  refine st_w (v := .map (some w.heap.size)) (w' := w.alloc (.map #[] 0)) S hg rfl hn ?_ fun a S => k a _ w.heap.size S ?_ (ext_alloc (ext_refl _) _)
  · unfold execOp
    simp [Instr.makeMap, newObj, Sem.run, go_sem]
  · refine M.push (ext_alloc (ext_refl _) _) _ (fun W' hs => ?_) (Nat.le_refl _) (by simp [Ent.hi])
    show W'.heap[w.heap.size]? = _
    rw [hs w.heap.size (Nat.le_refl _) (Nat.lt_succ_self _)]; exact World.alloc_heap_new w _
/-- a range over a map begins -/
abbrev itX (r b since : Nat) (seen : List Nat) (c0 : Nat) : Ent := .own r (r + 1) fun W => W.heap[r]? = some (.mapIter (some b) since seen.toArray c0)
abbrev bornsM (vs : Mes κ) : List Nat := vs.map (·.2.born)
end
section
variable {κ : Type} [DecidableEq κ] {enc : κ → Value}
theorem y_lookupM {t kt e b c pos : Nat} {l : Mes κ} {z : Value} {k : κ} {cm : Bool} {x y : Operand} (S : SeesD ds n a L) (M : Mem w0 w H) (K : KeyT P kt enc) (G : Good enc l c) (ht : P.underlying t = some (.map kt e)) (hz : ∀ w, (zeroValue e).run P w = .ok z w) (hp : H[pos]? = some (mapX b l c)) (hx : val L x = some (.map (some b))) (hy : val L y = some (enc k)) {d : Option Tmp} {ty : TypeId} {p : String} {ed : Array Edge} {g : Option (Nat × Bool)} :
    Yields P a ⟨d, .lookup t x y cm, ty, p, ed, g⟩ w (if cm = true then .tuple #[(getM l k).getD z, .bool (decide (k ∈ l.map (·.1)))] else (getM l k).getD z) := by
  unfold Yields execOp
  simp only [S.eval hx, S.eval hy, Sem.run_bind, run_lookupM K G ht (hz w) (M.mapAt hp), Result.andThen]
  rfl
theorem st_updateM {t kt e b c pos : Nat} {l : Mes κ} {k : κ} {x y z : Operand} (S : SeesD ds n a L) (M : Mem w0 w H) (K : KeyT P kt enc) (G : Good enc l c) (ht : P.underlying t = some (.map kt e)) (hp : H[pos]? = some (mapX b l c)) (hx : val L x = some (.map (some b))) (hy : val L y = some (enc k)) (hz : val L z = some v) {ty : TypeId} {p : String} {ed : Array Edge} {g : Option (Nat × Bool)}
    (hg : gd ops L ⟨none, .mapUpdate t x y z, ty, p, ed, g⟩ = some true)
    (kk : ∀ w', Mem w0 w' (H.set pos (mapX b (putM enc l c k v).1 (putM enc l c k v).2)) → wpList P ops Q rest a w') : wpList P ops Q (⟨none, .mapUpdate t x y z, ty, p, ed, g⟩ :: rest) a w := by
  refine st_s S hg rfl ?_ (kk _ (M.mapSet hp))
  unfold execOp
  simp only [S.eval hx, S.eval hy, S.eval hz, Sem.run_bind, run_updateM K G ht (M.mapAt hp), Result.andThen]
  rfl
end
end Go.Proofs.Ytniijiipkfhjgaa

