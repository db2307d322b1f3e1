/-
  Package wire: fit, May.
-/
import Derived.Test.YtidpeojkkfmgeaaWb
namespace Go.Proofs.Ytidpeojkkfmgeaa
open Go.RowKit Go.Sort

def V8.zero (v : V8) : Bool := v.eqb ⟨0, 0, 0, 0, 0, 0, 0, 0⟩
/-- the fields that all kinds that have them have alike -/
def fitHead (h : Nat → Bool) (m : Msg) : Bool := !(h 0 && !m.name.named) && !(h 1 && !(withinB m.n 1048576))
/-- the fields of a kind -/
def fitKind (m : Msg) (x : List Wr) : Bool :=
  if m.kind = 2 then decide (0 ≤ m.op ∧ m.op ≤ 2 ∧ 0 ≤ m.block ∧ m.block < 32) && (m.op == 1 || m.val.zero)
  else if m.kind = 4 then Rc.may ⟨2, m.name, false, m.give, m.take, 0, 0, 0, 0⟩ x
  else if m.kind = 3 then m.e == 0 || ((m.e == 120 || m.e == 112 || m.e == 121 || m.e == 50) && m.val.zero)
  else if m.kind = 10 then m.e == 0 || m.e == 50 || m.e == 121
  else true
def fitB (h : Nat → Bool) (m : Msg) (x : List Wr) : Bool := fitHead h m && fitKind m x
set_option maxHeartbeats 1000000 in
theorem fit_any (m : Msg) (va : Option Addr) (vn vc : Nat) (x : List Wr) (d : Bool) (h : Nat → Bool) (w : World) (hv : Ws 0 w.heap.size w (.slice va vn vc) x) :
    Calls Try.prog 55 #[.agg (m.cells (.slice va vn vc)), .agg (kdL d h).toArray] w fun e w' => e = .returned (.bool (fitB h m x)) ∧ Below w.heap.size w w' := by
  have M := Mem.start w
  have hh1 : ∀ b : Bool, fitHead h m = b → fitB h m x = (b && fitKind m x) := fun b e => by unfold fitB; rw [e]
  refine calls_enter Try.func55 rfl 103 rfl rfl ?_; intro a S
  refine nxD ?_
  refine st_box S M rfl rfl rfl #[_, _, _, _, _, _, _, _, _, _, _, _, _, _, _, _, _, _, _, _, _, _, _, _] rfl ?_; clear S M a; intro a w1 bA S M hB
  refine st_box S M rfl rfl rfl #[_, _, _, _, _, _, _, _, _, _, _] rfl ?_; clear S M a; intro a w2 bK S M hB
  refine st_go [1] S rfl (by kernel_rfl) ?_; clear S a; intro a S
  refine nxC ?_
  refine wp_cut (fun a w' => Sees 103 a [(2, .pointer (some ⟨bA, 0, none⟩))] ∧ Mem w w' [.blk bK (kdL d h).toArray 102, .blk bA (m.cells (.slice va vn vc)) 36] ∧ fitHead h m = true) ?_ ?_
  · skip
    refine wp_block ?_
    refine nxD ?_
    refine st_go [2] S rfl (by kernel_rfl) ?_; clear S a; intro a S
    refine st_y S rfl rfl rfl (y_indexA (m := 10) (sz := 1) S (by kernel_rfl) rfl rfl (by first | omega | (simp; done) | (simp; omega))) ?_; clear S a; intro a S
    refine st_run [1, 1] S M rfl (by kernel_rfl) ?_; clear S a; intro a S
    refine st_tils (t := 10) S rfl ?_ ?_
    · clear S; intro h10 S
      refine st_go [0, 0, 0, 0, 1, 1] S rfl (by kernel_rfl) ?_; clear S a; intro a S
      refine nxC ?_
      refine st_condF S rfl ?_
      refine nxD ?_
      refine st_go [2] S rfl (by kernel_rfl) ?_; clear S a; intro a S
      refine st_y S rfl rfl rfl (y_indexA (m := 10) (sz := 1) S (by kernel_rfl) rfl rfl (by first | omega | (simp; done) | (simp; omega))) ?_; clear S a; intro a S
      refine st_run [1, 1] S M rfl (by kernel_rfl) ?_; clear S a; intro a S
      refine st_tils (t := 20) S rfl ?_ ?_
      · clear S; intro h20 S
        refine st_go [0, 0, 0, 0, 0, 0, 0, 0, 1, 1] S rfl (by kernel_rfl) ?_; clear S a; intro a S
        replace S := S.sub [(0, _), (1, _), (2, _), (3, _), (4, _), (6, _), (16, _)] rfl
        refine nxC ?_
        refine st_condF S rfl ?_
        refine wp_skip ?_
        refine block_normal ?_
        refine then_normal ?_
        have hF : fitHead h m = true := by
          unfold fitHead
          have e1 : (h 0 && !m.name.named) = false := by first | (rw [h10]; rfl) | (rw [show m.name.named = true by simpa using h6]; simp; done)
          have e2 : (h 1 && !withinB m.n 1048576) = false := by
            first
              | (rw [h20]; rfl)
              | (have : withinB m.n 1048576 = true := by unfold withinB; rw [decide_eq_true (by omega)]
                 rw [this]; simp)
          rw [e1, e2]; rfl
        exact ⟨S.sub _ rfl, M, hF⟩
      clear S; intro h20 S
      refine st_run [9, 2, 1, 1] S M rfl (by kernel_rfl) ?_; clear S a; intro a S
      refine st_if (t := 24) S rfl ?_ ?_
      · clear S; intro h24 S
        refine st_go [0, 0, 0, 1, 1, 1] S rfl (by kernel_rfl) ?_; clear S a; intro a S
        replace S := S.sub [(0, _), (1, _), (2, _), (3, _), (4, _), (6, _), (16, _)] rfl
        refine nxC ?_
        refine st_condT S rfl ?_
        refine wp_seq ?_
        have hF : fitHead h m = false := by
          unfold fitHead
          have : withinB m.n 1048576 = false := by unfold withinB; rw [decide_eq_false (by omega)]
          rw [this, h20]; simp
        refine wp_region_lit ?_
        refine st_go [1] S rfl (by kernel_rfl) ?_; clear S a; intro a S
        refine nxC ?_
        refine wp_ret ?_
        refine block_ret ?_
        refine then_ret ?_
        refine end_one S rfl (res_tmp rfl) ?_
        refine ⟨ret_bool ?_, M.below⟩; rw [hh1 _ hF]; rfl
      clear S; intro h24 S
      refine st_run [9, 2, 1, 1, 1, 1] S M rfl (by kernel_rfl) ?_; clear S a; intro a S
      replace S := S.sub [(0, _), (1, _), (2, _), (3, _), (4, _), (6, _), (16, _)] rfl
      refine nxC ?_
      refine st_if (t := 16) S rfl ?_ ?_
      · clear S; intro h16 S
        refine st_condT S rfl ?_
        refine wp_seq ?_
        have hF : fitHead h m = false := by
          unfold fitHead
          have : withinB m.n 1048576 = false := by unfold withinB; rw [decide_eq_false (by omega)]
          rw [this, h20]; simp
        refine wp_region_lit ?_
        refine st_go [1] S rfl (by kernel_rfl) ?_; clear S a; intro a S
        refine nxC ?_
        refine wp_ret ?_
        refine block_ret ?_
        refine then_ret ?_
        refine end_one S rfl (res_tmp rfl) ?_
        refine ⟨ret_bool ?_, M.below⟩; rw [hh1 _ hF]; rfl
      clear S; intro h16 S
      refine st_condF S rfl ?_
      refine wp_skip ?_
      refine block_normal ?_
      refine then_normal ?_
      have hF : fitHead h m = true := by
        unfold fitHead
        have e1 : (h 0 && !m.name.named) = false := by first | (rw [h10]; rfl) | (rw [show m.name.named = true by simpa using h6]; simp; done)
        have e2 : (h 1 && !withinB m.n 1048576) = false := by
          first
            | (rw [h20]; rfl)
            | (have : withinB m.n 1048576 = true := by unfold withinB; rw [decide_eq_true (by omega)]
               rw [this]; simp)
        rw [e1, e2]; rfl
      exact ⟨S.sub _ rfl, M, hF⟩
    clear S; intro h10 S
    refine st_go [6] S rfl (by kernel_rfl) ?_; clear S a; intro a S
    refine st_y S rfl rfl rfl (y_loadAgg (cs := [_, _, _]) S (by kernel_rfl) rfl rfl (M.cellsAt (k := 3) 1 rfl rfl)) ?_; clear S a; intro a S
    refine st_call (xs := [(Operand.tmp 12)]) S (enters_of Try.func19 (by decide) rfl) rfl rfl rfl (named_any m.name _) ?_
    rintro _ w3 ⟨rfl, hK⟩; refine ⟨_, rfl, ?_⟩; clear S a; intro a S; replace M := M.grow hK
    refine st_go [1, 1, 1] S rfl (by kernel_rfl) ?_; clear S a; intro a S
    refine nxC ?_
    refine st_split (t := 6) S rfl ?_ ?_
    · clear S; intro h6 S
      refine st_condT S rfl ?_
      refine wp_seq ?_
      have hF : fitHead h m = false := by unfold fitHead; rw [h10, show m.name.named = false by simpa using h6]; rfl
      refine wp_region_lit ?_
      refine st_go [1] S rfl (by kernel_rfl) ?_; clear S a; intro a S
      refine nxC ?_
      refine wp_ret ?_
      refine block_ret ?_
      refine then_ret ?_
      refine end_one S rfl (res_tmp rfl) ?_
      refine ⟨ret_bool ?_, M.below⟩; rw [hh1 _ hF]; rfl
    clear S; intro h6 S
    refine st_condF S rfl ?_
    refine nxD ?_
    refine st_go [2] S rfl (by kernel_rfl) ?_; clear S a; intro a S
    refine st_y S rfl rfl rfl (y_indexA (m := 10) (sz := 1) S (by kernel_rfl) rfl rfl (by first | omega | (simp; done) | (simp; omega))) ?_; clear S a; intro a S
    refine st_run [1, 1] S M rfl (by kernel_rfl) ?_; clear S a; intro a S
    refine st_tils (t := 20) S rfl ?_ ?_
    · clear S; intro h20 S
      refine st_go [0, 0, 0, 0, 0, 0, 0, 0, 1, 1] S rfl (by kernel_rfl) ?_; clear S a; intro a S
      replace S := S.sub [(0, _), (1, _), (2, _), (3, _), (4, _), (6, _), (16, _)] rfl
      refine nxC ?_
      refine st_condF S rfl ?_
      refine wp_skip ?_
      refine block_normal ?_
      refine then_normal ?_
      have hF : fitHead h m = true := by
        unfold fitHead
        have e1 : (h 0 && !m.name.named) = false := by first | (rw [h10]; rfl) | (rw [show m.name.named = true by simpa using h6]; simp; done)
        have e2 : (h 1 && !withinB m.n 1048576) = false := by
          first
            | (rw [h20]; rfl)
            | (have : withinB m.n 1048576 = true := by unfold withinB; rw [decide_eq_true (by omega)]
               rw [this]; simp)
        rw [e1, e2]; rfl
      exact ⟨S.sub _ rfl, M, hF⟩
    clear S; intro h20 S
    refine st_run [9, 2, 1, 1] S M rfl (by kernel_rfl) ?_; clear S a; intro a S
    refine st_if (t := 24) S rfl ?_ ?_
    · clear S; intro h24 S
      refine st_go [0, 0, 0, 1, 1, 1] S rfl (by kernel_rfl) ?_; clear S a; intro a S
      replace S := S.sub [(0, _), (1, _), (2, _), (3, _), (4, _), (6, _), (16, _)] rfl
      refine nxC ?_
      refine st_condT S rfl ?_
      refine wp_seq ?_
      have hF : fitHead h m = false := by
        unfold fitHead
        have : withinB m.n 1048576 = false := by unfold withinB; rw [decide_eq_false (by omega)]
        rw [this, h20]; simp
      refine wp_region_lit ?_
      refine st_go [1] S rfl (by kernel_rfl) ?_; clear S a; intro a S
      refine nxC ?_
      refine wp_ret ?_
      refine block_ret ?_
      refine then_ret ?_
      refine end_one S rfl (res_tmp rfl) ?_
      refine ⟨ret_bool ?_, M.below⟩; rw [hh1 _ hF]; rfl
    clear S; intro h24 S
    refine st_run [9, 2, 1, 1, 1, 1] S M rfl (by kernel_rfl) ?_; clear S a; intro a S
    replace S := S.sub [(0, _), (1, _), (2, _), (3, _), (4, _), (6, _), (16, _)] rfl
    refine nxC ?_
    refine st_if (t := 16) S rfl ?_ ?_
    · clear S; intro h16 S
      refine st_condT S rfl ?_
      refine wp_seq ?_
      have hF : fitHead h m = false := by
        unfold fitHead
        have : withinB m.n 1048576 = false := by unfold withinB; rw [decide_eq_false (by omega)]
        rw [this, h20]; simp
      refine wp_region_lit ?_
      refine st_go [1] S rfl (by kernel_rfl) ?_; clear S a; intro a S
      refine nxC ?_
      refine wp_ret ?_
      refine block_ret ?_
      refine then_ret ?_
      refine end_one S rfl (res_tmp rfl) ?_
      refine ⟨ret_bool ?_, M.below⟩; rw [hh1 _ hF]; rfl
    clear S; intro h16 S
    refine st_condF S rfl ?_
    refine wp_skip ?_
    refine block_normal ?_
    refine then_normal ?_
    have hF : fitHead h m = true := by
      unfold fitHead
      have e1 : (h 0 && !m.name.named) = false := by first | (rw [h10]; rfl) | (rw [show m.name.named = true by simpa using h6]; simp; done)
      have e2 : (h 1 && !withinB m.n 1048576) = false := by
        first
          | (rw [h20]; rfl)
          | (have : withinB m.n 1048576 = true := by unfold withinB; rw [decide_eq_true (by omega)]
             rw [this]; simp)
      rw [e1, e2]; rfl
    exact ⟨S.sub _ rfl, M, hF⟩
  clear S a M; intro a wc
  rintro ⟨S, M, hF⟩
  refine nxD ?_
  refine st_go [12] S rfl (by kernel_rfl) ?_; clear S a; intro a S
  refine st_y S rfl rfl rfl (y_loadAgg (cs := [_, _, _, _, _, _, _, _]) S (by kernel_rfl) rfl rfl (M.cellsAt (k := 8) 1 rfl rfl)) ?_; clear S a; intro a S
  refine st_y S rfl rfl rfl (y_buildA (ps := []) (sz := 1) (z := [.int .u8 0, .int .u8 0, .int .u8 0, .int .u8 0, .int .u8 0, .int .u8 0, .int .u8 0, .int .u8 0]) (cs := [_, _, _, _, _, _, _, _]) S (by kernel_rfl) rfl rfl) ?_; clear S a; intro a S
  refine st_y S rfl rfl rfl (y_eqlG (by kernel_rfl) S rfl rfl (fun w => equalV8 9998 m.val ⟨0, 0, 0, 0, 0, 0, 0, 0⟩ w)) ?_; clear S a; intro a S
  refine st_go [1] S rfl (by kernel_rfl) ?_; clear S a; intro a S
  refine nxC ?_
  refine wp_seq ?_
  refine nxD ?_
  refine st_run [1, 2] S M rfl (by kernel_rfl) ?_; clear S a; intro a S
  refine nxC ?_
  refine wp_block ?_
  refine nxD ?_
  refine st_go [1, 1] S rfl (by kernel_rfl) ?_; clear S a; intro a S
  refine nxC ?_
  refine st_if (t := 36) S rfl ?_ ?_
  · clear S; intro h36 S
    refine st_condT S rfl ?_
    refine nxD ?_
    refine st_run [10, 2, 1, 1] S M rfl (by kernel_rfl) ?_; clear S a; intro a S
    refine st_fi (t := 41) S rfl ?_ ?_
    · clear S; intro h41 S
      refine st_go [0, 0, 0, 1, 1, 0, 0, 0, 1, 1, 0, 0, 0, 1, 1, 0, 0, 0, 0, 0, 0, 1, 1] S rfl (by kernel_rfl) ?_; clear S a; intro a S
      replace S := S.sub [(2, _), (5, _), (35, _), (36, _), (4, _)] rfl
      refine nxC ?_
      refine wp_ret ?_
      refine block_ret ?_
      refine then_ret ?_
      refine end_one S rfl (res_tmp rfl) ?_
      refine ⟨ret_bool ?_, M.below⟩; rw [hh1 _ hF, Bool.true_and]; clear S M hF hh1
      unfold fitKind
      first
        | (rw [if_pos (by assumption)]
           first
             | (rw [decide_eq_false (p := 0 ≤ m.op ∧ m.op ≤ 2 ∧ 0 ≤ m.block ∧ m.block < 32) (by omega)]; rfl)
             | (rw [decide_eq_true (p := 0 ≤ m.op ∧ m.op ≤ 2 ∧ 0 ≤ m.block ∧ m.block < 32) (by omega)]; simp [V8.zero, *]; done))
        | (rw [if_neg (by omega), if_pos (by assumption)]; done)
        | (rw [if_neg (by omega), if_neg (by omega), if_pos (by assumption)]; simp [V8.zero, *]; done)
        | (rw [if_neg (by omega), if_neg (by omega), if_neg (by omega), if_pos (by assumption)]; simp [*]; done)
        | (rw [if_neg (by omega), if_neg (by omega), if_neg (by omega), if_neg (by omega)]; done)
    clear S; intro h41 S
    refine st_run [10, 2, 1, 1, 1] S M rfl (by kernel_rfl) ?_; clear S a; intro a S
    refine st_fi (t := 46) S rfl ?_ ?_
    · clear S; intro h46 S
      refine st_go [0, 0, 0, 1, 1, 0, 0, 0, 1, 1, 0, 0, 0, 0, 0, 0, 1, 1] S rfl (by kernel_rfl) ?_; clear S a; intro a S
      replace S := S.sub [(2, _), (5, _), (35, _), (36, _), (4, _)] rfl
      refine nxC ?_
      refine wp_ret ?_
      refine block_ret ?_
      refine then_ret ?_
      refine end_one S rfl (res_tmp rfl) ?_
      refine ⟨ret_bool ?_, M.below⟩; rw [hh1 _ hF, Bool.true_and]; clear S M hF hh1
      unfold fitKind
      first
        | (rw [if_pos (by assumption)]
           first
             | (rw [decide_eq_false (p := 0 ≤ m.op ∧ m.op ≤ 2 ∧ 0 ≤ m.block ∧ m.block < 32) (by omega)]; rfl)
             | (rw [decide_eq_true (p := 0 ≤ m.op ∧ m.op ≤ 2 ∧ 0 ≤ m.block ∧ m.block < 32) (by omega)]; simp [V8.zero, *]; done))
        | (rw [if_neg (by omega), if_pos (by assumption)]; done)
        | (rw [if_neg (by omega), if_neg (by omega), if_pos (by assumption)]; simp [V8.zero, *]; done)
        | (rw [if_neg (by omega), if_neg (by omega), if_neg (by omega), if_pos (by assumption)]; simp [*]; done)
        | (rw [if_neg (by omega), if_neg (by omega), if_neg (by omega), if_neg (by omega)]; done)
    clear S; intro h46 S
    refine st_run [11, 2, 1, 1, 1] S M rfl (by kernel_rfl) ?_; clear S a; intro a S
    refine st_fi (t := 51) S rfl ?_ ?_
    · clear S; intro h51 S
      refine st_go [0, 0, 0, 1, 1, 0, 0, 0, 0, 0, 0, 1, 1] S rfl (by kernel_rfl) ?_; clear S a; intro a S
      replace S := S.sub [(2, _), (5, _), (35, _), (36, _), (4, _)] rfl
      refine nxC ?_
      refine wp_ret ?_
      refine block_ret ?_
      refine then_ret ?_
      refine end_one S rfl (res_tmp rfl) ?_
      refine ⟨ret_bool ?_, M.below⟩; rw [hh1 _ hF, Bool.true_and]; clear S M hF hh1
      unfold fitKind
      first
        | (rw [if_pos (by assumption)]
           first
             | (rw [decide_eq_false (p := 0 ≤ m.op ∧ m.op ≤ 2 ∧ 0 ≤ m.block ∧ m.block < 32) (by omega)]; rfl)
             | (rw [decide_eq_true (p := 0 ≤ m.op ∧ m.op ≤ 2 ∧ 0 ≤ m.block ∧ m.block < 32) (by omega)]; simp [V8.zero, *]; done))
        | (rw [if_neg (by omega), if_pos (by assumption)]; done)
        | (rw [if_neg (by omega), if_neg (by omega), if_pos (by assumption)]; simp [V8.zero, *]; done)
        | (rw [if_neg (by omega), if_neg (by omega), if_neg (by omega), if_pos (by assumption)]; simp [*]; done)
        | (rw [if_neg (by omega), if_neg (by omega), if_neg (by omega), if_neg (by omega)]; done)
    clear S; intro h51 S
    refine st_run [11, 2, 1, 1, 1] S M rfl (by kernel_rfl) ?_; clear S a; intro a S
    refine st_fi (t := 56) S rfl ?_ ?_
    · clear S; intro h56 S
      refine st_go [0, 0, 0, 0, 0, 0, 1, 1] S rfl (by kernel_rfl) ?_; clear S a; intro a S
      replace S := S.sub [(2, _), (5, _), (35, _), (36, _), (4, _)] rfl
      refine nxC ?_
      refine wp_ret ?_
      refine block_ret ?_
      refine then_ret ?_
      refine end_one S rfl (res_tmp rfl) ?_
      refine ⟨ret_bool ?_, M.below⟩; rw [hh1 _ hF, Bool.true_and]; clear S M hF hh1
      unfold fitKind
      first
        | (rw [if_pos (by assumption)]
           first
             | (rw [decide_eq_false (p := 0 ≤ m.op ∧ m.op ≤ 2 ∧ 0 ≤ m.block ∧ m.block < 32) (by omega)]; rfl)
             | (rw [decide_eq_true (p := 0 ≤ m.op ∧ m.op ≤ 2 ∧ 0 ≤ m.block ∧ m.block < 32) (by omega)]; simp [V8.zero, *]; done))
        | (rw [if_neg (by omega), if_pos (by assumption)]; done)
        | (rw [if_neg (by omega), if_neg (by omega), if_pos (by assumption)]; simp [V8.zero, *]; done)
        | (rw [if_neg (by omega), if_neg (by omega), if_neg (by omega), if_pos (by assumption)]; simp [*]; done)
        | (rw [if_neg (by omega), if_neg (by omega), if_neg (by omega), if_neg (by omega)]; done)
    clear S; intro h56 S
    refine st_run [10, 2, 1, 1] S M rfl (by kernel_rfl) ?_; clear S a; intro a S
    refine st_if (t := 60) S rfl ?_ ?_
    · clear S; intro h60 S
      refine st_go [0, 1, 1, 1] S rfl (by kernel_rfl) ?_; clear S a; intro a S
      replace S := S.sub [(2, _), (5, _), (35, _), (36, _), (4, _)] rfl
      refine nxC ?_
      refine wp_ret ?_
      refine block_ret ?_
      refine then_ret ?_
      refine end_one S rfl (res_tmp rfl) ?_
      refine ⟨ret_bool ?_, M.below⟩; rw [hh1 _ hF, Bool.true_and]; clear S M hF hh1
      unfold fitKind
      first
        | (rw [if_pos (by assumption)]
           first
             | (rw [decide_eq_false (p := 0 ≤ m.op ∧ m.op ≤ 2 ∧ 0 ≤ m.block ∧ m.block < 32) (by omega)]; rfl)
             | (rw [decide_eq_true (p := 0 ≤ m.op ∧ m.op ≤ 2 ∧ 0 ≤ m.block ∧ m.block < 32) (by omega)]; simp [V8.zero, *]; done))
        | (rw [if_neg (by omega), if_pos (by assumption)]; done)
        | (rw [if_neg (by omega), if_neg (by omega), if_pos (by assumption)]; simp [V8.zero, *]; done)
        | (rw [if_neg (by omega), if_neg (by omega), if_neg (by omega), if_pos (by assumption)]; simp [*]; done)
        | (rw [if_neg (by omega), if_neg (by omega), if_neg (by omega), if_neg (by omega)]; done)
    clear S; intro h60 S
    refine st_go [1, 1, 1, 1] S rfl (by kernel_rfl) ?_; clear S a; intro a S
    replace S := S.sub [(2, _), (5, _), (35, _), (36, _), (4, _)] rfl
    refine nxC ?_
    refine wp_ret ?_
    refine block_ret ?_
    refine then_ret ?_
    refine end_one S rfl (res_tmp rfl) ?_
    refine ⟨ret_bool ?_, M.below⟩; rw [hh1 _ hF, Bool.true_and]; clear S M hF hh1
    unfold fitKind
    first
      | (rw [if_pos (by assumption)]
         first
           | (rw [decide_eq_false (p := 0 ≤ m.op ∧ m.op ≤ 2 ∧ 0 ≤ m.block ∧ m.block < 32) (by omega)]; rfl)
           | (rw [decide_eq_true (p := 0 ≤ m.op ∧ m.op ≤ 2 ∧ 0 ≤ m.block ∧ m.block < 32) (by omega)]; simp [V8.zero, *]; done))
      | (rw [if_neg (by omega), if_pos (by assumption)]; done)
      | (rw [if_neg (by omega), if_neg (by omega), if_pos (by assumption)]; simp [V8.zero, *]; done)
      | (rw [if_neg (by omega), if_neg (by omega), if_neg (by omega), if_pos (by assumption)]; simp [*]; done)
      | (rw [if_neg (by omega), if_neg (by omega), if_neg (by omega), if_neg (by omega)]; done)
  clear S; intro h36 S
  refine st_condF S rfl ?_
  refine nxD ?_
  refine st_go [1, 1] S rfl (by kernel_rfl) ?_; clear S a; intro a S
  refine nxC ?_
  refine st_if (t := 64) S rfl ?_ ?_
  · clear S; intro h64 S
    refine st_condT S rfl ?_
    refine nxD ?_
    refine st_go [6] S rfl (by kernel_rfl) ?_; clear S a; intro a S
    refine st_y S rfl rfl rfl (y_loadAgg (cs := [_, _, _]) S (by kernel_rfl) rfl rfl (M.cellsAt (k := 3) 1 rfl rfl)) ?_; clear S a; intro a S
    refine st_run [24, 2, 22, 2, 23, 2] S M rfl (by kernel_rfl) ?_; clear S a; intro a S
    refine st_y S rfl rfl rfl (y_build (ps := [(0, (Operand.const (Value.int IntKind.i8 2))), (1, (Operand.tmp 67)), (3, (Operand.tmp 69)), (4, (Operand.tmp 71)), (5, (Operand.tmp 73))]) (pl := [(0, 1), (1, 3), (4, 1), (5, 1), (6, 1), (7, 1), (8, 1), (9, 2), (11, 1)]) (z := [.int .i8 0, .int .i64 0, .int .i64 0, .int .i64 0, .bool false, .slice none 0 0, .int .i64 0, .int .i64 0, .int .i64 0, .int .i64 0, .int .i64 0, .int .i64 0]) (cs := [_, _, _, _, _, _, _, _, _, _, _, _]) S (by kernel_rfl) rfl (rfl)) ?_; clear S a; intro a S
    refine st_call (xs := [(Operand.tmp 74)]) S (enters_of Try.func68 (by decide) rfl) rfl rfl rfl (may_any ⟨2, m.name, false, m.give, m.take, 0, 0, 0, 0⟩ va vn vc x _ (by simp) (M.argW hv)) ?_
    rintro _ w4 ⟨rfl, hK⟩; refine ⟨_, rfl, ?_⟩; clear S a; intro a S; replace M := M.grow hK
    refine st_go [1] S rfl (by kernel_rfl) ?_; clear S a; intro a S
    replace S := S.sub [(2, _), (5, _), (35, _), (36, _), (64, _), (4, _)] rfl
    refine nxC ?_
    refine wp_ret ?_
    refine block_ret ?_
    refine then_ret ?_
    refine end_one S rfl (res_tmp rfl) ?_
    refine ⟨ret_bool ?_, M.below⟩; rw [hh1 _ hF, Bool.true_and]; clear S M hF hh1
    unfold fitKind
    first
      | (rw [if_pos (by assumption)]
         first
           | (rw [decide_eq_false (p := 0 ≤ m.op ∧ m.op ≤ 2 ∧ 0 ≤ m.block ∧ m.block < 32) (by omega)]; rfl)
           | (rw [decide_eq_true (p := 0 ≤ m.op ∧ m.op ≤ 2 ∧ 0 ≤ m.block ∧ m.block < 32) (by omega)]; simp [V8.zero, *]; done))
      | (rw [if_neg (by omega), if_pos (by assumption)]; done)
      | (rw [if_neg (by omega), if_neg (by omega), if_pos (by assumption)]; simp [V8.zero, *]; done)
      | (rw [if_neg (by omega), if_neg (by omega), if_neg (by omega), if_pos (by assumption)]; simp [*]; done)
      | (rw [if_neg (by omega), if_neg (by omega), if_neg (by omega), if_neg (by omega)]; done)
  clear S; intro h64 S
  refine st_condF S rfl ?_
  refine nxD ?_
  refine st_go [1, 1] S rfl (by kernel_rfl) ?_; clear S a; intro a S
  refine nxC ?_
  refine st_fi (t := 76) S rfl ?_ ?_
  · clear S; intro h76 S
    refine st_condF S rfl ?_
    refine nxD ?_
    refine st_go [1, 1] S rfl (by kernel_rfl) ?_; clear S a; intro a S
    refine nxC ?_
    refine st_fi (t := 88) S rfl ?_ ?_
    · clear S; intro h88 S
      refine st_condF S rfl ?_
      refine wp_skip ?_
      refine block_normal ?_
      refine nxE ?_
      refine st_go [1] S rfl (by kernel_rfl) ?_; clear S a; intro a S
      refine nxC ?_
      refine wp_ret ?_
      refine end_one S rfl (res_tmp rfl) ?_
      refine ⟨ret_bool ?_, M.below⟩; rw [hh1 _ hF, Bool.true_and]; clear S M hF hh1
      unfold fitKind
      first
        | (rw [if_pos (by assumption)]
           first
             | (rw [decide_eq_false (p := 0 ≤ m.op ∧ m.op ≤ 2 ∧ 0 ≤ m.block ∧ m.block < 32) (by omega)]; rfl)
             | (rw [decide_eq_true (p := 0 ≤ m.op ∧ m.op ≤ 2 ∧ 0 ≤ m.block ∧ m.block < 32) (by omega)]; simp [V8.zero, *]; done))
        | (rw [if_neg (by omega), if_pos (by assumption)]; done)
        | (rw [if_neg (by omega), if_neg (by omega), if_pos (by assumption)]; simp [V8.zero, *]; done)
        | (rw [if_neg (by omega), if_neg (by omega), if_neg (by omega), if_pos (by assumption)]; simp [*]; done)
        | (rw [if_neg (by omega), if_neg (by omega), if_neg (by omega), if_neg (by omega)]; done)
    clear S; intro h88 S
    refine st_condT S rfl ?_
    refine nxD ?_
    refine st_run [20, 2, 1, 1] S M rfl (by kernel_rfl) ?_; clear S a; intro a S
    refine st_if (t := 93) S rfl ?_ ?_
    · clear S; intro h93 S
      refine st_go [0, 0, 0, 1, 1, 0, 0, 0, 1, 1] S rfl (by kernel_rfl) ?_; clear S a; intro a S
      replace S := S.sub [(2, _), (5, _), (35, _), (36, _), (64, _), (76, _), (88, _), (4, _)] rfl
      refine nxC ?_
      refine wp_ret ?_
      refine block_ret ?_
      refine then_ret ?_
      refine end_one S rfl (res_tmp rfl) ?_
      refine ⟨ret_bool ?_, M.below⟩; rw [hh1 _ hF, Bool.true_and]; clear S M hF hh1
      unfold fitKind
      first
        | (rw [if_pos (by assumption)]
           first
             | (rw [decide_eq_false (p := 0 ≤ m.op ∧ m.op ≤ 2 ∧ 0 ≤ m.block ∧ m.block < 32) (by omega)]; rfl)
             | (rw [decide_eq_true (p := 0 ≤ m.op ∧ m.op ≤ 2 ∧ 0 ≤ m.block ∧ m.block < 32) (by omega)]; simp [V8.zero, *]; done))
        | (rw [if_neg (by omega), if_pos (by assumption)]; done)
        | (rw [if_neg (by omega), if_neg (by omega), if_pos (by assumption)]; simp [V8.zero, *]; done)
        | (rw [if_neg (by omega), if_neg (by omega), if_neg (by omega), if_pos (by assumption)]; simp [*]; done)
        | (rw [if_neg (by omega), if_neg (by omega), if_neg (by omega), if_neg (by omega)]; done)
    clear S; intro h93 S
    refine st_run [20, 2, 1, 1, 1] S M rfl (by kernel_rfl) ?_; clear S a; intro a S
    refine st_if (t := 98) S rfl ?_ ?_
    · clear S; intro h98 S
      refine st_go [0, 0, 0, 1, 1] S rfl (by kernel_rfl) ?_; clear S a; intro a S
      replace S := S.sub [(2, _), (5, _), (35, _), (36, _), (64, _), (76, _), (88, _), (4, _)] rfl
      refine nxC ?_
      refine wp_ret ?_
      refine block_ret ?_
      refine then_ret ?_
      refine end_one S rfl (res_tmp rfl) ?_
      refine ⟨ret_bool ?_, M.below⟩; rw [hh1 _ hF, Bool.true_and]; clear S M hF hh1
      unfold fitKind
      first
        | (rw [if_pos (by assumption)]
           first
             | (rw [decide_eq_false (p := 0 ≤ m.op ∧ m.op ≤ 2 ∧ 0 ≤ m.block ∧ m.block < 32) (by omega)]; rfl)
             | (rw [decide_eq_true (p := 0 ≤ m.op ∧ m.op ≤ 2 ∧ 0 ≤ m.block ∧ m.block < 32) (by omega)]; simp [V8.zero, *]; done))
        | (rw [if_neg (by omega), if_pos (by assumption)]; done)
        | (rw [if_neg (by omega), if_neg (by omega), if_pos (by assumption)]; simp [V8.zero, *]; done)
        | (rw [if_neg (by omega), if_neg (by omega), if_neg (by omega), if_pos (by assumption)]; simp [*]; done)
        | (rw [if_neg (by omega), if_neg (by omega), if_neg (by omega), if_neg (by omega)]; done)
    clear S; intro h98 S
    refine st_run [20, 2, 1, 1, 1] S M rfl (by kernel_rfl) ?_; clear S a; intro a S
    replace S := S.sub [(2, _), (5, _), (35, _), (36, _), (64, _), (76, _), (88, _), (4, _)] rfl
    refine nxC ?_
    refine wp_ret ?_
    refine block_ret ?_
    refine then_ret ?_
    refine end_one S rfl (res_tmp rfl) ?_
    refine ⟨ret_bool ?_, M.below⟩; rw [hh1 _ hF, Bool.true_and]; clear S M hF hh1
    unfold fitKind
    first
      | (rw [if_pos (by assumption)]
         first
           | (rw [decide_eq_false (p := 0 ≤ m.op ∧ m.op ≤ 2 ∧ 0 ≤ m.block ∧ m.block < 32) (by omega)]; rfl)
           | (rw [decide_eq_true (p := 0 ≤ m.op ∧ m.op ≤ 2 ∧ 0 ≤ m.block ∧ m.block < 32) (by omega)]; simp [V8.zero, *]; done))
      | (rw [if_neg (by omega), if_pos (by assumption)]; done)
      | (rw [if_neg (by omega), if_neg (by omega), if_pos (by assumption)]; simp [V8.zero, *]; done)
      | (rw [if_neg (by omega), if_neg (by omega), if_neg (by omega), if_pos (by assumption)]; simp [*]; done)
      | (rw [if_neg (by omega), if_neg (by omega), if_neg (by omega), if_neg (by omega)]; done)
  clear S; intro h76 S
  refine st_condT S rfl ?_
  refine wp_seq ?_
  refine nxD ?_
  refine st_run [20, 2] S M rfl (by kernel_rfl) ?_; clear S a; intro a S
  refine nxC ?_
  refine wp_block ?_
  refine nxD ?_
  refine st_go [1, 1] S rfl (by kernel_rfl) ?_; clear S a; intro a S
  refine nxC ?_
  refine st_if (t := 80) S rfl ?_ ?_
  · clear S; intro h80 S
    refine st_condT S rfl ?_
    refine nxD ?_
    refine st_go [1] S rfl (by kernel_rfl) ?_; clear S a; intro a S
    refine nxC ?_
    refine wp_ret ?_
    refine block_ret ?_
    refine then_ret ?_
    refine block_ret ?_
    refine then_ret ?_
    refine end_one S rfl (res_tmp rfl) ?_
    refine ⟨ret_bool ?_, M.below⟩; rw [hh1 _ hF, Bool.true_and]; clear S M hF hh1
    unfold fitKind
    first
      | (rw [if_pos (by assumption)]
         first
           | (rw [decide_eq_false (p := 0 ≤ m.op ∧ m.op ≤ 2 ∧ 0 ≤ m.block ∧ m.block < 32) (by omega)]; rfl)
           | (rw [decide_eq_true (p := 0 ≤ m.op ∧ m.op ≤ 2 ∧ 0 ≤ m.block ∧ m.block < 32) (by omega)]; simp [V8.zero, *]; done))
      | (rw [if_neg (by omega), if_pos (by assumption)]; done)
      | (rw [if_neg (by omega), if_neg (by omega), if_pos (by assumption)]; simp [V8.zero, *]; done)
      | (rw [if_neg (by omega), if_neg (by omega), if_neg (by omega), if_pos (by assumption)]; simp [*]; done)
      | (rw [if_neg (by omega), if_neg (by omega), if_neg (by omega), if_neg (by omega)]; done)
  clear S; intro h80 S
  refine st_condF S rfl ?_
  refine wp_seq ?_
  refine nxD ?_
  refine st_go [1, 1] S rfl (by kernel_rfl) ?_; clear S a; intro a S
  refine nxC ?_
  refine st_if (t := 82) S rfl ?_ ?_
  · clear S; intro h82 S
    refine st_condT S rfl ?_
    refine wp_skip ?_
    refine then_normal ?_
    refine st_condT S rfl ?_
    refine nxD ?_
    refine st_go [1, 1] S rfl (by kernel_rfl) ?_; clear S a; intro a S
    refine nxC ?_
    refine wp_ret ?_
    refine block_ret ?_
    refine then_ret ?_
    refine block_ret ?_
    refine then_ret ?_
    refine end_one S rfl (res_tmp rfl) ?_
    refine ⟨ret_bool ?_, M.below⟩; rw [hh1 _ hF, Bool.true_and]; clear S M hF hh1
    unfold fitKind
    first
      | (rw [if_pos (by assumption)]
         first
           | (rw [decide_eq_false (p := 0 ≤ m.op ∧ m.op ≤ 2 ∧ 0 ≤ m.block ∧ m.block < 32) (by omega)]; rfl)
           | (rw [decide_eq_true (p := 0 ≤ m.op ∧ m.op ≤ 2 ∧ 0 ≤ m.block ∧ m.block < 32) (by omega)]; simp [V8.zero, *]; done))
      | (rw [if_neg (by omega), if_pos (by assumption)]; done)
      | (rw [if_neg (by omega), if_neg (by omega), if_pos (by assumption)]; simp [V8.zero, *]; done)
      | (rw [if_neg (by omega), if_neg (by omega), if_neg (by omega), if_pos (by assumption)]; simp [*]; done)
      | (rw [if_neg (by omega), if_neg (by omega), if_neg (by omega), if_neg (by omega)]; done)
  clear S; intro h82 S
  refine st_condF S rfl ?_
  refine nxD ?_
  refine st_go [1, 1] S rfl (by kernel_rfl) ?_; clear S a; intro a S
  refine nxC ?_
  refine st_if (t := 82) S rfl ?_ ?_
  · clear S; intro h82 S
    refine st_condT S rfl ?_
    refine wp_skip ?_
    refine then_normal ?_
    refine st_condT S rfl ?_
    refine nxD ?_
    refine st_go [1, 1] S rfl (by kernel_rfl) ?_; clear S a; intro a S
    replace S := S.sub [(2, _), (5, _), (35, _), (36, _), (64, _), (76, _), (79, _), (80, _), (82, _), (4, _)] rfl
    refine nxC ?_
    refine wp_ret ?_
    refine block_ret ?_
    refine then_ret ?_
    refine block_ret ?_
    refine then_ret ?_
    refine end_one S rfl (res_tmp rfl) ?_
    refine ⟨ret_bool ?_, M.below⟩; rw [hh1 _ hF, Bool.true_and]; clear S M hF hh1
    unfold fitKind
    first
      | (rw [if_pos (by assumption)]
         first
           | (rw [decide_eq_false (p := 0 ≤ m.op ∧ m.op ≤ 2 ∧ 0 ≤ m.block ∧ m.block < 32) (by omega)]; rfl)
           | (rw [decide_eq_true (p := 0 ≤ m.op ∧ m.op ≤ 2 ∧ 0 ≤ m.block ∧ m.block < 32) (by omega)]; simp [V8.zero, *]; done))
      | (rw [if_neg (by omega), if_pos (by assumption)]; done)
      | (rw [if_neg (by omega), if_neg (by omega), if_pos (by assumption)]; simp [V8.zero, *]; done)
      | (rw [if_neg (by omega), if_neg (by omega), if_neg (by omega), if_pos (by assumption)]; simp [*]; done)
      | (rw [if_neg (by omega), if_neg (by omega), if_neg (by omega), if_neg (by omega)]; done)
  clear S; intro h82 S
  refine st_condF S rfl ?_
  refine nxD ?_
  refine st_go [1, 1] S rfl (by kernel_rfl) ?_; clear S a; intro a S
  replace S := S.sub [(2, _), (5, _), (35, _), (36, _), (64, _), (76, _), (79, _), (80, _), (82, _)] rfl
  refine nxC ?_
  refine st_if (t := 82) S rfl ?_ ?_
  · clear S; intro h82 S
    refine st_condT S rfl ?_
    refine wp_skip ?_
    refine then_normal ?_
    refine st_condT S rfl ?_
    refine nxD ?_
    refine st_go [1, 1] S rfl (by kernel_rfl) ?_; clear S a; intro a S
    refine nxC ?_
    refine wp_ret ?_
    refine block_ret ?_
    refine then_ret ?_
    refine block_ret ?_
    refine then_ret ?_
    refine end_one S rfl (res_tmp rfl) ?_
    refine ⟨ret_bool ?_, M.below⟩; rw [hh1 _ hF, Bool.true_and]; clear S M hF hh1
    unfold fitKind
    first
      | (rw [if_pos (by assumption)]
         first
           | (rw [decide_eq_false (p := 0 ≤ m.op ∧ m.op ≤ 2 ∧ 0 ≤ m.block ∧ m.block < 32) (by omega)]; rfl)
           | (rw [decide_eq_true (p := 0 ≤ m.op ∧ m.op ≤ 2 ∧ 0 ≤ m.block ∧ m.block < 32) (by omega)]; simp [V8.zero, *]; done))
      | (rw [if_neg (by omega), if_pos (by assumption)]; done)
      | (rw [if_neg (by omega), if_neg (by omega), if_pos (by assumption)]; simp [V8.zero, *]; done)
      | (rw [if_neg (by omega), if_neg (by omega), if_neg (by omega), if_pos (by assumption)]; simp [*]; done)
      | (rw [if_neg (by omega), if_neg (by omega), if_neg (by omega), if_neg (by omega)]; done)
  clear S; intro h82 S
  refine st_condF S rfl ?_
  refine wp_region_lit ?_
  refine st_go [1, 1] S rfl (by kernel_rfl) ?_; clear S a; intro a S
  refine nxC ?_
  refine st_if (t := 82) S rfl ?_ ?_
  · clear S; intro h82 S
    refine st_condT S rfl ?_
    refine nxD ?_
    refine st_go [1, 1] S rfl (by kernel_rfl) ?_; clear S a; intro a S
    refine nxC ?_
    refine wp_ret ?_
    refine block_ret ?_
    refine then_ret ?_
    refine block_ret ?_
    refine then_ret ?_
    refine end_one S rfl (res_tmp rfl) ?_
    refine ⟨ret_bool ?_, M.below⟩; rw [hh1 _ hF, Bool.true_and]; clear S M hF hh1
    unfold fitKind
    first
      | (rw [if_pos (by assumption)]
         first
           | (rw [decide_eq_false (p := 0 ≤ m.op ∧ m.op ≤ 2 ∧ 0 ≤ m.block ∧ m.block < 32) (by omega)]; rfl)
           | (rw [decide_eq_true (p := 0 ≤ m.op ∧ m.op ≤ 2 ∧ 0 ≤ m.block ∧ m.block < 32) (by omega)]; simp [V8.zero, *]; done))
      | (rw [if_neg (by omega), if_pos (by assumption)]; done)
      | (rw [if_neg (by omega), if_neg (by omega), if_pos (by assumption)]; simp [V8.zero, *]; done)
      | (rw [if_neg (by omega), if_neg (by omega), if_neg (by omega), if_pos (by assumption)]; simp [*]; done)
      | (rw [if_neg (by omega), if_neg (by omega), if_neg (by omega), if_neg (by omega)]; done)
  clear S; intro h82 S
  refine st_condF S rfl ?_
  refine wp_skip ?_
  refine block_normal ?_
  refine nxE ?_
  refine st_go [1] S rfl (by kernel_rfl) ?_; clear S a; intro a S
  refine nxC ?_
  refine wp_ret ?_
  refine block_ret ?_
  refine then_ret ?_
  refine end_one S rfl (res_tmp rfl) ?_
  refine ⟨ret_bool ?_, M.below⟩; rw [hh1 _ hF, Bool.true_and]; clear S M hF hh1
  unfold fitKind
  first
    | (rw [if_pos (by assumption)]
       first
         | (rw [decide_eq_false (p := 0 ≤ m.op ∧ m.op ≤ 2 ∧ 0 ≤ m.block ∧ m.block < 32) (by omega)]; rfl)
         | (rw [decide_eq_true (p := 0 ≤ m.op ∧ m.op ≤ 2 ∧ 0 ≤ m.block ∧ m.block < 32) (by omega)]; simp [V8.zero, *]; done))
    | (rw [if_neg (by omega), if_pos (by assumption)]; done)
    | (rw [if_neg (by omega), if_neg (by omega), if_pos (by assumption)]; simp [V8.zero, *]; done)
    | (rw [if_neg (by omega), if_neg (by omega), if_neg (by omega), if_pos (by assumption)]; simp [*]; done)
    | (rw [if_neg (by omega), if_neg (by omega), if_neg (by omega), if_neg (by omega)]; done)

/-- may a message be? -/
def Msg.may (m : Msg) (x : List Wr) : Bool :=
  if 1 ≤ m.kind ∧ m.kind ≤ 11 ∧ betweenB m.frm m.to (kdown m.kind) = true ∧ 1 ≤ m.inc ∧ m.inc ≤ 1048576 ∧ 0 ≤ m.your ∧ m.your ≤ 1048576 then
    m.same (bareM (khas m.kind) 10 m) x (bareX (khas m.kind) x) && fitB (khas m.kind) m x else false
set_option maxHeartbeats 1000000 in
theorem mayM_any (m : Msg) (va : Option Addr) (vn vc : Nat) (x : List Wr) (w : World) (hv : Ws 0 w.heap.size w (.slice va vn vc) x) :
    Calls Try.prog 24 #[.agg (m.cells (.slice va vn vc))] w fun e w' => e = .returned (.bool (m.may x)) ∧ Below w.heap.size w w' := by
  have M := Mem.start w
  generalize hR : m.may x = R
  refine calls_enter Try.func24 rfl 48 rfl rfl ?_; intro a S
  refine nxD ?_
  refine st_box S M rfl rfl rfl #[_, _, _, _, _, _, _, _, _, _, _, _, _, _, _, _, _, _, _, _, _, _, _, _] rfl ?_; clear S M a; intro a w1 b1 S M hB
  refine st_go [1] S rfl (by kernel_rfl) ?_; clear S a; intro a S
  refine nxA ?_
  refine st_run [1, 1] S M rfl (by kernel_rfl) ?_; clear S a; intro a S
  refine st_call (xs := [(Operand.tmp 7)]) S (enters_of Try.func51 (by decide) rfl) rfl rfl rfl (kindOf_any _ _) ?_
  rintro _ w2 ⟨rfl, hK⟩; refine ⟨_, rfl, ?_⟩; clear S a; intro a S; replace M := M.grow hK
  refine st_go [1, 1, 1] S rfl (by kernel_rfl) ?_; clear S a; intro a S
  refine st_alloc S M rfl rfl #[.bool false, .bool false, .bool false, .bool false, .bool false, .bool false, .bool false, .bool false, .bool false, .bool false, .bool false] (by kernel_rfl) ?_; clear S M a; intro a w3 b2 S M hB
  refine st_store (sz := 11) (us := [_, _, _, _, _, _, _, _, _, _, _]) S M 0 rfl (by kernel_rfl) rfl rfl rfl rfl rfl rfl (by first | decide | (simp; done) | (simp; omega)) ?_; clear M; intro w4 M
  simp only [putL, List.set_cons_zero, List.set_cons_succ, Nat.reduceAdd] at M
  refine st_go [1] S rfl (by kernel_rfl) ?_; clear S a; intro a S
  refine nxC ?_
  refine wp_seq ?_
  refine nxD ?_
  refine st_go [1, 1, 1] S rfl (by kernel_rfl) ?_; clear S a; intro a S
  refine st_split (t := 13) S rfl ?_ ?_
  · clear S; intro h13 S
    refine st_go [0, 0, 0, 0, 0, 1] S rfl (by kernel_rfl) ?_; clear S a; intro a S
    replace S := S.sub [(0, _), (1, _), (2, _), (3, _), (4, _), (19, _)] rfl
    refine nxC ?_
    refine st_condT S rfl ?_
    refine wp_seq ?_
    have hno : ¬ (1 ≤ m.kind ∧ m.kind ≤ 11 ∧ betweenB m.frm m.to (kdown m.kind) = true ∧ 1 ≤ m.inc ∧ m.inc ≤ 1048576 ∧ 0 ≤ m.your ∧ m.your ≤ 1048576) := by
      rintro ⟨q1, q2, q3, -⟩
      first
        | (have : isKind m.kind = true := by unfold isKind; rw [decide_eq_true ⟨q1, q2⟩]
           rw [this] at h13; simp at h13; done)
        | (rw [q3] at h19; simp at h19; done)
    refine wp_region_lit ?_
    refine st_go [1] S rfl (by kernel_rfl) ?_; clear S a; intro a S
    refine nxC ?_
    refine wp_ret ?_
    refine then_ret ?_
    refine end_one S rfl (res_tmp rfl) ?_
    exact ⟨ret_bool (by rw [← hR]; unfold Msg.may; rw [if_neg hno]), M.below⟩
  clear S; intro h13 S
  refine st_y S rfl rfl rfl (y_loadAgg (cs := [_, _, _, _, _, _, _, _, _, _, _, _, _, _, _, _, _, _, _, _, _, _, _, _]) S (by kernel_rfl) rfl rfl (M.cellsAt (k := 24) 1 rfl rfl)) ?_; clear S a; intro a S
  refine st_run [1, 1] S M rfl (by kernel_rfl) ?_; clear S a; intro a S
  refine st_call (xs := [(Operand.tmp 14), (Operand.tmp 16)]) S (enters_of Try.func52 (by decide) rfl) rfl rfl rfl (between_any m _ _ _ _ _) ?_
  rintro _ w5 ⟨rfl, hK⟩; refine ⟨_, rfl, ?_⟩; clear S a; intro a S; replace M := M.grow hK
  refine st_go [1, 1] S rfl (by kernel_rfl) ?_; clear S a; intro a S
  replace S := S.sub [(0, _), (1, _), (2, _), (3, _), (4, _), (19, _)] rfl
  refine nxC ?_
  refine st_split (t := 19) S rfl ?_ ?_
  · clear S; intro h19 S
    refine st_condT S rfl ?_
    refine wp_seq ?_
    have hno : ¬ (1 ≤ m.kind ∧ m.kind ≤ 11 ∧ betweenB m.frm m.to (kdown m.kind) = true ∧ 1 ≤ m.inc ∧ m.inc ≤ 1048576 ∧ 0 ≤ m.your ∧ m.your ≤ 1048576) := by
      rintro ⟨q1, q2, q3, -⟩
      first
        | (have : isKind m.kind = true := by unfold isKind; rw [decide_eq_true ⟨q1, q2⟩]
           rw [this] at h13; simp at h13; done)
        | (rw [q3] at h19; simp at h19; done)
    refine wp_region_lit ?_
    refine st_go [1] S rfl (by kernel_rfl) ?_; clear S a; intro a S
    refine nxC ?_
    refine wp_ret ?_
    refine then_ret ?_
    refine end_one S rfl (res_tmp rfl) ?_
    exact ⟨ret_bool (by rw [← hR]; unfold Msg.may; rw [if_neg hno]), M.below⟩
  clear S; intro h19 S
  refine st_condF S rfl ?_
  refine wp_skip ?_
  refine then_normal ?_
  refine wp_seq ?_
  refine wp_seq ?_
  have hk : 1 ≤ m.kind ∧ m.kind ≤ 11 := by
    have : isKind m.kind = true := by simpa using h13
    unfold isKind at this; simpa using this
  have hbt : betweenB m.frm m.to (kdown m.kind) = true := by simpa using h19
  refine wp_region_lit ?_
  refine st_run [4, 2, 1, 1] S M rfl (by kernel_rfl) ?_; clear S a; intro a S
  refine st_if (t := 23) S rfl ?_ ?_
  · clear S; intro h23 S
    refine st_go [0, 0, 0, 1, 1, 0, 0, 0, 1, 1, 0, 0, 0, 1] S rfl (by kernel_rfl) ?_; clear S a; intro a S
    replace S := S.sub [(0, _), (1, _), (2, _), (3, _), (4, _), (19, _), (37, _)] rfl
    refine nxC ?_
    refine st_condT S rfl ?_
    refine nxD ?_
    refine st_go [1] S rfl (by kernel_rfl) ?_; clear S a; intro a S
    refine nxC ?_
    refine wp_ret ?_
    refine then_ret ?_
    refine end_one S rfl (res_tmp rfl) ?_
    exact ⟨ret_bool (by rw [← hR]; unfold Msg.may; rw [if_neg (by rintro ⟨-, -, -, q4, q5, q6, q7⟩; omega)]), M.below⟩
  clear S; intro h23 S
  refine st_run [4, 2, 1, 1, 1] S M rfl (by kernel_rfl) ?_; clear S a; intro a S
  refine st_if (t := 28) S rfl ?_ ?_
  · clear S; intro h28 S
    refine st_go [0, 0, 0, 1, 1, 0, 0, 0, 1] S rfl (by kernel_rfl) ?_; clear S a; intro a S
    replace S := S.sub [(0, _), (1, _), (2, _), (3, _), (4, _), (19, _), (37, _)] rfl
    refine nxC ?_
    refine st_condT S rfl ?_
    refine nxD ?_
    refine st_go [1] S rfl (by kernel_rfl) ?_; clear S a; intro a S
    refine nxC ?_
    refine wp_ret ?_
    refine then_ret ?_
    refine end_one S rfl (res_tmp rfl) ?_
    exact ⟨ret_bool (by rw [← hR]; unfold Msg.may; rw [if_neg (by rintro ⟨-, -, -, q4, q5, q6, q7⟩; omega)]), M.below⟩
  clear S; intro h28 S
  refine st_run [5, 2, 1, 1, 1] S M rfl (by kernel_rfl) ?_; clear S a; intro a S
  refine st_if (t := 33) S rfl ?_ ?_
  · clear S; intro h33 S
    refine st_go [0, 0, 0, 1] S rfl (by kernel_rfl) ?_; clear S a; intro a S
    replace S := S.sub [(0, _), (1, _), (2, _), (3, _), (4, _), (19, _), (37, _)] rfl
    refine nxC ?_
    refine st_condT S rfl ?_
    refine nxD ?_
    refine st_go [1] S rfl (by kernel_rfl) ?_; clear S a; intro a S
    refine nxC ?_
    refine wp_ret ?_
    refine then_ret ?_
    refine end_one S rfl (res_tmp rfl) ?_
    exact ⟨ret_bool (by rw [← hR]; unfold Msg.may; rw [if_neg (by rintro ⟨-, -, -, q4, q5, q6, q7⟩; omega)]), M.below⟩
  clear S; intro h33 S
  refine st_run [5, 2, 1, 1] S M rfl (by kernel_rfl) ?_; clear S a; intro a S
  replace S := S.sub [(0, _), (1, _), (2, _), (3, _), (4, _), (19, _), (37, _)] rfl
  refine nxC ?_
  refine st_if (t := 37) S rfl ?_ ?_
  · clear S; intro h37 S
    refine st_condT S rfl ?_
    refine nxD ?_
    refine st_go [1] S rfl (by kernel_rfl) ?_; clear S a; intro a S
    refine nxC ?_
    refine wp_ret ?_
    refine then_ret ?_
    refine end_one S rfl (res_tmp rfl) ?_
    exact ⟨ret_bool (by rw [← hR]; unfold Msg.may; rw [if_neg (by rintro ⟨-, -, -, q4, q5, q6, q7⟩; omega)]), M.below⟩
  clear S; intro h37 S
  refine st_condF S rfl ?_
  refine wp_skip ?_
  refine then_normal ?_
  refine wp_seq ?_
  have hyes : (1 ≤ m.kind ∧ m.kind ≤ 11 ∧ betweenB m.frm m.to (kdown m.kind) = true ∧ 1 ≤ m.inc ∧ m.inc ≤ 1048576 ∧ 0 ≤ m.your ∧ m.your ≤ 1048576) := ⟨hk.1, hk.2, hbt, by omega, by omega, by omega, by omega⟩
  refine wp_regionK [] #[false, false, false, false, false, false, false, false, false, false, false] rfl M (by kernel_rfl) ?_; clear M; intro w6 M
  refine k_read (listed' := #[true, false, false, false, false, false, false, false, false, false, false]) 0 S rfl rfl rfl rfl (by kernel_rfl) rfl (fun _ d _ _ _ h => by cases d <;> exact h) (fun w hW => have M := M.grow hW; y_loadAgg (cs := [_, _, _, _, _, _, _, _, _, _, _, _, _, _, _, _, _, _, _, _, _, _, _, _]) S (by kernel_rfl) rfl rfl (M.cellsAt (k := 24) 1 rfl rfl)) ?_; clear S a; intro a S
  refine k_read (listed' := #[true, true, false, false, false, false, false, false, false, false, false]) 1 S rfl rfl rfl rfl (by kernel_rfl) rfl (fun _ d _ _ _ h => by cases d <;> exact h) (fun w hW => have M := M.grow hW; y_loadAgg (cs := [_, _, _, _, _, _, _, _, _, _, _, _, _, _, _, _, _, _, _, _, _, _, _, _]) S (by kernel_rfl) rfl rfl (M.cellsAt (k := 24) 1 rfl rfl)) ?_; clear S a; intro a S
  refine k_read (listed' := #[true, true, true, false, false, false, false, false, false, false, false]) 2 S rfl rfl rfl rfl (by kernel_rfl) rfl (fun _ d _ _ _ h => by cases d <;> exact h) (fun w hW => have M := M.grow hW; y_loadAgg (cs := [_, _, _, _, _, _, _, _, _, _, _]) S (by kernel_rfl) rfl rfl (M.cellsAt (k := 11) 0 rfl rfl)) ?_; clear S a; intro a S
  refine k_one (listed' := #[true, true, true, true, false, false, false, false, false, false, false]) 3 rfl (by kernel_rfl) rfl ?_
  refine st_call (xs := [(Operand.tmp 39), (Operand.tmp 40)]) S (enters_of Try.func54 (by decide) rfl) rfl rfl rfl (bare_any m va vn vc x (kdown m.kind) (khas m.kind) _) ?_
  rintro _ w7 ⟨ad, l, c, rfl, hK, hV⟩; refine ⟨_, rfl, ?_⟩; clear S a; intro a S; replace M := M.grow hK
  have hW : Ws 0 w.heap.size w (.slice ad l c) (bareX (khas m.kind) x) := by
    rcases hV with ⟨rfl, rfl, rfl, e⟩ | ⟨rfl, rfl, rfl, e⟩ <;> rw [e]
    · exact Rd.nil _ _ _ _
    · exact hv
  refine wpList_nil ?_; refine then_normal ?_; refine ⟨fun _ => hK, ?_⟩
  refine k_one (listed' := #[true, true, true, true, true, false, false, false, false, false, false]) 4 rfl (by kernel_rfl) rfl ?_
  refine st_call (xs := [(Operand.tmp 38), (Operand.tmp 41)]) S (enters_of Try.func53 (by decide) rfl) rfl rfl rfl (sameM_any m (bareM (khas m.kind) 10 m) _ _ x (bareX (khas m.kind) x) _ (M.argW hv) (M.argW hW)) ?_
  rintro _ w8 ⟨rfl, hK⟩; refine ⟨_, rfl, ?_⟩; clear S a; intro a S; replace M := M.grow hK
  refine wpList_nil ?_; refine then_normal ?_; refine ⟨fun _ => hK, ?_⟩
  refine k_pure (listed' := #[true, true, true, true, true, true, false, false, false, false, false]) 5 S rfl rfl rfl rfl (by kernel_rfl) rfl (fun _ d _ _ _ h => by cases d <;> exact h) (fun w => y_move S rfl) ?_; clear S a; intro a S
  refine st_tils (t := 43) S rfl ?_ ?_
  · clear S; intro h43 S
    refine k_no (listed' := #[true, true, true, true, true, true, true, false, false, false, false]) 6 S rfl rfl rfl rfl (by kernel_rfl) rfl (fun _ d _ _ _ h => by cases d <;> exact h) ?_; clear S a; intro a S
    refine k_no (listed' := #[true, true, true, true, true, true, true, true, false, false, false]) 7 S rfl rfl rfl rfl (by kernel_rfl) rfl (fun _ d _ _ _ h => by cases d <;> exact h) ?_; clear S a; intro a S
    refine k_no (listed' := #[true, true, true, true, true, true, true, true, true, false, false]) 8 S rfl rfl rfl rfl (by kernel_rfl) rfl (fun _ d _ _ _ h => by cases d <;> exact h) ?_; clear S a; intro a S
    refine k_pure (listed' := #[true, true, true, true, true, true, true, true, true, true, false]) 9 S rfl rfl rfl rfl (by kernel_rfl) rfl (fun _ d _ _ _ h => by cases d <;> exact h) (fun w => y_pickF S rfl rfl) ?_; clear S a; intro a S
    refine k_pure (listed' := #[true, true, true, true, true, true, true, true, true, true, true]) 10 S rfl rfl rfl rfl (by kernel_rfl) rfl (fun _ d _ _ _ h => by cases d <;> exact h) (fun w => y_assign S rfl) ?_; clear S a; intro a S
    refine k_end (by kernel_rfl) ?_
    refine then_normal ?_
    refine wp_ret ?_
    refine end_one S rfl (res_tmp rfl) ?_
    exact ⟨ret_bool (by rw [← hR]; unfold Msg.may; rw [if_pos hyes]; clear S M; simp [*]), M.below⟩
  clear S; intro h43 S
  refine k_read (listed' := #[true, true, true, true, true, true, true, false, false, false, false]) 6 S rfl rfl rfl rfl (by kernel_rfl) rfl (fun _ d _ _ _ h => by cases d <;> exact h) (fun w hW => have M := M.grow hW; y_loadAgg (cs := [_, _, _, _, _, _, _, _, _, _, _, _, _, _, _, _, _, _, _, _, _, _, _, _]) S (by kernel_rfl) rfl rfl (M.cellsAt (k := 24) 1 rfl rfl)) ?_; clear S a; intro a S
  refine k_read (listed' := #[true, true, true, true, true, true, true, true, false, false, false]) 7 S rfl rfl rfl rfl (by kernel_rfl) rfl (fun _ d _ _ _ h => by cases d <;> exact h) (fun w hW => have M := M.grow hW; y_loadAgg (cs := [_, _, _, _, _, _, _, _, _, _, _]) S (by kernel_rfl) rfl rfl (M.cellsAt (k := 11) 0 rfl rfl)) ?_; clear S a; intro a S
  refine k_one (listed' := #[true, true, true, true, true, true, true, true, true, false, false]) 8 rfl (by kernel_rfl) rfl ?_
  refine st_call (xs := [(Operand.tmp 44), (Operand.tmp 45)]) S (enters_of Try.func55 (by decide) rfl) rfl rfl rfl (fit_any m va vn vc x (kdown m.kind) (khas m.kind) _ (M.argW hv)) ?_
  rintro _ w9 ⟨rfl, hK⟩; refine ⟨_, rfl, ?_⟩; clear S a; intro a S; replace M := M.grow hK
  refine wpList_nil ?_; refine then_normal ?_; refine ⟨fun _ => hK, ?_⟩
  refine k_pure (listed' := #[true, true, true, true, true, true, true, true, true, true, false]) 9 S rfl rfl rfl rfl (by kernel_rfl) rfl (fun _ d _ _ _ h => by cases d <;> exact h) (fun w => y_pickT S rfl rfl) ?_; clear S a; intro a S
  refine k_pure (listed' := #[true, true, true, true, true, true, true, true, true, true, true]) 10 S rfl rfl rfl rfl (by kernel_rfl) rfl (fun _ d _ _ _ h => by cases d <;> exact h) (fun w => y_assign S rfl) ?_; clear S a; intro a S
  refine k_end (by kernel_rfl) ?_
  refine then_normal ?_
  refine wp_ret ?_
  refine end_one S rfl (res_tmp rfl) ?_
  exact ⟨ret_bool (by rw [← hR]; unfold Msg.may; rw [if_pos hyes]; clear S M; simp [*]), M.below⟩

end Go.Proofs.Ytidpeojkkfmgeaa
