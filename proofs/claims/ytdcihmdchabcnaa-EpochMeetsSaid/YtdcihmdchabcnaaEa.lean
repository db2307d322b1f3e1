/-
  Package epoch: what is known, what is heard.
-/
import Derived.Test.YtdcihmdchabcnaaWc
namespace Go.Proofs.Ytdcihmdchabcnaa
open Go.RowKit Go.Sort

structure Kn where
  node : Int
  inc : Int
  o0 : Int
  o1 : Int
  o2 : Int
  o3 : Int
  o4 : Int
deriving DecidableEq
abbrev Kn.ofL (k : Kn) : List Value := [.int .i64 k.o0, .int .i64 k.o1, .int .i64 k.o2, .int .i64 k.o3, .int .i64 k.o4]
abbrev Kn.cells (k : Kn) : Array Value := #[.int .i64 k.node, .int .i64 k.inc, .int .i64 k.o0, .int .i64 k.o1, .int .i64 k.o2, .int .i64 k.o3, .int .i64 k.o4]
def Kn.of (k : Kn) (i : Nat) : Int := if i = 0 then k.o0 else if i = 1 then k.o1 else if i = 2 then k.o2 else if i = 3 then k.o3 else k.o4
def Kn.set (k : Kn) (i : Nat) (v : Int) : Kn := if i = 0 then { k with o0 := v } else if i = 1 then { k with o1 := v } else if i = 2 then { k with o2 := v } else if i = 3 then { k with o3 := v } else { k with o4 := v }
theorem five {x : Nat} (hx : x < 5) : x = 0 ∨ x = 1 ∨ x = 2 ∨ x = 3 ∨ x = 4 := by omega
theorem kn_get {k : Kn} {x : Nat} (hx : x < 5) : k.cells[0 + 2 + x]? = some (.int .i64 (k.of x)) := by
  rcases five hx with rfl | rfl | rfl | rfl | rfl <;> rfl
theorem kn_put {k : Kn} {x : Nat} (hx : x < 5) (v : Int) : putL k.cells.toList (2 + x) [.int .i64 v] = (k.set x v).cells.toList := by
  rcases five hx with rfl | rfl | rfl | rfl | rfl <;> rfl
theorem kn_elem {k : Kn} {x : Nat} (hx : x < 5) : k.ofL[((x : Int)).toNat * 1]? = some (.int .i64 (k.of x)) := by
  rcases five hx with rfl | rfl | rfl | rfl | rfl <;> rfl
theorem Kn.of_set {k : Kn} {i j : Nat} (hi : i < 5) (hj : j < 5) (v : Int) : (k.set i v).of j = if j = i then v else k.of j := by
  rcases five hi with rfl | rfl | rfl | rfl | rfl <;> rcases five hj with rfl | rfl | rfl | rfl | rfl <;> rfl
theorem Kn.set_inc (k : Kn) (i : Nat) (v : Int) : (k.set i v).inc = k.inc := by unfold Kn.set; (repeat' split) <;> rfl
theorem Kn.set_node (k : Kn) (i : Nat) (v : Int) : (k.set i v).node = k.node := by unfold Kn.set; (repeat' split) <;> rfl
theorem Kn.set_same {k : Kn} {i : Nat} (hi : i < 5) : k.set i (k.of i) = k := by
  rcases five hi with rfl | rfl | rfl | rfl | rfl <;> rfl
def Kn.eqb (a b : Kn) : Bool := a.node == b.node && a.inc == b.inc && (a.o0 == b.o0 && a.o1 == b.o1 && a.o2 == b.o2 && a.o3 == b.o3 && a.o4 == b.o4)
theorem Kn.eqb_iff {a b : Kn} : a.eqb b = true ↔ a = b := by
  cases a; cases b; simp [Kn.eqb, and_assoc]
theorem Try.cellsInt : Try.prog.cellsOf 3 = 1 := by kernel_rfl
theorem Try.hasInfoInt : (Try.prog.info? 3).isSome = true := by kernel_rfl
theorem equalOf (d : Nat) (a b : Kn) (w : World) : (Op.equalIn (d + 2) 22 (.agg a.ofL.toArray) (.agg b.ofL.toArray)).run Try.prog w = .ok (a.o0 == b.o0 && a.o1 == b.o1 && a.o2 == b.o2 && a.o3 == b.o3 && a.o4 == b.o4) w := by
  obtain ⟨i, hi⟩ := Option.isSome_iff_exists.1 Try.hasInfoInt
  rw [run_equalIn_array w (d + 1) _ _ Try.underlying22 hi, Try.cellsInt]
  simp only [List.range, List.range.loop, Op.eqItems, part, isAgg, Sem.run_bind, run_underlying Try.underlying3, Result.andThen_ok]
  simp [run_equalIn_int w d 3 .i64 .i64 _ _ Try.underlying3]
  (repeat' split) <;> simp_all
theorem equalKn (d : Nat) (a b : Kn) (w : World) : (Op.equalIn (d + 3) 24 (.agg a.cells) (.agg b.cells)).run Try.prog w = .ok (a.eqb b) w := by
  have h := equalOf d a b w
  simp only [Kn.ofL] at h
  simp [go_sem, h, Kn.eqb]
  (repeat' split) <;> simp_all

def thereB (n : Int) : Bool := decide (0 ≤ n ∧ n ≤ 4)
theorem there_any (n : Int) (w : World) : Calls Try.prog 12 #[.int .i64 n] w fun e w' => e = .returned (.bool (thereB n)) ∧ Below w.heap.size w w' := by
  have M := Mem.start w
  refine calls_enter Try.func12 rfl 9 rfl rfl ?_; intro a S
  refine wp_seq ?_
  -- region 0 epoch.go:20
  refine wp_region_lit ?_
  refine st_y S rfl rfl rfl (y_assign S rfl) ?_; clear S a; intro a S
  refine wpList_nil ?_
  replace S := S.sub [(0, _), (2, _)] rfl
  refine then_normal ?_
  refine wp_seq ?_
  -- region 1 epoch.go:20
  refine wp_region_lit ?_
  refine st_y S rfl rfl rfl (y_move S rfl) ?_; clear S a; intro a S
  refine st_y S rfl rfl rfl (y_int S rfl rfl rfl) ?_; clear S a; intro a S
  refine st_y S rfl rfl rfl (y_move S rfl) ?_; clear S a; intro a S
  refine st_split (t := 5) S rfl ?_ ?_
  · clear S; intro h5 S
    first | replace h5 := nrmA h5 | replace h5 := nrmB h5 | skip
    first | replace h5 := nrm1 h5 | replace h5 := nrm2 h5 | replace h5 := nrm3 h5 | replace h5 := nrm4 h5 | replace h5 := nrm5 h5 | replace h5 := nrm6 h5 | replace h5 := of_decide_eq_true h5 | replace h5 := of_decide_eq_false h5 | skip
    refine st_y S rfl rfl rfl (y_move S rfl) ?_; clear S a; intro a S
    refine st_y S rfl rfl rfl (y_int S rfl rfl rfl) ?_; clear S a; intro a S
    refine st_y S rfl rfl rfl (y_pickT S rfl rfl) ?_; clear S a; intro a S
    refine st_y S rfl rfl rfl (y_assign S rfl) ?_; clear S a; intro a S
    refine wpList_nil ?_
    replace S := S.sub [(0, _), (2, _)] rfl
    refine then_normal ?_
    refine wp_ret ?_
    refine end_one S rfl (res_tmp rfl) ?_
    refine ⟨ret_bool ?_, M.below⟩; unfold thereB; rw [Bool.eq_iff_iff]; (first | (simp; done) | (simp; omega))
  · clear S; intro h5 S
    first | replace h5 := nrmA h5 | replace h5 := nrmB h5 | skip
    first | replace h5 := nrm1 h5 | replace h5 := nrm2 h5 | replace h5 := nrm3 h5 | replace h5 := nrm4 h5 | replace h5 := nrm5 h5 | replace h5 := nrm6 h5 | replace h5 := of_decide_eq_true h5 | replace h5 := of_decide_eq_false h5 | skip
    refine st_skip 2 S rfl ?_; clear S a; intro a S
    refine st_y S rfl rfl rfl (y_pickF S rfl rfl) ?_; clear S a; intro a S
    refine st_y S rfl rfl rfl (y_assign S rfl) ?_; clear S a; intro a S
    refine wpList_nil ?_
    replace S := S.sub [(0, _), (2, _)] rfl
    refine then_normal ?_
    refine wp_ret ?_
    refine end_one S rfl (res_tmp rfl) ?_
    refine ⟨ret_bool ?_, M.below⟩; unfold thereB; rw [Bool.eq_iff_iff]; (first | (simp; done) | (simp; omega))
def Kn.may (k : Kn) : Bool := decide ((0 ≤ k.node ∧ k.node ≤ 4) ∧ (1 ≤ k.inc ∧ k.inc ≤ 1048576) ∧ (0 ≤ k.o0 ∧ k.o0 ≤ 1048576) ∧ (0 ≤ k.o1 ∧ k.o1 ≤ 1048576) ∧ (0 ≤ k.o2 ∧ k.o2 ≤ 1048576) ∧ (0 ≤ k.o3 ∧ k.o3 ≤ 1048576) ∧ (0 ≤ k.o4 ∧ k.o4 ≤ 1048576))
theorem Kn.may_iff {k : Kn} : k.may = true ↔ (0 ≤ k.node ∧ k.node ≤ 4) ∧ (1 ≤ k.inc ∧ k.inc ≤ 1048576) ∧ ∀ i, i < 5 → 0 ≤ k.of i ∧ k.of i ≤ 1048576 := by
  unfold Kn.may
  rw [decide_eq_true_eq]
  constructor
  · rintro ⟨h1, h2, h3, h4, h5, h6, h7⟩
    refine ⟨h1, h2, fun i hi => ?_⟩
    rcases five hi with rfl | rfl | rfl | rfl | rfl <;> simp [Kn.of] <;> omega
  · rintro ⟨h1, h2, h3⟩
    have e0 := h3 0 (by omega); have e1 := h3 1 (by omega); have e2 := h3 2 (by omega); have e3 := h3 3 (by omega); have e4 := h3 4 (by omega)
    simp only [Kn.of] at e0 e1 e2 e3 e4
    simp at e0 e1 e2 e3 e4
    exact ⟨h1, h2, e0, e1, e2, e3, e4⟩
theorem mayK_any (k : Kn) (w : World) : Calls Try.prog 6 #[.agg k.cells] w fun e w' => e = .returned (.bool k.may) ∧ Below w.heap.size w w' := by
  have M := Mem.start w
  have hno : ∀ P : Prop, (k.may = true → P) → ¬ P → false = k.may := fun P h hp => by
    cases e : k.may with
    | false => rfl
    | true => exact absurd (h e) hp
  refine calls_enter Try.func6 rfl 31 rfl rfl ?_; intro a S
  refine wp_seq ?_
  -- region 0 epoch.go:32
  refine wp_region_lit ?_
  refine st_box S M rfl rfl rfl #[_, _, _, _, _, _, _] rfl ?_; clear S M a; intro a w1 b1 S M hB
  refine st_y S rfl rfl rfl (y_assign S rfl) ?_; clear S a; intro a S
  refine wpList_nil ?_
  replace S := S.sub [(0, _), (1, _), (2, _)] rfl
  refine then_normal ?_
  refine wp_seq ?_
  refine wp_seq ?_
  -- region 1 epoch.go:33
  refine wp_region_lit ?_
  refine st_y S rfl rfl rfl (y_fieldAddr (k := 0) S (by kernel_rfl) rfl) ?_; clear S a; intro a S
  refine st_y S rfl rfl rfl (y_load S (by kernel_rfl) rfl (M.cell 0 rfl rfl)) ?_; clear S a; intro a S
  refine st_call (xs := [(Operand.tmp 6)]) S (enters_of Try.func12 (by decide) rfl) rfl rfl rfl (there_any _ _) ?_
  rintro _ w2 ⟨rfl, hK⟩; refine ⟨_, rfl, ?_⟩; clear S a; intro a S; replace M := M.grow hK
  refine st_y S rfl rfl rfl (y_not S rfl) ?_; clear S a; intro a S
  refine st_y S rfl rfl rfl (y_move S rfl) ?_; clear S a; intro a S
  refine st_split (t := 9) S rfl ?_ ?_
  · clear S; intro h9 S
    refine st_skip 3 S rfl ?_; clear S a; intro a S
    refine st_y S rfl rfl rfl (y_pickT S rfl rfl) ?_; clear S a; intro a S
    refine st_y S rfl rfl rfl (y_move S rfl) ?_; clear S a; intro a S
    refine st_skip 3 S rfl ?_; clear S a; intro a S
    refine st_y S rfl rfl rfl (y_pickT S rfl rfl) ?_; clear S a; intro a S
    refine wpList_nil ?_
    replace S := S.sub [(0, _), (1, _), (2, _), (18, _)] rfl
    refine then_normal ?_
    refine st_condT S rfl ?_
    refine wp_seq ?_
    -- region 2 epoch.go:34
    refine wp_region_lit ?_
    refine st_y S rfl rfl rfl (y_assign S rfl) ?_; clear S a; intro a S
    refine wpList_nil ?_
    replace S := S.sub [(0, _), (1, _), (18, _), (2, _)] rfl
    refine then_normal ?_
    refine wp_ret ?_
    refine then_ret ?_
    refine end_one S rfl (res_tmp rfl) ?_
    refine ⟨ret_bool (hno ((0 ≤ k.node ∧ k.node ≤ 4) ∧ (1 ≤ k.inc ∧ k.inc ≤ 1048576)) (fun h => ⟨(Kn.may_iff.1 h).1, (Kn.may_iff.1 h).2.1⟩) ?_), M.below⟩
    first
      | (unfold thereB at h9; simp at h9; omega)
      | omega
  · clear S; intro h9 S
    refine st_y S rfl rfl rfl (y_fieldAddr (k := 1) S (by kernel_rfl) rfl) ?_; clear S a; intro a S
    refine st_y S rfl rfl rfl (y_load S (by kernel_rfl) rfl (M.cell 0 rfl rfl)) ?_; clear S a; intro a S
    refine st_y S rfl rfl rfl (y_int S rfl rfl rfl) ?_; clear S a; intro a S
    refine st_y S rfl rfl rfl (y_pickF S rfl rfl) ?_; clear S a; intro a S
    refine st_y S rfl rfl rfl (y_move S rfl) ?_; clear S a; intro a S
    refine st_split (t := 14) S rfl ?_ ?_
    · clear S; intro h14 S
      first | replace h14 := nrmA h14 | replace h14 := nrmB h14 | skip
      first | replace h14 := nrm1 h14 | replace h14 := nrm2 h14 | replace h14 := nrm3 h14 | replace h14 := nrm4 h14 | replace h14 := nrm5 h14 | replace h14 := nrm6 h14 | replace h14 := of_decide_eq_true h14 | replace h14 := of_decide_eq_false h14 | skip
      refine st_skip 3 S rfl ?_; clear S a; intro a S
      refine st_y S rfl rfl rfl (y_pickT S rfl rfl) ?_; clear S a; intro a S
      refine wpList_nil ?_
      replace S := S.sub [(0, _), (1, _), (2, _), (18, _)] rfl
      refine then_normal ?_
      refine st_condT S rfl ?_
      refine wp_seq ?_
      -- region 2 epoch.go:34
      refine wp_region_lit ?_
      refine st_y S rfl rfl rfl (y_assign S rfl) ?_; clear S a; intro a S
      refine wpList_nil ?_
      replace S := S.sub [(0, _), (1, _), (18, _), (2, _)] rfl
      refine then_normal ?_
      refine wp_ret ?_
      refine then_ret ?_
      refine end_one S rfl (res_tmp rfl) ?_
      refine ⟨ret_bool (hno ((0 ≤ k.node ∧ k.node ≤ 4) ∧ (1 ≤ k.inc ∧ k.inc ≤ 1048576)) (fun h => ⟨(Kn.may_iff.1 h).1, (Kn.may_iff.1 h).2.1⟩) ?_), M.below⟩
      first
        | (unfold thereB at h9; simp at h9; omega)
        | omega
    · clear S; intro h14 S
      first | replace h14 := nrmA h14 | replace h14 := nrmB h14 | skip
      first | replace h14 := nrm1 h14 | replace h14 := nrm2 h14 | replace h14 := nrm3 h14 | replace h14 := nrm4 h14 | replace h14 := nrm5 h14 | replace h14 := nrm6 h14 | replace h14 := of_decide_eq_true h14 | replace h14 := of_decide_eq_false h14 | skip
      refine st_y S rfl rfl rfl (y_fieldAddr (k := 1) S (by kernel_rfl) rfl) ?_; clear S a; intro a S
      refine st_y S rfl rfl rfl (y_load S (by kernel_rfl) rfl (M.cell 0 rfl rfl)) ?_; clear S a; intro a S
      refine st_y S rfl rfl rfl (y_int S rfl rfl rfl) ?_; clear S a; intro a S
      refine st_y S rfl rfl rfl (y_pickF S rfl rfl) ?_; clear S a; intro a S
      refine wpList_nil ?_
      replace S := S.sub [(0, _), (1, _), (2, _), (18, _)] rfl
      refine then_normal ?_
      refine st_split (t := 18) S rfl ?_ ?_
      · clear S; intro h18 S
        first | replace h18 := nrmA h18 | replace h18 := nrmB h18 | skip
        first | replace h18 := nrm1 h18 | replace h18 := nrm2 h18 | replace h18 := nrm3 h18 | replace h18 := nrm4 h18 | replace h18 := nrm5 h18 | replace h18 := nrm6 h18 | replace h18 := of_decide_eq_true h18 | replace h18 := of_decide_eq_false h18 | skip
        refine st_condT S rfl ?_
        refine wp_seq ?_
        -- region 2 epoch.go:34
        refine wp_region_lit ?_
        refine st_y S rfl rfl rfl (y_assign S rfl) ?_; clear S a; intro a S
        refine wpList_nil ?_
        replace S := S.sub [(0, _), (1, _), (18, _), (2, _)] rfl
        refine then_normal ?_
        refine wp_ret ?_
        refine then_ret ?_
        refine end_one S rfl (res_tmp rfl) ?_
        refine ⟨ret_bool (hno ((0 ≤ k.node ∧ k.node ≤ 4) ∧ (1 ≤ k.inc ∧ k.inc ≤ 1048576)) (fun h => ⟨(Kn.may_iff.1 h).1, (Kn.may_iff.1 h).2.1⟩) ?_), M.below⟩
        first
          | (unfold thereB at h9; simp at h9; omega)
          | omega
      · clear S; intro h18 S
        first | replace h18 := nrmA h18 | replace h18 := nrmB h18 | skip
        first | replace h18 := nrm1 h18 | replace h18 := nrm2 h18 | replace h18 := nrm3 h18 | replace h18 := nrm4 h18 | replace h18 := nrm5 h18 | replace h18 := nrm6 h18 | replace h18 := of_decide_eq_true h18 | replace h18 := of_decide_eq_false h18 | skip
        refine st_condF S rfl ?_
        refine wp_skip ?_
        refine then_normal ?_
        refine wp_seq ?_
        refine wp_seq ?_
        -- region 3 epoch.go:36
        have hth : 0 ≤ k.node ∧ k.node ≤ 4 := by unfold thereB at h9; simpa using h9
        refine wp_region_lit ?_
        refine st_y S rfl rfl rfl (y_fieldAddr (k := 2) S (by kernel_rfl) rfl) ?_; clear S a; intro a S
        refine st_y S rfl rfl rfl (y_loadAgg (cs := [_, _, _, _, _]) S (by kernel_rfl) rfl rfl (M.cellsAt (k := 5) 0 rfl rfl)) ?_; clear S a; intro a S
        refine st_y S rfl rfl rfl (y_move S rfl) ?_; clear S a; intro a S
        refine wpList_nil ?_
        replace S := S.sub [(0, _), (1, _), (2, _), (18, _), (20, _), (21, _)] rfl
        refine then_normal ?_
        refine wp_block ?_
        refine wp_loop_g (fun q a w' => ∃ (j : Nat), j ≤ 5 ∧ q = 5 - j ∧ Sees 31 a [(20, .agg k.ofL.toArray), (21, .int .i64 (j : Int))] ∧ Mem w w' [] ∧ ∀ i, i < j → 0 ≤ k.of i ∧ k.of i ≤ 1048576) (5) ?_ ?_
        · skip
          exact ⟨0, by omega, rfl, S.sub _ rfl, M.drop 0, fun i h => by omega⟩
        · clear S M a; intro m a wl
          rintro ⟨j, hj, rfl, S, M, hpre⟩
          refine wp_seq ?_
          -- region 4 epoch.go:36
          refine wp_region_lit ?_
          refine st_y S rfl rfl rfl (y_int S rfl rfl rfl) ?_; clear S a; intro a S
          refine wpList_nil ?_
          replace S := S.sub [(20, _), (21, _), (22, _)] rfl
          refine then_normal ?_
          refine wp_seq ?_
          refine st_split (t := 22) S rfl ?_ ?_
          · clear S; intro h22 S
            first | replace h22 := nrmA h22 | replace h22 := nrmB h22 | skip
            first | replace h22 := nrm1 h22 | replace h22 := nrm2 h22 | replace h22 := nrm3 h22 | replace h22 := nrm4 h22 | replace h22 := nrm5 h22 | replace h22 := nrm6 h22 | replace h22 := of_decide_eq_true h22 | replace h22 := of_decide_eq_false h22 | skip
            refine st_condT S rfl ?_
            refine wp_skip ?_
            refine then_normal ?_
            refine wp_seq ?_
            refine wp_block ?_
            refine wp_seq ?_
            -- region 5 epoch.go:36
            refine wp_region_lit ?_
            refine st_y S rfl rfl rfl (y_indexP (m := 5) (sz := 1) S (by kernel_rfl) (fun e he => by cases he.symm.trans (show _ = some (.array 5 3) by kernel_rfl); kernel_rfl) rfl rfl (by first | omega | (simp; done) | (simp; omega)) (kn_elem (by omega))) ?_; clear S a; intro a S
            refine st_y S rfl rfl rfl (y_assign S rfl) ?_; clear S a; intro a S
            refine wpList_nil ?_
            replace S := S.sub [(20, _), (21, _), (22, _), (4, _)] rfl
            refine then_normal ?_
            refine wp_seq ?_
            -- region 6 epoch.go:37
            refine wp_region_lit ?_
            refine st_y S rfl rfl rfl (y_move S rfl) ?_; clear S a; intro a S
            refine st_y S rfl rfl rfl (y_int S rfl rfl rfl) ?_; clear S a; intro a S
            refine st_y S rfl rfl rfl (y_move S rfl) ?_; clear S a; intro a S
            refine st_split (t := 26) S rfl ?_ ?_
            · clear S; intro h26 S
              first | replace h26 := nrmA h26 | replace h26 := nrmB h26 | skip
              first | replace h26 := nrm1 h26 | replace h26 := nrm2 h26 | replace h26 := nrm3 h26 | replace h26 := nrm4 h26 | replace h26 := nrm5 h26 | replace h26 := nrm6 h26 | replace h26 := of_decide_eq_true h26 | replace h26 := of_decide_eq_false h26 | skip
              refine st_skip 2 S rfl ?_; clear S a; intro a S
              refine st_y S rfl rfl rfl (y_pickT S rfl rfl) ?_; clear S a; intro a S
              refine wpList_nil ?_
              replace S := S.sub [(20, _), (21, _), (22, _), (4, _), (29, _)] rfl
              refine then_normal ?_
              refine st_condT S rfl ?_
              refine wp_seq ?_
              -- region 7 epoch.go:38
              refine wp_region_lit ?_
              refine st_y S rfl rfl rfl (y_assign S rfl) ?_; clear S a; intro a S
              refine wpList_nil ?_
              replace S := S.sub [(20, _), (21, _), (22, _), (4, _), (29, _), (2, _)] rfl
              refine then_normal ?_
              refine wp_ret ?_
              refine block_ret ?_
              refine then_ret ?_
              refine then_ret ?_
              refine block_ret ?_
              refine then_ret ?_
              refine end_one S rfl (res_tmp rfl) ?_
              refine ⟨ret_bool (hno (0 ≤ k.of j ∧ k.of j ≤ 1048576) (fun h => (Kn.may_iff.1 h).2.2 j (by omega)) (by omega)), M.below⟩
            · clear S; intro h26 S
              first | replace h26 := nrmA h26 | replace h26 := nrmB h26 | skip
              first | replace h26 := nrm1 h26 | replace h26 := nrm2 h26 | replace h26 := nrm3 h26 | replace h26 := nrm4 h26 | replace h26 := nrm5 h26 | replace h26 := nrm6 h26 | replace h26 := of_decide_eq_true h26 | replace h26 := of_decide_eq_false h26 | skip
              refine st_y S rfl rfl rfl (y_move S rfl) ?_; clear S a; intro a S
              refine st_y S rfl rfl rfl (y_int S rfl rfl rfl) ?_; clear S a; intro a S
              refine st_y S rfl rfl rfl (y_pickF S rfl rfl) ?_; clear S a; intro a S
              refine wpList_nil ?_
              replace S := S.sub [(20, _), (21, _), (22, _), (4, _), (29, _)] rfl
              refine then_normal ?_
              refine st_split (t := 29) S rfl ?_ ?_
              · clear S; intro h29 S
                first | replace h29 := nrmA h29 | replace h29 := nrmB h29 | skip
                first | replace h29 := nrm1 h29 | replace h29 := nrm2 h29 | replace h29 := nrm3 h29 | replace h29 := nrm4 h29 | replace h29 := nrm5 h29 | replace h29 := nrm6 h29 | replace h29 := of_decide_eq_true h29 | replace h29 := of_decide_eq_false h29 | skip
                refine st_condT S rfl ?_
                refine wp_seq ?_
                -- region 7 epoch.go:38
                refine wp_region_lit ?_
                refine st_y S rfl rfl rfl (y_assign S rfl) ?_; clear S a; intro a S
                refine wpList_nil ?_
                replace S := S.sub [(20, _), (21, _), (22, _), (4, _), (29, _), (2, _)] rfl
                refine then_normal ?_
                refine wp_ret ?_
                refine block_ret ?_
                refine then_ret ?_
                refine then_ret ?_
                refine block_ret ?_
                refine then_ret ?_
                refine end_one S rfl (res_tmp rfl) ?_
                refine ⟨ret_bool (hno (0 ≤ k.of j ∧ k.of j ≤ 1048576) (fun h => (Kn.may_iff.1 h).2.2 j (by omega)) (by omega)), M.below⟩
              · clear S; intro h29 S
                first | replace h29 := nrmA h29 | replace h29 := nrmB h29 | skip
                first | replace h29 := nrm1 h29 | replace h29 := nrm2 h29 | replace h29 := nrm3 h29 | replace h29 := nrm4 h29 | replace h29 := nrm5 h29 | replace h29 := nrm6 h29 | replace h29 := of_decide_eq_true h29 | replace h29 := of_decide_eq_false h29 | skip
                refine st_condF S rfl ?_
                refine wp_skip ?_
                refine block_normal ?_
                refine then_normal ?_
                -- region 8 epoch.go:36
                refine wp_region_lit ?_
                (first | refine st_y S rfl rfl rfl (y_addN S rfl rfl (by omega)) ?_ | refine st_y S rfl rfl rfl (y_int S rfl rfl rfl) ?_); clear S a; intro a S
                refine st_y S rfl rfl rfl (y_move S rfl) ?_; clear S a; intro a S
                refine wpList_nil ?_
                replace S := S.sub [(20, _), (22, _), (4, _), (29, _), (21, _)] rfl
                refine then_normal ?_
                refine ⟨5 - (j + 1), by omega, j + 1, by omega, rfl, S.sub _ rfl, M, fun i hi => ?_⟩
                rcases Nat.lt_or_ge i j with h | h
                · exact hpre i h
                · obtain rfl : i = j := by omega
                  omega
          · clear S; intro h22 S
            first | replace h22 := nrmA h22 | replace h22 := nrmB h22 | skip
            first | replace h22 := nrm1 h22 | replace h22 := nrm2 h22 | replace h22 := nrm3 h22 | replace h22 := nrm4 h22 | replace h22 := nrm5 h22 | replace h22 := nrm6 h22 | replace h22 := of_decide_eq_true h22 | replace h22 := of_decide_eq_false h22 | skip
            refine st_condF S rfl ?_
            refine wp_exit ?_
            refine then_exit ?_
            refine then_exit ?_
            refine block_hit ?_
            refine then_normal ?_
            refine wp_seq ?_
            -- region 9 epoch.go:41
            refine wp_region_lit ?_
            refine st_y S rfl rfl rfl (y_assign S rfl) ?_; clear S a; intro a S
            refine wpList_nil ?_
            replace S := S.sub [(20, _), (21, _), (22, _), (2, _)] rfl
            refine then_normal ?_
            refine wp_ret ?_
            refine end_one S rfl (res_tmp rfl) ?_
            obtain rfl : j = 5 := by omega
            exact ⟨ret_bool (Kn.may_iff.2 ⟨hth, by omega, hpre⟩).symm, M.below⟩
def knZero : Kn := ⟨0, 0, 0, 0, 0, 0, 0⟩
def newK (n i : Int) : Kn × Int := if (Kn.may ⟨n, i, 0, 0, 0, 0, 0⟩) = true then (⟨n, i, 0, 0, 0, 0, 0⟩, 0) else (knZero, 2)
theorem new_any (n i : Int) (w : World) : Calls Try.prog 13 #[.int .i64 n, .int .i64 i] w fun e w' => e = .returned (.tuple #[.agg (newK n i).1.cells, .int .i64 (newK n i).2]) ∧ Below w.heap.size w w' := by
  have M := Mem.start w
  refine calls_enter Try.func13 rfl 15 rfl rfl ?_; intro a S
  refine wp_seq ?_
  -- region 0 epoch.go:23
  refine wp_region_lit ?_
  refine st_alloc S M rfl rfl #[.int .i64 0, .int .i64 0, .int .i64 0, .int .i64 0, .int .i64 0, .int .i64 0, .int .i64 0] (by kernel_rfl) ?_; clear S M a; intro a w1 b1 S M hB
  refine st_y S rfl rfl rfl (y_assign S rfl) ?_; clear S a; intro a S
  refine wpList_nil ?_
  replace S := S.sub [(0, _), (1, _), (4, _), (5, _)] rfl
  refine then_normal ?_
  refine wp_seq ?_
  -- region 1 epoch.go:24
  refine wp_region_lit ?_
  refine st_y S rfl rfl rfl (y_move S rfl) ?_; clear S a; intro a S
  refine st_y S rfl rfl rfl (y_move S rfl) ?_; clear S a; intro a S
  refine st_y S rfl rfl rfl (y_build (ps := [(0, (Operand.tmp 7)), (1, (Operand.tmp 8))]) (pl := [(0, 1), (1, 1), (2, 5)]) (z := [.int .i64 0, .int .i64 0, .int .i64 0, .int .i64 0, .int .i64 0, .int .i64 0, .int .i64 0]) (cs := [_, _, _, _, _, _, _]) S (by kernel_rfl) rfl rfl) ?_; clear S a; intro a S
  refine st_alloc S M rfl rfl #[.int .i64 0, .int .i64 0, .int .i64 0, .int .i64 0, .int .i64 0, .int .i64 0, .int .i64 0] (by kernel_rfl) ?_; clear S M a; intro a w2 b2 S M hB
  refine st_store (sz := 7) (us := [_, _, _, _, _, _, _]) S M 0 rfl (by kernel_rfl) rfl rfl rfl rfl rfl rfl (by first | decide | (simp; done) | (simp; omega)) ?_; clear M; intro w3 M
  simp only [putL, List.set_cons_zero, List.set_cons_succ, Nat.reduceAdd] at M
  refine wpList_nil ?_
  replace S := S.sub [(0, _), (1, _), (4, _), (5, _), (6, _)] rfl
  refine then_normal ?_
  refine wp_seq ?_
  refine wp_seq ?_
  -- region 2 epoch.go:25
  refine wp_region_lit ?_
  refine st_y S rfl rfl rfl (y_loadAgg (cs := [_, _, _, _, _, _, _]) S (by kernel_rfl) rfl rfl (M.cellsAt (k := 7) 0 rfl rfl)) ?_; clear S a; intro a S
  refine st_call (xs := [(Operand.tmp 10)]) S (enters_of Try.func6 (by decide) rfl) rfl rfl rfl (mayK_any ⟨n, i, 0, 0, 0, 0, 0⟩ _) ?_
  rintro _ w4 ⟨rfl, hK⟩; refine ⟨_, rfl, ?_⟩; clear S a; intro a S; replace M := M.grow hK
  refine st_y S rfl rfl rfl (y_not S rfl) ?_; clear S a; intro a S
  refine wpList_nil ?_
  replace S := S.sub [(0, _), (1, _), (4, _), (5, _), (6, _), (12, _)] rfl
  refine then_normal ?_
  refine st_split (t := 12) S rfl ?_ ?_
  · clear S; intro h12 S
    refine st_condT S rfl ?_
    refine wp_seq ?_
    -- region 3 epoch.go:26
    refine wp_region_lit ?_
    refine st_y S rfl rfl rfl (y_build (ps := []) (pl := [(0, 1), (1, 1), (2, 5)]) (z := [.int .i64 0, .int .i64 0, .int .i64 0, .int .i64 0, .int .i64 0, .int .i64 0, .int .i64 0]) (cs := [_, _, _, _, _, _, _]) S (by kernel_rfl) rfl rfl) ?_; clear S a; intro a S
    refine st_store (sz := 7) (us := [_, _, _, _, _, _, _]) S M 1 rfl (by kernel_rfl) rfl rfl rfl rfl rfl rfl (by first | decide | (simp; done) | (simp; omega)) ?_; clear M; intro w5 M
    simp only [putL, List.set_cons_zero, List.set_cons_succ, Nat.reduceAdd] at M
    refine st_y S rfl rfl rfl (y_assign S rfl) ?_; clear S a; intro a S
    refine wpList_nil ?_
    replace S := S.sub [(0, _), (1, _), (4, _), (6, _), (12, _), (5, _)] rfl
    refine then_normal ?_
    refine wp_ret ?_
    refine then_ret ?_
    refine end_two S rfl (res_agg (cs := [_, _, _, _, _, _, _]) (by kernel_rfl) rfl rfl (M.cellsAt (k := 7) 1 rfl rfl)) (res_tmp rfl) ?_
    refine ⟨?_, M.below⟩
    unfold newK
    first
      | (rw [if_neg (by simpa using h12)]; rfl)
      | (rw [if_pos (by simpa using h12)])
  · clear S; intro h12 S
    refine st_condF S rfl ?_
    refine wp_skip ?_
    refine then_normal ?_
    refine wp_seq ?_
    -- region 4 epoch.go:28
    refine wp_region_lit ?_
    refine st_y S rfl rfl rfl (y_loadAgg (cs := [_, _, _, _, _, _, _]) S (by kernel_rfl) rfl rfl (M.cellsAt (k := 7) 0 rfl rfl)) ?_; clear S a; intro a S
    refine st_store (sz := 7) (us := [_, _, _, _, _, _, _]) S M 1 rfl (by kernel_rfl) rfl rfl rfl rfl rfl rfl (by first | decide | (simp; done) | (simp; omega)) ?_; clear M; intro w6 M
    simp only [putL, List.set_cons_zero, List.set_cons_succ, Nat.reduceAdd] at M
    refine st_y S rfl rfl rfl (y_assign S rfl) ?_; clear S a; intro a S
    refine wpList_nil ?_
    replace S := S.sub [(0, _), (1, _), (4, _), (6, _), (12, _), (5, _)] rfl
    refine then_normal ?_
    refine wp_ret ?_
    refine end_two S rfl (res_agg (cs := [_, _, _, _, _, _, _]) (by kernel_rfl) rfl rfl (M.cellsAt (k := 7) 1 rfl rfl)) (res_tmp rfl) ?_
    refine ⟨?_, M.below⟩
    unfold newK
    first
      | (rw [if_neg (by simpa using h12)]; rfl)
      | (rw [if_pos (by simpa using h12)])

/-- what is heard: what is known then, how it was heard, a code -/
def hearK (k : Kn) (m : Msg) (x : List Wr) : Kn × Int × Int :=
  if k.may = true ∧ m.may x = true ∧ m.to = k.node then
    if m.inc < k.of m.frm.toNat ∨ (m.your ≠ 0 ∧ m.your ≠ k.inc) then (k, 0, 0)
    else (k.set m.frm.toNat m.inc, if m.inc = k.of m.frm.toNat then 1 else if k.of m.frm.toNat = 0 then 2 else 3, 0)
  else (knZero, 0, 2)
theorem may_frm {m : Msg} {x : List Wr} (h : m.may x = true) : (0 ≤ m.frm ∧ m.frm ≤ 4) ∧ 1 ≤ m.inc := by
  unfold Msg.may at h
  split at h
  · rename_i hh
    obtain ⟨-, -, hb, h1, -⟩ := hh
    unfold betweenB at hb
    split at hb <;> simp only [decide_eq_true_eq] at hb <;> omega
  · cases h
theorem hear_any (k : Kn) (m : Msg) (va : Option Addr) (vn vc : Nat) (x : List Wr) (w : World) (hv : Ws 0 w.heap.size w (.slice va vn vc) x) :
    Calls Try.prog 9 #[.agg k.cells, .agg (m.cells (.slice va vn vc))] w fun e w' => e = .returned (.tuple #[.agg (hearK k m x).1.cells, .int .i8 (hearK k m x).2.1, .int .i64 (hearK k m x).2.2]) ∧ Below w.heap.size w w' := by
  have M := Mem.start w
  refine calls_enter Try.func9 rfl 63 rfl rfl ?_; intro a S
  refine wp_seq ?_
  -- region 0 epoch.go:45
  refine wp_region_lit ?_
  refine st_box S M rfl rfl rfl #[_, _, _, _, _, _, _] rfl ?_; clear S M a; intro a w1 bK S M hB
  refine st_box S M rfl rfl rfl #[_, _, _, _, _, _, _, _, _, _, _, _, _, _, _, _, _, _, _, _, _, _, _, _] rfl ?_; clear S M a; intro a w2 bG S M hB
  refine st_alloc S M rfl rfl #[.int .i64 0, .int .i64 0, .int .i64 0, .int .i64 0, .int .i64 0, .int .i64 0, .int .i64 0] (by kernel_rfl) ?_; clear S M a; intro a w3 bO S M hB
  refine st_y S rfl rfl rfl (y_assign S rfl) ?_; clear S a; intro a S
  refine st_y S rfl rfl rfl (y_assign S rfl) ?_; clear S a; intro a S
  refine wpList_nil ?_
  replace S := S.sub [(0, _), (1, _), (2, _), (3, _), (4, _), (5, _), (6, _)] rfl
  refine then_normal ?_
  refine wp_seq ?_
  refine wp_seq ?_
  -- region 1 epoch.go:46
  refine wp_region_lit ?_
  refine st_y S rfl rfl rfl (y_loadAgg (cs := [_, _, _, _, _, _, _]) S (by kernel_rfl) rfl rfl (M.cellsAt (k := 7) 2 rfl rfl)) ?_; clear S a; intro a S
  refine st_call (xs := [(Operand.tmp 8)]) S (enters_of Try.func6 (by decide) rfl) rfl rfl rfl (mayK_any k _) ?_
  rintro _ w4 ⟨rfl, hK⟩; refine ⟨_, rfl, ?_⟩; clear S a; intro a S; replace M := M.grow hK
  refine st_y S rfl rfl rfl (y_not S rfl) ?_; clear S a; intro a S
  refine st_y S rfl rfl rfl (y_move S rfl) ?_; clear S a; intro a S
  refine st_split (t := 11) S rfl ?_ ?_
  · clear S; intro h11 S
    refine st_skip 3 S rfl ?_; clear S a; intro a S
    refine st_y S rfl rfl rfl (y_pickT S rfl rfl) ?_; clear S a; intro a S
    refine st_y S rfl rfl rfl (y_move S rfl) ?_; clear S a; intro a S
    refine st_skip 5 S rfl ?_; clear S a; intro a S
    refine st_y S rfl rfl rfl (y_pickT S rfl rfl) ?_; clear S a; intro a S
    refine wpList_nil ?_
    replace S := S.sub [(0, _), (1, _), (2, _), (3, _), (4, _), (5, _), (6, _), (22, _)] rfl
    refine then_normal ?_
    refine st_condT S rfl ?_
    refine wp_seq ?_
    -- region 2 epoch.go:47
    refine wp_region_lit ?_
    refine st_y S rfl rfl rfl (y_build (ps := []) (pl := [(0, 1), (1, 1), (2, 5)]) (z := [.int .i64 0, .int .i64 0, .int .i64 0, .int .i64 0, .int .i64 0, .int .i64 0, .int .i64 0]) (cs := [_, _, _, _, _, _, _]) S (by kernel_rfl) rfl rfl) ?_; clear S a; intro a S
    refine st_store (sz := 7) (us := [_, _, _, _, _, _, _]) S M 0 rfl (by kernel_rfl) rfl rfl rfl rfl rfl rfl (by first | decide | (simp; done) | (simp; omega)) ?_; clear M; intro w5 M
    simp only [putL, List.set_cons_zero, List.set_cons_succ, Nat.reduceAdd] at M
    refine st_y S rfl rfl rfl (y_assign S rfl) ?_; clear S a; intro a S
    refine st_y S rfl rfl rfl (y_assign S rfl) ?_; clear S a; intro a S
    refine wpList_nil ?_
    replace S := S.sub [(0, _), (1, _), (2, _), (3, _), (4, _), (22, _), (5, _), (6, _)] rfl
    refine then_normal ?_
    refine wp_ret ?_
    refine then_ret ?_
    refine end_three S rfl (res_agg (cs := [_, _, _, _, _, _, _]) (by kernel_rfl) rfl rfl (M.cellsAt (k := 7) 0 rfl rfl)) (res_tmp rfl) (res_tmp rfl) ?_
    refine ⟨?_, M.below⟩; unfold hearK
    rw [if_neg (by rintro ⟨q1, q2, q3⟩
                   first
                     | (rw [q1] at h11; simp at h11; done)
                     | (rw [q2] at h16; simp at h16; done)
                     | omega)]
    rfl
  · clear S; intro h11 S
    refine st_y S rfl rfl rfl (y_loadAgg (cs := [_, _, _, _, _, _, _, _, _, _, _, _, _, _, _, _, _, _, _, _, _, _, _, _]) S (by kernel_rfl) rfl rfl (M.cellsAt (k := 24) 1 rfl rfl)) ?_; clear S a; intro a S
    refine st_call (xs := [(Operand.tmp 12)]) S (enters_of Try.func15 (by decide) rfl) rfl rfl rfl (mayM_any m va vn vc x _ (M.argW hv)) ?_
    rintro _ w6 ⟨rfl, hK⟩; refine ⟨_, rfl, ?_⟩; clear S a; intro a S; replace M := M.grow hK
    refine st_y S rfl rfl rfl (y_not S rfl) ?_; clear S a; intro a S
    refine st_y S rfl rfl rfl (y_pickF S rfl rfl) ?_; clear S a; intro a S
    refine st_y S rfl rfl rfl (y_move S rfl) ?_; clear S a; intro a S
    refine st_split (t := 16) S rfl ?_ ?_
    · clear S; intro h16 S
      refine st_skip 5 S rfl ?_; clear S a; intro a S
      refine st_y S rfl rfl rfl (y_pickT S rfl rfl) ?_; clear S a; intro a S
      refine wpList_nil ?_
      replace S := S.sub [(0, _), (1, _), (2, _), (3, _), (4, _), (5, _), (6, _), (22, _)] rfl
      refine then_normal ?_
      refine st_condT S rfl ?_
      refine wp_seq ?_
      -- region 2 epoch.go:47
      refine wp_region_lit ?_
      refine st_y S rfl rfl rfl (y_build (ps := []) (pl := [(0, 1), (1, 1), (2, 5)]) (z := [.int .i64 0, .int .i64 0, .int .i64 0, .int .i64 0, .int .i64 0, .int .i64 0, .int .i64 0]) (cs := [_, _, _, _, _, _, _]) S (by kernel_rfl) rfl rfl) ?_; clear S a; intro a S
      refine st_store (sz := 7) (us := [_, _, _, _, _, _, _]) S M 0 rfl (by kernel_rfl) rfl rfl rfl rfl rfl rfl (by first | decide | (simp; done) | (simp; omega)) ?_; clear M; intro w7 M
      simp only [putL, List.set_cons_zero, List.set_cons_succ, Nat.reduceAdd] at M
      refine st_y S rfl rfl rfl (y_assign S rfl) ?_; clear S a; intro a S
      refine st_y S rfl rfl rfl (y_assign S rfl) ?_; clear S a; intro a S
      refine wpList_nil ?_
      replace S := S.sub [(0, _), (1, _), (2, _), (3, _), (4, _), (22, _), (5, _), (6, _)] rfl
      refine then_normal ?_
      refine wp_ret ?_
      refine then_ret ?_
      refine end_three S rfl (res_agg (cs := [_, _, _, _, _, _, _]) (by kernel_rfl) rfl rfl (M.cellsAt (k := 7) 0 rfl rfl)) (res_tmp rfl) (res_tmp rfl) ?_
      refine ⟨?_, M.below⟩; unfold hearK
      rw [if_neg (by rintro ⟨q1, q2, q3⟩
                     first
                       | (rw [q1] at h11; simp at h11; done)
                       | (rw [q2] at h16; simp at h16; done)
                       | omega)]
      rfl
    · clear S; intro h16 S
      refine st_y S rfl rfl rfl (y_fieldAddr (k := 2) S (by kernel_rfl) rfl) ?_; clear S a; intro a S
      refine st_y S rfl rfl rfl (y_load S (by kernel_rfl) rfl (M.cell 1 rfl rfl)) ?_; clear S a; intro a S
      refine st_y S rfl rfl rfl (y_fieldAddr (k := 0) S (by kernel_rfl) rfl) ?_; clear S a; intro a S
      refine st_y S rfl rfl rfl (y_load S (by kernel_rfl) rfl (M.cell 2 rfl rfl)) ?_; clear S a; intro a S
      refine st_y S rfl rfl rfl (y_int S rfl rfl rfl) ?_; clear S a; intro a S
      refine st_y S rfl rfl rfl (y_pickF S rfl rfl) ?_; clear S a; intro a S
      refine wpList_nil ?_
      replace S := S.sub [(0, _), (1, _), (2, _), (3, _), (4, _), (5, _), (6, _), (22, _)] rfl
      refine then_normal ?_
      refine st_split (t := 22) S rfl ?_ ?_
      · clear S; intro h22 S
        first | replace h22 := nrmA h22 | replace h22 := nrmB h22 | skip
        first | replace h22 := nrm1 h22 | replace h22 := nrm2 h22 | replace h22 := nrm3 h22 | replace h22 := nrm4 h22 | replace h22 := nrm5 h22 | replace h22 := nrm6 h22 | replace h22 := of_decide_eq_true h22 | replace h22 := of_decide_eq_false h22 | skip
        refine st_condT S rfl ?_
        refine wp_seq ?_
        -- region 2 epoch.go:47
        refine wp_region_lit ?_
        refine st_y S rfl rfl rfl (y_build (ps := []) (pl := [(0, 1), (1, 1), (2, 5)]) (z := [.int .i64 0, .int .i64 0, .int .i64 0, .int .i64 0, .int .i64 0, .int .i64 0, .int .i64 0]) (cs := [_, _, _, _, _, _, _]) S (by kernel_rfl) rfl rfl) ?_; clear S a; intro a S
        refine st_store (sz := 7) (us := [_, _, _, _, _, _, _]) S M 0 rfl (by kernel_rfl) rfl rfl rfl rfl rfl rfl (by first | decide | (simp; done) | (simp; omega)) ?_; clear M; intro w8 M
        simp only [putL, List.set_cons_zero, List.set_cons_succ, Nat.reduceAdd] at M
        refine st_y S rfl rfl rfl (y_assign S rfl) ?_; clear S a; intro a S
        refine st_y S rfl rfl rfl (y_assign S rfl) ?_; clear S a; intro a S
        refine wpList_nil ?_
        replace S := S.sub [(0, _), (1, _), (2, _), (3, _), (4, _), (22, _), (5, _), (6, _)] rfl
        refine then_normal ?_
        refine wp_ret ?_
        refine then_ret ?_
        refine end_three S rfl (res_agg (cs := [_, _, _, _, _, _, _]) (by kernel_rfl) rfl rfl (M.cellsAt (k := 7) 0 rfl rfl)) (res_tmp rfl) (res_tmp rfl) ?_
        refine ⟨?_, M.below⟩; unfold hearK
        rw [if_neg (by rintro ⟨q1, q2, q3⟩
                       first
                         | (rw [q1] at h11; simp at h11; done)
                         | (rw [q2] at h16; simp at h16; done)
                         | omega)]
        rfl
      · clear S; intro h22 S
        first | replace h22 := nrmA h22 | replace h22 := nrmB h22 | skip
        first | replace h22 := nrm1 h22 | replace h22 := nrm2 h22 | replace h22 := nrm3 h22 | replace h22 := nrm4 h22 | replace h22 := nrm5 h22 | replace h22 := nrm6 h22 | replace h22 := of_decide_eq_true h22 | replace h22 := of_decide_eq_false h22 | skip
        refine st_condF S rfl ?_
        refine wp_skip ?_
        refine then_normal ?_
        refine wp_seq ?_
        -- region 3 epoch.go:49
        have hk : k.may = true := by simpa using h11
        have hm : m.may x = true := by simpa using h16
        have hyes : k.may = true ∧ m.may x = true ∧ m.to = k.node := ⟨hk, hm, by omega⟩
        have hf := may_frm hm
        obtain ⟨F, hF⟩ := Int.eq_ofNat_of_zero_le hf.1.1
        have hFt : m.frm.toNat = F := by rw [hF]; rfl
        refine wp_region_lit ?_
        refine st_y S rfl rfl rfl (y_fieldAddr (k := 1) S (by kernel_rfl) rfl) ?_; clear S a; intro a S
        refine st_y S rfl rfl rfl (y_load S (by kernel_rfl) rfl (M.cell 1 rfl rfl)) ?_; clear S a; intro a S
        refine st_y S rfl rfl rfl (y_fieldAddr (k := 2) S (by kernel_rfl) rfl) ?_; clear S a; intro a S
        rw [hF] at S
        refine st_y S rfl rfl rfl (y_indexA (m := 5) (sz := 1) S (by kernel_rfl) rfl rfl (by first | omega | (simp; done) | (simp; omega))) ?_; clear S a; intro a S
        try simp only [Int.toNat_natCast, Nat.mul_one, Nat.zero_add] at S
        try rw [Int.toNat_natCast] at S
        refine st_y S rfl rfl rfl (y_load S (by kernel_rfl) rfl (M.cell 2 rfl (kn_get (k := k) (by omega)))) ?_; clear S a; intro a S
        refine st_y S rfl rfl rfl (y_assign S rfl) ?_; clear S a; intro a S
        refine wpList_nil ?_
        replace S := S.sub [(0, _), (1, _), (2, _), (3, _), (4, _), (5, _), (6, _), (22, _), (7, _)] rfl
        refine then_normal ?_
        refine wp_seq ?_
        refine wp_seq ?_
        -- region 4 epoch.go:50
        refine wp_region_lit ?_
        refine st_y S rfl rfl rfl (y_fieldAddr (k := 3) S (by kernel_rfl) rfl) ?_; clear S a; intro a S
        refine st_y S rfl rfl rfl (y_load S (by kernel_rfl) rfl (M.cell 1 rfl rfl)) ?_; clear S a; intro a S
        refine st_y S rfl rfl rfl (y_move S rfl) ?_; clear S a; intro a S
        refine st_y S rfl rfl rfl (y_int S rfl rfl rfl) ?_; clear S a; intro a S
        refine st_y S rfl rfl rfl (y_move S rfl) ?_; clear S a; intro a S
        refine st_split (t := 33) S rfl ?_ ?_
        · clear S; intro h33 S
          first | replace h33 := nrmA h33 | replace h33 := nrmB h33 | skip
          first | replace h33 := nrm1 h33 | replace h33 := nrm2 h33 | replace h33 := nrm3 h33 | replace h33 := nrm4 h33 | replace h33 := nrm5 h33 | replace h33 := nrm6 h33 | replace h33 := of_decide_eq_true h33 | replace h33 := of_decide_eq_false h33 | skip
          refine st_skip 3 S rfl ?_; clear S a; intro a S
          refine st_no S rfl rfl rfl ?_; clear S a; intro a S
          refine st_skip 6 S rfl ?_; clear S a; intro a S
          refine st_y S rfl rfl rfl (y_pickT S rfl rfl) ?_; clear S a; intro a S
          refine wpList_nil ?_
          replace S := S.sub [(0, _), (1, _), (2, _), (3, _), (4, _), (5, _), (6, _), (22, _), (7, _), (44, _)] rfl
          refine then_normal ?_
          refine st_condT S rfl ?_
          refine wp_seq ?_
          -- region 5 epoch.go:51
          refine wp_region_lit ?_
          refine st_y S rfl rfl rfl (y_loadAgg (cs := [_, _, _, _, _, _, _]) S (by kernel_rfl) rfl rfl (M.cellsAt (k := 7) 2 rfl rfl)) ?_; clear S a; intro a S
          refine st_store (sz := 7) (us := [_, _, _, _, _, _, _]) S M 0 rfl (by kernel_rfl) rfl rfl rfl rfl rfl rfl (by first | decide | (simp; done) | (simp; omega)) ?_; clear M; intro w9 M
          simp only [putL, List.set_cons_zero, List.set_cons_succ, Nat.reduceAdd] at M
          refine st_y S rfl rfl rfl (y_assign S rfl) ?_; clear S a; intro a S
          refine st_y S rfl rfl rfl (y_assign S rfl) ?_; clear S a; intro a S
          refine wpList_nil ?_
          replace S := S.sub [(0, _), (1, _), (2, _), (3, _), (4, _), (22, _), (7, _), (44, _), (5, _), (6, _)] rfl
          refine then_normal ?_
          refine wp_ret ?_
          refine then_ret ?_
          refine end_three S rfl (res_agg (cs := [_, _, _, _, _, _, _]) (by kernel_rfl) rfl rfl (M.cellsAt (k := 7) 0 rfl rfl)) (res_tmp rfl) (res_tmp rfl) ?_
          refine ⟨?_, M.below⟩; unfold hearK; rw [if_pos hyes, hFt, if_pos (by omega)]
        · clear S; intro h33 S
          first | replace h33 := nrmA h33 | replace h33 := nrmB h33 | skip
          first | replace h33 := nrm1 h33 | replace h33 := nrm2 h33 | replace h33 := nrm3 h33 | replace h33 := nrm4 h33 | replace h33 := nrm5 h33 | replace h33 := nrm6 h33 | replace h33 := of_decide_eq_true h33 | replace h33 := of_decide_eq_false h33 | skip
          refine st_y S rfl rfl rfl (y_fieldAddr (k := 4) S (by kernel_rfl) rfl) ?_; clear S a; intro a S
          refine st_y S rfl rfl rfl (y_load S (by kernel_rfl) rfl (M.cell 1 rfl rfl)) ?_; clear S a; intro a S
          refine st_y S rfl rfl rfl (y_int S rfl rfl rfl) ?_; clear S a; intro a S
          refine st_y S rfl rfl rfl (y_move S rfl) ?_; clear S a; intro a S
          refine st_split (t := 37) S rfl ?_ ?_
          · clear S; intro h37 S
            first | replace h37 := nrmA h37 | replace h37 := nrmB h37 | skip
            first | replace h37 := nrm1 h37 | replace h37 := nrm2 h37 | replace h37 := nrm3 h37 | replace h37 := nrm4 h37 | replace h37 := nrm5 h37 | replace h37 := nrm6 h37 | replace h37 := of_decide_eq_true h37 | replace h37 := of_decide_eq_false h37 | skip
            refine st_y S rfl rfl rfl (y_fieldAddr (k := 4) S (by kernel_rfl) rfl) ?_; clear S a; intro a S
            refine st_y S rfl rfl rfl (y_load S (by kernel_rfl) rfl (M.cell 1 rfl rfl)) ?_; clear S a; intro a S
            refine st_y S rfl rfl rfl (y_fieldAddr (k := 1) S (by kernel_rfl) rfl) ?_; clear S a; intro a S
            refine st_y S rfl rfl rfl (y_load S (by kernel_rfl) rfl (M.cell 2 rfl rfl)) ?_; clear S a; intro a S
            refine st_y S rfl rfl rfl (y_int S rfl rfl rfl) ?_; clear S a; intro a S
            refine st_y S rfl rfl rfl (y_pickT S rfl rfl) ?_; clear S a; intro a S
            refine st_y S rfl rfl rfl (y_pickF S rfl rfl) ?_; clear S a; intro a S
            refine wpList_nil ?_
            replace S := S.sub [(0, _), (1, _), (2, _), (3, _), (4, _), (5, _), (6, _), (22, _), (7, _), (44, _)] rfl
            refine then_normal ?_
            refine st_split (t := 44) S rfl ?_ ?_
            · clear S; intro h44 S
              first | replace h44 := nrmA h44 | replace h44 := nrmB h44 | skip
              first | replace h44 := nrm1 h44 | replace h44 := nrm2 h44 | replace h44 := nrm3 h44 | replace h44 := nrm4 h44 | replace h44 := nrm5 h44 | replace h44 := nrm6 h44 | replace h44 := of_decide_eq_true h44 | replace h44 := of_decide_eq_false h44 | skip
              refine st_condT S rfl ?_
              refine wp_seq ?_
              -- region 5 epoch.go:51
              refine wp_region_lit ?_
              refine st_y S rfl rfl rfl (y_loadAgg (cs := [_, _, _, _, _, _, _]) S (by kernel_rfl) rfl rfl (M.cellsAt (k := 7) 2 rfl rfl)) ?_; clear S a; intro a S
              refine st_store (sz := 7) (us := [_, _, _, _, _, _, _]) S M 0 rfl (by kernel_rfl) rfl rfl rfl rfl rfl rfl (by first | decide | (simp; done) | (simp; omega)) ?_; clear M; intro w10 M
              simp only [putL, List.set_cons_zero, List.set_cons_succ, Nat.reduceAdd] at M
              refine st_y S rfl rfl rfl (y_assign S rfl) ?_; clear S a; intro a S
              refine st_y S rfl rfl rfl (y_assign S rfl) ?_; clear S a; intro a S
              refine wpList_nil ?_
              replace S := S.sub [(0, _), (1, _), (2, _), (3, _), (4, _), (22, _), (7, _), (44, _), (5, _), (6, _)] rfl
              refine then_normal ?_
              refine wp_ret ?_
              refine then_ret ?_
              refine end_three S rfl (res_agg (cs := [_, _, _, _, _, _, _]) (by kernel_rfl) rfl rfl (M.cellsAt (k := 7) 0 rfl rfl)) (res_tmp rfl) (res_tmp rfl) ?_
              refine ⟨?_, M.below⟩; unfold hearK; rw [if_pos hyes, hFt, if_pos (by omega)]
            · clear S; intro h44 S
              first | replace h44 := nrmA h44 | replace h44 := nrmB h44 | skip
              first | replace h44 := nrm1 h44 | replace h44 := nrm2 h44 | replace h44 := nrm3 h44 | replace h44 := nrm4 h44 | replace h44 := nrm5 h44 | replace h44 := nrm6 h44 | replace h44 := of_decide_eq_true h44 | replace h44 := of_decide_eq_false h44 | skip
              refine st_condF S rfl ?_
              refine wp_skip ?_
              refine then_normal ?_
              refine wp_seq ?_
              -- region 6 epoch.go:53
              refine wp_region_lit ?_
              refine st_y S rfl rfl rfl (y_fieldAddr (k := 1) S (by kernel_rfl) rfl) ?_; clear S a; intro a S
              refine st_y S rfl rfl rfl (y_load S (by kernel_rfl) rfl (M.cell 1 rfl rfl)) ?_; clear S a; intro a S
              refine st_y S rfl rfl rfl (y_fieldAddr (k := 3) S (by kernel_rfl) rfl) ?_; clear S a; intro a S
              refine st_y S rfl rfl rfl (y_load S (by kernel_rfl) rfl (M.cell 1 rfl rfl)) ?_; clear S a; intro a S
              refine st_y S rfl rfl rfl (y_fieldAddr (k := 2) S (by kernel_rfl) rfl) ?_; clear S a; intro a S
              rw [hF] at S
              refine st_y S rfl rfl rfl (y_indexA (m := 5) (sz := 1) S (by kernel_rfl) rfl rfl (by first | omega | (simp; done) | (simp; omega))) ?_; clear S a; intro a S
              try simp only [Int.toNat_natCast, Nat.mul_one, Nat.zero_add] at S
              refine st_store (sz := 1) (us := [_]) S M 2 rfl (by kernel_rfl) rfl rfl rfl rfl rfl rfl (by simp; omega) ?_; clear M; intro w11 M
              simp only [List.set_cons_zero, List.set_cons_succ] at M
              refine wpList_nil ?_
              replace S := S.sub [(0, _), (1, _), (2, _), (3, _), (4, _), (5, _), (6, _), (22, _), (7, _), (44, _)] rfl
              refine then_normal ?_
              refine wp_seq ?_
              refine wp_block ?_
              refine wp_seq ?_
              -- region 7 epoch.go:55
              refine wp_region_lit ?_
              have e := kn_put (k := k) (x := F) (by omega) m.inc
              replace M := M.eqH (H' := [.blk bO (knZero.cells) 24, .blk bG (m.cells (.slice va vn vc)) 36, .blk bK (k.set F m.inc).cells 24]) (by
                have e2 : (putL k.cells.toList (2 + F) [.int .i64 m.inc]).toArray = (k.set F m.inc).cells := by rw [e]
                simp only [knZero]
                first
                  | (rw [← e2]; rfl)
                  | (simp only [← e2]; done))
              have hno : ¬ (m.inc < k.of F ∨ (m.your ≠ 0 ∧ m.your ≠ k.inc)) := by omega
              refine st_y S rfl rfl rfl (y_fieldAddr (k := 3) S (by kernel_rfl) rfl) ?_; clear S a; intro a S
              refine st_y S rfl rfl rfl (y_load S (by kernel_rfl) rfl (M.cell 1 rfl rfl)) ?_; clear S a; intro a S
              refine st_y S rfl rfl rfl (y_move S rfl) ?_; clear S a; intro a S
              refine st_y S rfl rfl rfl (y_int S rfl rfl rfl) ?_; clear S a; intro a S
              refine st_y S rfl rfl rfl (y_assign S rfl) ?_; clear S a; intro a S
              refine wpList_nil ?_
              replace S := S.sub [(0, _), (1, _), (2, _), (3, _), (4, _), (5, _), (6, _), (22, _), (7, _), (44, _), (52, _)] rfl
              refine then_normal ?_
              refine st_split (t := 52) S rfl ?_ ?_
              · clear S; intro h52 S
                first | replace h52 := nrmA h52 | replace h52 := nrmB h52 | skip
                first | replace h52 := nrm1 h52 | replace h52 := nrm2 h52 | replace h52 := nrm3 h52 | replace h52 := nrm4 h52 | replace h52 := nrm5 h52 | replace h52 := nrm6 h52 | replace h52 := of_decide_eq_true h52 | replace h52 := of_decide_eq_false h52 | skip
                refine st_condT S rfl ?_
                refine wp_seq ?_
                -- region 8 epoch.go:56
                refine wp_region_lit ?_
                refine st_y S rfl rfl rfl (y_loadAgg (cs := [_, _, _, _, _, _, _]) S (by kernel_rfl) rfl rfl (M.cellsAt (k := 7) 2 rfl rfl)) ?_; clear S a; intro a S
                refine st_store (sz := 7) (us := [_, _, _, _, _, _, _]) S M 0 rfl (by kernel_rfl) rfl rfl rfl rfl rfl rfl (by first | decide | (simp; done) | (simp; omega)) ?_; clear M; intro w12 M
                simp only [putL, List.set_cons_zero, List.set_cons_succ, Nat.reduceAdd] at M
                refine st_y S rfl rfl rfl (y_assign S rfl) ?_; clear S a; intro a S
                refine st_y S rfl rfl rfl (y_assign S rfl) ?_; clear S a; intro a S
                refine wpList_nil ?_
                replace S := S.sub [(0, _), (1, _), (2, _), (3, _), (4, _), (22, _), (7, _), (44, _), (52, _), (5, _), (6, _)] rfl
                refine then_normal ?_
                refine wp_ret ?_
                refine block_ret ?_
                refine then_ret ?_
                refine end_three S rfl (res_agg (cs := [_, _, _, _, _, _, _]) (by kernel_rfl) rfl rfl (M.cellsAt (k := 7) 0 rfl rfl)) (res_tmp rfl) (res_tmp rfl) ?_
                refine ⟨?_, M.below⟩; unfold hearK; rw [if_pos hyes, hFt, if_neg hno, if_pos (by assumption)]
              · clear S; intro h52 S
                first | replace h52 := nrmA h52 | replace h52 := nrmB h52 | skip
                first | replace h52 := nrm1 h52 | replace h52 := nrm2 h52 | replace h52 := nrm3 h52 | replace h52 := nrm4 h52 | replace h52 := nrm5 h52 | replace h52 := nrm6 h52 | replace h52 := of_decide_eq_true h52 | replace h52 := of_decide_eq_false h52 | skip
                refine st_condF S rfl ?_
                refine wp_seq ?_
                -- region 9 epoch.go:57
                refine wp_region_lit ?_
                refine st_y S rfl rfl rfl (y_move S rfl) ?_; clear S a; intro a S
                refine st_y S rfl rfl rfl (y_int S rfl rfl rfl) ?_; clear S a; intro a S
                refine st_y S rfl rfl rfl (y_assign S rfl) ?_; clear S a; intro a S
                refine wpList_nil ?_
                replace S := S.sub [(0, _), (1, _), (2, _), (3, _), (4, _), (5, _), (6, _), (22, _), (7, _), (44, _), (52, _), (58, _)] rfl
                refine then_normal ?_
                refine st_split (t := 58) S rfl ?_ ?_
                · clear S; intro h58 S
                  first | replace h58 := nrmA h58 | replace h58 := nrmB h58 | skip
                  first | replace h58 := nrm1 h58 | replace h58 := nrm2 h58 | replace h58 := nrm3 h58 | replace h58 := nrm4 h58 | replace h58 := nrm5 h58 | replace h58 := nrm6 h58 | replace h58 := of_decide_eq_true h58 | replace h58 := of_decide_eq_false h58 | skip
                  refine st_condT S rfl ?_
                  refine wp_seq ?_
                  -- region 10 epoch.go:58
                  refine wp_region_lit ?_
                  refine st_y S rfl rfl rfl (y_loadAgg (cs := [_, _, _, _, _, _, _]) S (by kernel_rfl) rfl rfl (M.cellsAt (k := 7) 2 rfl rfl)) ?_; clear S a; intro a S
                  refine st_store (sz := 7) (us := [_, _, _, _, _, _, _]) S M 0 rfl (by kernel_rfl) rfl rfl rfl rfl rfl rfl (by first | decide | (simp; done) | (simp; omega)) ?_; clear M; intro w13 M
                  simp only [putL, List.set_cons_zero, List.set_cons_succ, Nat.reduceAdd] at M
                  refine st_y S rfl rfl rfl (y_assign S rfl) ?_; clear S a; intro a S
                  refine st_y S rfl rfl rfl (y_assign S rfl) ?_; clear S a; intro a S
                  refine wpList_nil ?_
                  replace S := S.sub [(0, _), (1, _), (2, _), (3, _), (4, _), (22, _), (7, _), (44, _), (52, _), (58, _), (5, _), (6, _)] rfl
                  refine then_normal ?_
                  refine wp_ret ?_
                  refine block_ret ?_
                  refine then_ret ?_
                  refine end_three S rfl (res_agg (cs := [_, _, _, _, _, _, _]) (by kernel_rfl) rfl rfl (M.cellsAt (k := 7) 0 rfl rfl)) (res_tmp rfl) (res_tmp rfl) ?_
                  refine ⟨?_, M.below⟩; unfold hearK; rw [if_pos hyes, hFt, if_neg hno, if_neg (by assumption), if_pos (by assumption)]
                · clear S; intro h58 S
                  first | replace h58 := nrmA h58 | replace h58 := nrmB h58 | skip
                  first | replace h58 := nrm1 h58 | replace h58 := nrm2 h58 | replace h58 := nrm3 h58 | replace h58 := nrm4 h58 | replace h58 := nrm5 h58 | replace h58 := nrm6 h58 | replace h58 := of_decide_eq_true h58 | replace h58 := of_decide_eq_false h58 | skip
                  refine st_condF S rfl ?_
                  refine wp_skip ?_
                  refine block_normal ?_
                  refine then_normal ?_
                  refine wp_seq ?_
                  -- region 11 epoch.go:60
                  refine wp_region_lit ?_
                  refine st_y S rfl rfl rfl (y_loadAgg (cs := [_, _, _, _, _, _, _]) S (by kernel_rfl) rfl rfl (M.cellsAt (k := 7) 2 rfl rfl)) ?_; clear S a; intro a S
                  refine st_store (sz := 7) (us := [_, _, _, _, _, _, _]) S M 0 rfl (by kernel_rfl) rfl rfl rfl rfl rfl rfl (by first | decide | (simp; done) | (simp; omega)) ?_; clear M; intro w14 M
                  simp only [putL, List.set_cons_zero, List.set_cons_succ, Nat.reduceAdd] at M
                  refine st_y S rfl rfl rfl (y_assign S rfl) ?_; clear S a; intro a S
                  refine st_y S rfl rfl rfl (y_assign S rfl) ?_; clear S a; intro a S
                  refine wpList_nil ?_
                  replace S := S.sub [(0, _), (1, _), (2, _), (3, _), (4, _), (22, _), (7, _), (44, _), (52, _), (58, _), (5, _), (6, _)] rfl
                  refine then_normal ?_
                  refine wp_ret ?_
                  refine end_three S rfl (res_agg (cs := [_, _, _, _, _, _, _]) (by kernel_rfl) rfl rfl (M.cellsAt (k := 7) 0 rfl rfl)) (res_tmp rfl) (res_tmp rfl) ?_
                  refine ⟨?_, M.below⟩; unfold hearK; rw [if_pos hyes, hFt, if_neg hno, if_neg (by assumption), if_neg (by assumption)]
          · clear S; intro h37 S
            first | replace h37 := nrmA h37 | replace h37 := nrmB h37 | skip
            first | replace h37 := nrm1 h37 | replace h37 := nrm2 h37 | replace h37 := nrm3 h37 | replace h37 := nrm4 h37 | replace h37 := nrm5 h37 | replace h37 := nrm6 h37 | replace h37 := of_decide_eq_true h37 | replace h37 := of_decide_eq_false h37 | skip
            refine st_skip 5 S rfl ?_; clear S a; intro a S
            refine st_y S rfl rfl rfl (y_pickF S rfl rfl) ?_; clear S a; intro a S
            refine st_y S rfl rfl rfl (y_pickF S rfl rfl) ?_; clear S a; intro a S
            refine wpList_nil ?_
            replace S := S.sub [(0, _), (1, _), (2, _), (3, _), (4, _), (5, _), (6, _), (22, _), (7, _), (44, _)] rfl
            refine then_normal ?_
            refine st_condF S rfl ?_
            refine wp_skip ?_
            refine then_normal ?_
            refine wp_seq ?_
            -- region 6 epoch.go:53
            refine wp_region_lit ?_
            refine st_y S rfl rfl rfl (y_fieldAddr (k := 1) S (by kernel_rfl) rfl) ?_; clear S a; intro a S
            refine st_y S rfl rfl rfl (y_load S (by kernel_rfl) rfl (M.cell 1 rfl rfl)) ?_; clear S a; intro a S
            refine st_y S rfl rfl rfl (y_fieldAddr (k := 3) S (by kernel_rfl) rfl) ?_; clear S a; intro a S
            refine st_y S rfl rfl rfl (y_load S (by kernel_rfl) rfl (M.cell 1 rfl rfl)) ?_; clear S a; intro a S
            refine st_y S rfl rfl rfl (y_fieldAddr (k := 2) S (by kernel_rfl) rfl) ?_; clear S a; intro a S
            rw [hF] at S
            refine st_y S rfl rfl rfl (y_indexA (m := 5) (sz := 1) S (by kernel_rfl) rfl rfl (by first | omega | (simp; done) | (simp; omega))) ?_; clear S a; intro a S
            try simp only [Int.toNat_natCast, Nat.mul_one, Nat.zero_add] at S
            refine st_store (sz := 1) (us := [_]) S M 2 rfl (by kernel_rfl) rfl rfl rfl rfl rfl rfl (by simp; omega) ?_; clear M; intro w15 M
            simp only [List.set_cons_zero, List.set_cons_succ] at M
            refine wpList_nil ?_
            replace S := S.sub [(0, _), (1, _), (2, _), (3, _), (4, _), (5, _), (6, _), (22, _), (7, _), (44, _)] rfl
            refine then_normal ?_
            refine wp_seq ?_
            refine wp_block ?_
            refine wp_seq ?_
            -- region 7 epoch.go:55
            refine wp_region_lit ?_
            have e := kn_put (k := k) (x := F) (by omega) m.inc
            replace M := M.eqH (H' := [.blk bO (knZero.cells) 24, .blk bG (m.cells (.slice va vn vc)) 36, .blk bK (k.set F m.inc).cells 24]) (by
              have e2 : (putL k.cells.toList (2 + F) [.int .i64 m.inc]).toArray = (k.set F m.inc).cells := by rw [e]
              simp only [knZero]
              first
                | (rw [← e2]; rfl)
                | (simp only [← e2]; done))
            have hno : ¬ (m.inc < k.of F ∨ (m.your ≠ 0 ∧ m.your ≠ k.inc)) := by omega
            refine st_y S rfl rfl rfl (y_fieldAddr (k := 3) S (by kernel_rfl) rfl) ?_; clear S a; intro a S
            refine st_y S rfl rfl rfl (y_load S (by kernel_rfl) rfl (M.cell 1 rfl rfl)) ?_; clear S a; intro a S
            refine st_y S rfl rfl rfl (y_move S rfl) ?_; clear S a; intro a S
            refine st_y S rfl rfl rfl (y_int S rfl rfl rfl) ?_; clear S a; intro a S
            refine st_y S rfl rfl rfl (y_assign S rfl) ?_; clear S a; intro a S
            refine wpList_nil ?_
            replace S := S.sub [(0, _), (1, _), (2, _), (3, _), (4, _), (5, _), (6, _), (22, _), (7, _), (44, _), (52, _)] rfl
            refine then_normal ?_
            refine st_split (t := 52) S rfl ?_ ?_
            · clear S; intro h52 S
              first | replace h52 := nrmA h52 | replace h52 := nrmB h52 | skip
              first | replace h52 := nrm1 h52 | replace h52 := nrm2 h52 | replace h52 := nrm3 h52 | replace h52 := nrm4 h52 | replace h52 := nrm5 h52 | replace h52 := nrm6 h52 | replace h52 := of_decide_eq_true h52 | replace h52 := of_decide_eq_false h52 | skip
              refine st_condT S rfl ?_
              refine wp_seq ?_
              -- region 8 epoch.go:56
              refine wp_region_lit ?_
              refine st_y S rfl rfl rfl (y_loadAgg (cs := [_, _, _, _, _, _, _]) S (by kernel_rfl) rfl rfl (M.cellsAt (k := 7) 2 rfl rfl)) ?_; clear S a; intro a S
              refine st_store (sz := 7) (us := [_, _, _, _, _, _, _]) S M 0 rfl (by kernel_rfl) rfl rfl rfl rfl rfl rfl (by first | decide | (simp; done) | (simp; omega)) ?_; clear M; intro w16 M
              simp only [putL, List.set_cons_zero, List.set_cons_succ, Nat.reduceAdd] at M
              refine st_y S rfl rfl rfl (y_assign S rfl) ?_; clear S a; intro a S
              refine st_y S rfl rfl rfl (y_assign S rfl) ?_; clear S a; intro a S
              refine wpList_nil ?_
              replace S := S.sub [(0, _), (1, _), (2, _), (3, _), (4, _), (22, _), (7, _), (44, _), (52, _), (5, _), (6, _)] rfl
              refine then_normal ?_
              refine wp_ret ?_
              refine block_ret ?_
              refine then_ret ?_
              refine end_three S rfl (res_agg (cs := [_, _, _, _, _, _, _]) (by kernel_rfl) rfl rfl (M.cellsAt (k := 7) 0 rfl rfl)) (res_tmp rfl) (res_tmp rfl) ?_
              refine ⟨?_, M.below⟩; unfold hearK; rw [if_pos hyes, hFt, if_neg hno, if_pos (by assumption)]
            · clear S; intro h52 S
              first | replace h52 := nrmA h52 | replace h52 := nrmB h52 | skip
              first | replace h52 := nrm1 h52 | replace h52 := nrm2 h52 | replace h52 := nrm3 h52 | replace h52 := nrm4 h52 | replace h52 := nrm5 h52 | replace h52 := nrm6 h52 | replace h52 := of_decide_eq_true h52 | replace h52 := of_decide_eq_false h52 | skip
              refine st_condF S rfl ?_
              refine wp_seq ?_
              -- region 9 epoch.go:57
              refine wp_region_lit ?_
              refine st_y S rfl rfl rfl (y_move S rfl) ?_; clear S a; intro a S
              refine st_y S rfl rfl rfl (y_int S rfl rfl rfl) ?_; clear S a; intro a S
              refine st_y S rfl rfl rfl (y_assign S rfl) ?_; clear S a; intro a S
              refine wpList_nil ?_
              replace S := S.sub [(0, _), (1, _), (2, _), (3, _), (4, _), (5, _), (6, _), (22, _), (7, _), (44, _), (52, _), (58, _)] rfl
              refine then_normal ?_
              refine st_split (t := 58) S rfl ?_ ?_
              · clear S; intro h58 S
                first | replace h58 := nrmA h58 | replace h58 := nrmB h58 | skip
                first | replace h58 := nrm1 h58 | replace h58 := nrm2 h58 | replace h58 := nrm3 h58 | replace h58 := nrm4 h58 | replace h58 := nrm5 h58 | replace h58 := nrm6 h58 | replace h58 := of_decide_eq_true h58 | replace h58 := of_decide_eq_false h58 | skip
                refine st_condT S rfl ?_
                refine wp_seq ?_
                -- region 10 epoch.go:58
                refine wp_region_lit ?_
                refine st_y S rfl rfl rfl (y_loadAgg (cs := [_, _, _, _, _, _, _]) S (by kernel_rfl) rfl rfl (M.cellsAt (k := 7) 2 rfl rfl)) ?_; clear S a; intro a S
                refine st_store (sz := 7) (us := [_, _, _, _, _, _, _]) S M 0 rfl (by kernel_rfl) rfl rfl rfl rfl rfl rfl (by first | decide | (simp; done) | (simp; omega)) ?_; clear M; intro w17 M
                simp only [putL, List.set_cons_zero, List.set_cons_succ, Nat.reduceAdd] at M
                refine st_y S rfl rfl rfl (y_assign S rfl) ?_; clear S a; intro a S
                refine st_y S rfl rfl rfl (y_assign S rfl) ?_; clear S a; intro a S
                refine wpList_nil ?_
                replace S := S.sub [(0, _), (1, _), (2, _), (3, _), (4, _), (22, _), (7, _), (44, _), (52, _), (58, _), (5, _), (6, _)] rfl
                refine then_normal ?_
                refine wp_ret ?_
                refine block_ret ?_
                refine then_ret ?_
                refine end_three S rfl (res_agg (cs := [_, _, _, _, _, _, _]) (by kernel_rfl) rfl rfl (M.cellsAt (k := 7) 0 rfl rfl)) (res_tmp rfl) (res_tmp rfl) ?_
                refine ⟨?_, M.below⟩; unfold hearK; rw [if_pos hyes, hFt, if_neg hno, if_neg (by assumption), if_pos (by assumption)]
              · clear S; intro h58 S
                first | replace h58 := nrmA h58 | replace h58 := nrmB h58 | skip
                first | replace h58 := nrm1 h58 | replace h58 := nrm2 h58 | replace h58 := nrm3 h58 | replace h58 := nrm4 h58 | replace h58 := nrm5 h58 | replace h58 := nrm6 h58 | replace h58 := of_decide_eq_true h58 | replace h58 := of_decide_eq_false h58 | skip
                refine st_condF S rfl ?_
                refine wp_skip ?_
                refine block_normal ?_
                refine then_normal ?_
                refine wp_seq ?_
                -- region 11 epoch.go:60
                refine wp_region_lit ?_
                refine st_y S rfl rfl rfl (y_loadAgg (cs := [_, _, _, _, _, _, _]) S (by kernel_rfl) rfl rfl (M.cellsAt (k := 7) 2 rfl rfl)) ?_; clear S a; intro a S
                refine st_store (sz := 7) (us := [_, _, _, _, _, _, _]) S M 0 rfl (by kernel_rfl) rfl rfl rfl rfl rfl rfl (by first | decide | (simp; done) | (simp; omega)) ?_; clear M; intro w18 M
                simp only [putL, List.set_cons_zero, List.set_cons_succ, Nat.reduceAdd] at M
                refine st_y S rfl rfl rfl (y_assign S rfl) ?_; clear S a; intro a S
                refine st_y S rfl rfl rfl (y_assign S rfl) ?_; clear S a; intro a S
                refine wpList_nil ?_
                replace S := S.sub [(0, _), (1, _), (2, _), (3, _), (4, _), (22, _), (7, _), (44, _), (52, _), (58, _), (5, _), (6, _)] rfl
                refine then_normal ?_
                refine wp_ret ?_
                refine end_three S rfl (res_agg (cs := [_, _, _, _, _, _, _]) (by kernel_rfl) rfl rfl (M.cellsAt (k := 7) 0 rfl rfl)) (res_tmp rfl) (res_tmp rfl) ?_
                refine ⟨?_, M.below⟩; unfold hearK; rw [if_pos hyes, hFt, if_neg hno, if_neg (by assumption), if_neg (by assumption)]
theorem great15_any (m : Msg) (ad : Option Addr) (l c : Nat) (w : World) : Calls Try.prog 8 #[.agg (m.cells (.slice ad l c))] w fun e w' => e = .returned (.bool (decide ((40 : Int) < (l : Int)))) ∧ Below w.heap.size w w' := by
  have M := Mem.start w
  refine calls_enter Try.func8 rfl 7 rfl rfl ?_; intro a S
  refine wp_seq ?_
  -- region 0 ref.go:184
  refine wp_region_lit ?_
  refine st_box S M rfl rfl rfl #[_, _, _, _, _, _, _, _, _, _, _, _, _, _, _, _, _, _, _, _, _, _, _, _] rfl ?_; clear S M a; intro a w1 b1 S M hB
  refine st_y S rfl rfl rfl (y_assign S rfl) ?_; clear S a; intro a S
  refine wpList_nil ?_
  replace S := S.sub [(0, _), (1, _), (2, _)] rfl
  refine then_normal ?_
  refine wp_seq ?_
  -- region 1 ref.go:184
  refine wp_region_lit ?_
  refine st_y S rfl rfl rfl (y_fieldAddr (k := 23) S (by kernel_rfl) rfl) ?_; clear S a; intro a S
  refine st_y S rfl rfl rfl (y_load S (by kernel_rfl) rfl (M.cell 0 rfl rfl)) ?_; clear S a; intro a S
  refine st_y S rfl rfl rfl (y_lenS (E := 59) S rfl (by kernel_rfl)) ?_; clear S a; intro a S
  refine st_y S rfl rfl rfl (y_int S rfl rfl rfl) ?_; clear S a; intro a S
  refine st_y S rfl rfl rfl (y_assign S rfl) ?_; clear S a; intro a S
  refine wpList_nil ?_
  replace S := S.sub [(0, _), (1, _), (2, _)] rfl
  refine then_normal ?_
  refine wp_ret ?_
  refine end_one S rfl (res_tmp rfl) ?_
  exact ⟨rfl, M.below⟩

/-! ### the law's own -/
def pg (inc : Int) : Msg := ⟨1, 0, 1, inc, 0, ⟨0, 0, 0⟩, 0, 0, 0, ⟨0, 0, 0, 0, 0, 0, 0, 0⟩, 0, false, 0, 0⟩
theorem ping_any (inc : Int) (w : World) : Calls Try.prog 14 #[.int .i64 inc] w fun e w' => e = .returned (.agg ((pg inc).cells (.slice none 0 0))) ∧ Below w.heap.size w w' := by
  have M := Mem.start w
  refine calls_enter Try.func14 rfl 5 rfl rfl ?_; intro a S
  refine wp_seq ?_
  -- region 0 law.go:12
  refine wp_region_lit ?_
  refine st_alloc S M rfl rfl #[.int .i8 0, .int .i64 0, .int .i64 0, .int .i64 0, .int .i64 0, .int .i64 0, .int .i64 0, .int .i64 0, .int .i64 0, .int .i8 0, .int .i64 0, .int .u8 0, .int .u8 0, .int .u8 0, .int .u8 0, .int .u8 0, .int .u8 0, .int .u8 0, .int .u8 0, .int .i64 0, .bool false, .int .i64 0, .int .i64 0, .slice none 0 0] (by kernel_rfl) ?_; clear S M a; intro a w1 b1 S M hB
  refine wpList_nil ?_
  replace S := S.sub [(0, _), (2, _)] rfl
  refine then_normal ?_
  refine wp_seq ?_
  -- region 1 law.go:12
  refine wp_region_lit ?_
  refine st_y S rfl rfl rfl (y_move S rfl) ?_; clear S a; intro a S
  refine st_y S rfl rfl rfl (y_build (ps := [(0, (Operand.const (Value.int IntKind.i8 1))), (2, (Operand.const (Value.int IntKind.i64 1))), (3, (Operand.tmp 3))]) (pl := [(0, 1), (1, 1), (2, 1), (3, 1), (4, 1), (5, 3), (8, 1), (9, 1), (10, 1), (11, 8), (19, 1), (20, 1), (21, 1), (22, 1), (23, 1)]) (z := [.int .i8 0, .int .i64 0, .int .i64 0, .int .i64 0, .int .i64 0, .int .i64 0, .int .i64 0, .int .i64 0, .int .i64 0, .int .i8 0, .int .i64 0, .int .u8 0, .int .u8 0, .int .u8 0, .int .u8 0, .int .u8 0, .int .u8 0, .int .u8 0, .int .u8 0, .int .i64 0, .bool false, .int .i64 0, .int .i64 0, .slice none 0 0]) (cs := [_, _, _, _, _, _, _, _, _, _, _, _, _, _, _, _, _, _, _, _, _, _, _, _]) S (by kernel_rfl) rfl rfl) ?_; clear S a; intro a S
  refine st_store (sz := 24) (us := [_, _, _, _, _, _, _, _, _, _, _, _, _, _, _, _, _, _, _, _, _, _, _, _]) S M 0 rfl (by kernel_rfl) rfl rfl rfl rfl rfl rfl (by first | decide | (simp; done) | (simp; omega)) ?_; clear M; intro w2 M
  simp only [putL, List.set_cons_zero, List.set_cons_succ, Nat.reduceAdd] at M
  refine wpList_nil ?_
  replace S := S.sub [(0, _), (2, _)] rfl
  refine then_normal ?_
  refine wp_ret ?_
  refine end_one S rfl (res_agg (cs := [_, _, _, _, _, _, _, _, _, _, _, _, _, _, _, _, _, _, _, _, _, _, _, _]) (by kernel_rfl) rfl rfl (M.cellsAt (k := 24) 0 rfl rfl)) ?_
  exact ⟨rfl, M.below⟩
def kn1 : Kn := ⟨1, 5, 0, 0, 0, 0, 0⟩
def kn2 : Kn := ⟨1, 5, 3, 0, 0, 0, 0⟩
theorem wk0 : newK 1 5 = (kn1, 0) := by decide +kernel
theorem wk1 : hearK kn1 (pg 3) [] = (kn2, 2, 0) := by decide +kernel
theorem wk2 : hearK kn2 (pg 2) [] = (kn2, 0, 0) := by decide +kernel
theorem wk3 : hearK kn2 (pg 4) [] = (⟨1, 5, 4, 0, 0, 0, 0⟩, 3, 0) := by decide +kernel
theorem wk4 : hearK kn2 (pg 3) [] = (kn2, 1, 0) := by decide +kernel
theorem wakes_any (w : World) : Calls Try.prog 7 #[] w fun e w' => e = .returned (.bool true) ∧ Below w.heap.size w w' := by
  have M := Mem.start w
  refine calls_enter Try.func7 rfl 68 rfl rfl ?_; intro a S
  refine wp_seq ?_
  -- region 0 law.go:15
  refine wp_region_lit ?_
  refine st_y S rfl rfl rfl (y_assign S rfl) ?_; clear S a; intro a S
  refine wpList_nil ?_
  replace S := S.sub [(0, _)] rfl
  refine then_normal ?_
  refine wp_seq ?_
  -- region 1 law.go:16
  refine wp_region_lit ?_
  refine st_call (xs := [(Operand.const (Value.int IntKind.i64 1)), (Operand.const (Value.int IntKind.i64 5))]) S (enters_of Try.func13 (by decide) rfl) rfl rfl rfl (new_any _ _ _) ?_
  rintro _ w1 ⟨rfl, hK⟩; refine ⟨_, rfl, ?_⟩; clear S a; intro a S; replace M := M.grow hK
  rw [wk0] at S
  refine st_y S rfl rfl rfl (y_move S rfl) ?_; clear S a; intro a S
  refine st_y S rfl rfl rfl (y_extract S rfl rfl) ?_; clear S a; intro a S
  refine st_y S rfl rfl rfl (y_extract S rfl rfl) ?_; clear S a; intro a S
  refine st_alloc S M rfl rfl #[.int .i64 0, .int .i64 0, .int .i64 0, .int .i64 0, .int .i64 0, .int .i64 0, .int .i64 0] (by kernel_rfl) ?_; clear S M a; intro a w2 bK S M hB
  refine st_store (sz := 7) (us := [_, _, _, _, _, _, _]) S M 0 rfl (by kernel_rfl) rfl rfl rfl rfl rfl rfl (by first | decide | (simp; done) | (simp; omega)) ?_; clear M; intro w3 M
  simp only [putL, List.set_cons_zero, List.set_cons_succ, Nat.reduceAdd] at M
  refine st_y S rfl rfl rfl (y_assign S rfl) ?_; clear S a; intro a S
  refine wpList_nil ?_
  replace S := S.sub [(0, _), (1, _), (2, _)] rfl
  refine then_normal ?_
  refine wp_cut (fun a w' => Sees 68 a [(1, .pointer (some ⟨bK, 0, none⟩)), (2, .int .i64 0), (3, .int .i8 2)] ∧ Mem w w' [.blk bK kn2.cells 24]) ?_ ?_
  · skip
    -- region 2 law.go:17
    refine wp_regionK [7] #[false, false, false, false, false, false, false, false, false, false] rfl M (by kernel_rfl) ?_; clear M; intro w4 M
    refine k_read (listed' := #[true, false, false, false, false, false, false, false, false, false]) 0 S rfl rfl rfl rfl (by kernel_rfl) rfl (fun _ d _ _ _ h => by cases d <;> exact h) (fun w hW => have M := M.grow hW; y_loadAgg (cs := [_, _, _, _, _, _, _]) S (by kernel_rfl) rfl rfl (M.cellsAt (k := 7) 0 rfl rfl)) ?_; clear S a; intro a S
    refine k_one (listed' := #[true, true, false, false, false, false, false, false, false, false]) 1 rfl (by kernel_rfl) rfl ?_
    refine st_call (xs := [(Operand.const (Value.int IntKind.i64 3))]) S (enters_of Try.func14 (by decide) rfl) rfl rfl rfl (ping_any _ _) ?_
    rintro _ w5 ⟨rfl, hK⟩; refine ⟨_, rfl, ?_⟩; clear S a; intro a S; replace M := M.grow hK
    refine wpList_nil ?_; refine then_normal ?_; refine ⟨fun _ => hK, ?_⟩
    refine k_one (listed' := #[true, true, true, false, false, false, false, false, false, false]) 2 rfl (by kernel_rfl) rfl ?_
    refine st_call (xs := [(Operand.tmp 19), (Operand.tmp 20)]) S (enters_of Try.func9 (by decide) rfl) rfl rfl rfl (hear_any kn1 (pg 3) none 0 0 [] _ (Rd.nil _ _ _ _)) ?_
    rintro _ w6 ⟨rfl, hK⟩; refine ⟨_, rfl, ?_⟩; clear S a; intro a S; replace M := M.grow hK
    rw [wk1] at S
    refine wpList_nil ?_; refine then_normal ?_; refine ⟨fun _ => hK, ?_⟩
    refine k_pure (listed' := #[true, true, true, true, false, false, false, false, false, false]) 3 S rfl rfl rfl rfl (by kernel_rfl) rfl (fun _ d _ _ _ h => by cases d <;> exact h) (fun w => y_move S rfl) ?_; clear S a; intro a S
    refine k_pure (listed' := #[true, true, true, true, true, false, false, false, false, false]) 4 S rfl rfl rfl rfl (by kernel_rfl) rfl (fun _ d _ _ _ h => by cases d <;> exact h) (fun w => y_extract S rfl rfl) ?_; clear S a; intro a S
    refine k_pure (listed' := #[true, true, true, true, true, true, false, false, false, false]) 5 S rfl rfl rfl rfl (by kernel_rfl) rfl (fun _ d _ _ _ h => by cases d <;> exact h) (fun w => y_extract S rfl rfl) ?_; clear S a; intro a S
    refine k_pure (listed' := #[true, true, true, true, true, true, true, false, false, false]) 6 S rfl rfl rfl rfl (by kernel_rfl) rfl (fun _ d _ _ _ h => by cases d <;> exact h) (fun w => y_extract S rfl rfl) ?_; clear S a; intro a S
    refine k_one (listed' := #[true, true, true, true, true, true, true, true, false, false]) 7 rfl (by kernel_rfl) rfl ?_
    refine st_store (sz := 7) (us := [_, _, _, _, _, _, _]) S M 0 rfl (by kernel_rfl) rfl rfl rfl rfl rfl rfl (by first | decide | (simp; done) | (simp; omega)) ?_; clear M; intro w7 M
    simp only [putL, List.set_cons_zero, List.set_cons_succ, Nat.reduceAdd] at M
    refine wpList_nil ?_; refine then_normal ?_; refine ⟨fun h => absurd h (by decide), ?_⟩
    refine k_pure (listed' := #[true, true, true, true, true, true, true, true, true, false]) 8 S rfl rfl rfl rfl (by kernel_rfl) rfl (fun _ d _ _ _ h => by cases d <;> exact h) (fun w => y_assign S rfl) ?_; clear S a; intro a S
    refine k_pure (listed' := #[true, true, true, true, true, true, true, true, true, true]) 9 S rfl rfl rfl rfl (by kernel_rfl) rfl (fun _ d _ _ _ h => by cases d <;> exact h) (fun w => y_assign S rfl) ?_; clear S a; intro a S
    refine k_end (by kernel_rfl) ?_
    replace S := S.sub [(0, _), (1, _), (2, _), (3, _)] rfl
    refine then_normal ?_
    exact ⟨S.sub _ rfl, M⟩
  · clear S a M; intro a wc
    rintro ⟨S, M⟩
    refine wp_cut (fun a w' => Sees 68 a [(1, .pointer (some ⟨bK, 0, none⟩)), (2, .int .i64 0), (3, .int .i8 2), (6, .int .i8 0)] ∧ Mem w w' [.blk bK kn2.cells 24]) ?_ ?_
    · skip
      -- region 3 law.go:18
      refine wp_regionK [8] #[false, false, false, false, false, false, false, false, false, false, false] rfl M (by kernel_rfl) ?_; clear M; intro w8 M
      refine k_read (listed' := #[true, false, false, false, false, false, false, false, false, false, false]) 0 S rfl rfl rfl rfl (by kernel_rfl) rfl (fun _ d _ _ _ h => by cases d <;> exact h) (fun w hW => have M := M.grow hW; y_loadAgg (cs := [_, _, _, _, _, _, _]) S (by kernel_rfl) rfl rfl (M.cellsAt (k := 7) 0 rfl rfl)) ?_; clear S a; intro a S
      refine k_two (l1 := #[true, true, false, false, false, false, false, false, false, false, false]) (l2 := #[true, false, false, false, false, false, false, true, false, false, false]) 1 7 rfl rfl (by kernel_rfl) rfl rfl ?_ ?_
      · skip
        refine st_call (xs := [(Operand.const (Value.int IntKind.i64 2))]) S (enters_of Try.func14 (by decide) rfl) rfl rfl rfl (ping_any _ _) ?_
        rintro _ w9 ⟨rfl, hK⟩; refine ⟨_, rfl, ?_⟩; clear S a; intro a S; replace M := M.grow hK
        refine wpList_nil ?_; refine then_normal ?_; refine ⟨fun _ => hK, ?_⟩
        refine k_two (l1 := #[true, true, true, false, false, false, false, false, false, false, false]) (l2 := #[true, true, false, false, false, false, false, true, false, false, false]) 2 7 rfl rfl (by kernel_rfl) rfl rfl ?_ ?_
        · skip
          refine st_call (xs := [(Operand.tmp 26), (Operand.tmp 27)]) S (enters_of Try.func9 (by decide) rfl) rfl rfl rfl (hear_any kn2 (pg 2) none 0 0 [] _ (Rd.nil _ _ _ _)) ?_
          rintro _ w10 ⟨rfl, hK⟩; refine ⟨_, rfl, ?_⟩; clear S a; intro a S; replace M := M.grow hK
          rw [wk2] at S
          refine wpList_nil ?_; refine then_normal ?_; refine ⟨fun _ => hK, ?_⟩
          refine k_pure (listed' := #[true, true, true, true, false, false, false, false, false, false, false]) 3 S rfl rfl rfl rfl (by kernel_rfl) rfl (fun _ d _ _ _ h => by cases d <;> exact h) (fun w => y_move S rfl) ?_; clear S a; intro a S
          refine k_pure (listed' := #[true, true, true, true, true, false, false, false, false, false, false]) 4 S rfl rfl rfl rfl (by kernel_rfl) rfl (fun _ d _ _ _ h => by cases d <;> exact h) (fun w => y_extract S rfl rfl) ?_; clear S a; intro a S
          refine k_pure (listed' := #[true, true, true, true, true, true, false, false, false, false, false]) 5 S rfl rfl rfl rfl (by kernel_rfl) rfl (fun _ d _ _ _ h => by cases d <;> exact h) (fun w => y_extract S rfl rfl) ?_; clear S a; intro a S
          refine k_pure (listed' := #[true, true, true, true, true, true, true, false, false, false, false]) 6 S rfl rfl rfl rfl (by kernel_rfl) rfl (fun _ d _ _ _ h => by cases d <;> exact h) (fun w => y_extract S rfl rfl) ?_; clear S a; intro a S
          refine k_one (listed' := #[true, true, true, true, true, true, true, true, false, false, false]) 7 rfl (by kernel_rfl) rfl ?_
          refine st_alloc S M rfl rfl #[.int .i64 0, .int .i64 0, .int .i64 0, .int .i64 0, .int .i64 0, .int .i64 0, .int .i64 0] (by kernel_rfl) ?_; clear S M a; intro a w11 b1 S M hB
          refine wpList_nil ?_; refine then_normal ?_; refine ⟨fun _ => hB, ?_⟩
          refine k_one (listed' := #[true, true, true, true, true, true, true, true, true, false, false]) 8 rfl (by kernel_rfl) rfl ?_
          refine st_store (sz := 7) (us := [_, _, _, _, _, _, _]) S M 0 rfl (by kernel_rfl) rfl rfl rfl rfl rfl rfl (by first | decide | (simp; done) | (simp; omega)) ?_; clear M; intro w12 M
          simp only [putL, List.set_cons_zero, List.set_cons_succ, Nat.reduceAdd] at M
          refine wpList_nil ?_; refine then_normal ?_; refine ⟨fun h => absurd h (by decide), ?_⟩
          refine k_pure (listed' := #[true, true, true, true, true, true, true, true, true, true, false]) 9 S rfl rfl rfl rfl (by kernel_rfl) rfl (fun _ d _ _ _ h => by cases d <;> exact h) (fun w => y_assign S rfl) ?_; clear S a; intro a S
          refine k_pure (listed' := #[true, true, true, true, true, true, true, true, true, true, true]) 10 S rfl rfl rfl rfl (by kernel_rfl) rfl (fun _ d _ _ _ h => by cases d <;> exact h) (fun w => y_assign S rfl) ?_; clear S a; intro a S
          refine k_end (by kernel_rfl) ?_
          replace S := S.sub [(1, _), (2, _), (3, _), (6, _)] rfl
          refine then_normal ?_
          exact ⟨S.sub _ rfl, M.drop 0⟩
        · skip
          refine st_alloc S M rfl rfl #[.int .i64 0, .int .i64 0, .int .i64 0, .int .i64 0, .int .i64 0, .int .i64 0, .int .i64 0] (by kernel_rfl) ?_; clear S M a; intro a w13 b2 S M hB
          refine wpList_nil ?_; refine then_normal ?_; refine ⟨fun _ => hB, ?_⟩
          refine k_one (listed' := #[true, true, true, false, false, false, false, true, false, false, false]) 2 rfl (by kernel_rfl) rfl ?_
          refine st_call (xs := [(Operand.tmp 26), (Operand.tmp 27)]) S (enters_of Try.func9 (by decide) rfl) rfl rfl rfl (hear_any kn2 (pg 2) none 0 0 [] _ (Rd.nil _ _ _ _)) ?_
          rintro _ w14 ⟨rfl, hK⟩; refine ⟨_, rfl, ?_⟩; clear S a; intro a S; replace M := M.grow hK
          rw [wk2] at S
          refine wpList_nil ?_; refine then_normal ?_; refine ⟨fun _ => hK, ?_⟩
          refine k_pure (listed' := #[true, true, true, true, false, false, false, true, false, false, false]) 3 S rfl rfl rfl rfl (by kernel_rfl) rfl (fun _ d _ _ _ h => by cases d <;> exact h) (fun w => y_move S rfl) ?_; clear S a; intro a S
          refine k_pure (listed' := #[true, true, true, true, true, false, false, true, false, false, false]) 4 S rfl rfl rfl rfl (by kernel_rfl) rfl (fun _ d _ _ _ h => by cases d <;> exact h) (fun w => y_extract S rfl rfl) ?_; clear S a; intro a S
          refine k_pure (listed' := #[true, true, true, true, true, true, false, true, false, false, false]) 5 S rfl rfl rfl rfl (by kernel_rfl) rfl (fun _ d _ _ _ h => by cases d <;> exact h) (fun w => y_extract S rfl rfl) ?_; clear S a; intro a S
          refine k_pure (listed' := #[true, true, true, true, true, true, true, true, false, false, false]) 6 S rfl rfl rfl rfl (by kernel_rfl) rfl (fun _ d _ _ _ h => by cases d <;> exact h) (fun w => y_extract S rfl rfl) ?_; clear S a; intro a S
          refine k_one (listed' := #[true, true, true, true, true, true, true, true, true, false, false]) 8 rfl (by kernel_rfl) rfl ?_
          refine st_store (sz := 7) (us := [_, _, _, _, _, _, _]) S M 0 rfl (by kernel_rfl) rfl rfl rfl rfl rfl rfl (by first | decide | (simp; done) | (simp; omega)) ?_; clear M; intro w15 M
          simp only [putL, List.set_cons_zero, List.set_cons_succ, Nat.reduceAdd] at M
          refine wpList_nil ?_; refine then_normal ?_; refine ⟨fun h => absurd h (by decide), ?_⟩
          refine k_pure (listed' := #[true, true, true, true, true, true, true, true, true, true, false]) 9 S rfl rfl rfl rfl (by kernel_rfl) rfl (fun _ d _ _ _ h => by cases d <;> exact h) (fun w => y_assign S rfl) ?_; clear S a; intro a S
          refine k_pure (listed' := #[true, true, true, true, true, true, true, true, true, true, true]) 10 S rfl rfl rfl rfl (by kernel_rfl) rfl (fun _ d _ _ _ h => by cases d <;> exact h) (fun w => y_assign S rfl) ?_; clear S a; intro a S
          refine k_end (by kernel_rfl) ?_
          replace S := S.sub [(1, _), (2, _), (3, _), (6, _)] rfl
          refine then_normal ?_
          exact ⟨S.sub _ rfl, M.drop 0⟩
      · skip
        refine st_alloc S M rfl rfl #[.int .i64 0, .int .i64 0, .int .i64 0, .int .i64 0, .int .i64 0, .int .i64 0, .int .i64 0] (by kernel_rfl) ?_; clear S M a; intro a w16 b3 S M hB
        refine wpList_nil ?_; refine then_normal ?_; refine ⟨fun _ => hB, ?_⟩
        refine k_one (listed' := #[true, true, false, false, false, false, false, true, false, false, false]) 1 rfl (by kernel_rfl) rfl ?_
        refine st_call (xs := [(Operand.const (Value.int IntKind.i64 2))]) S (enters_of Try.func14 (by decide) rfl) rfl rfl rfl (ping_any _ _) ?_
        rintro _ w17 ⟨rfl, hK⟩; refine ⟨_, rfl, ?_⟩; clear S a; intro a S; replace M := M.grow hK
        refine wpList_nil ?_; refine then_normal ?_; refine ⟨fun _ => hK, ?_⟩
        refine k_one (listed' := #[true, true, true, false, false, false, false, true, false, false, false]) 2 rfl (by kernel_rfl) rfl ?_
        refine st_call (xs := [(Operand.tmp 26), (Operand.tmp 27)]) S (enters_of Try.func9 (by decide) rfl) rfl rfl rfl (hear_any kn2 (pg 2) none 0 0 [] _ (Rd.nil _ _ _ _)) ?_
        rintro _ w18 ⟨rfl, hK⟩; refine ⟨_, rfl, ?_⟩; clear S a; intro a S; replace M := M.grow hK
        rw [wk2] at S
        refine wpList_nil ?_; refine then_normal ?_; refine ⟨fun _ => hK, ?_⟩
        refine k_pure (listed' := #[true, true, true, true, false, false, false, true, false, false, false]) 3 S rfl rfl rfl rfl (by kernel_rfl) rfl (fun _ d _ _ _ h => by cases d <;> exact h) (fun w => y_move S rfl) ?_; clear S a; intro a S
        refine k_pure (listed' := #[true, true, true, true, true, false, false, true, false, false, false]) 4 S rfl rfl rfl rfl (by kernel_rfl) rfl (fun _ d _ _ _ h => by cases d <;> exact h) (fun w => y_extract S rfl rfl) ?_; clear S a; intro a S
        refine k_pure (listed' := #[true, true, true, true, true, true, false, true, false, false, false]) 5 S rfl rfl rfl rfl (by kernel_rfl) rfl (fun _ d _ _ _ h => by cases d <;> exact h) (fun w => y_extract S rfl rfl) ?_; clear S a; intro a S
        refine k_pure (listed' := #[true, true, true, true, true, true, true, true, false, false, false]) 6 S rfl rfl rfl rfl (by kernel_rfl) rfl (fun _ d _ _ _ h => by cases d <;> exact h) (fun w => y_extract S rfl rfl) ?_; clear S a; intro a S
        refine k_one (listed' := #[true, true, true, true, true, true, true, true, true, false, false]) 8 rfl (by kernel_rfl) rfl ?_
        refine st_store (sz := 7) (us := [_, _, _, _, _, _, _]) S M 0 rfl (by kernel_rfl) rfl rfl rfl rfl rfl rfl (by first | decide | (simp; done) | (simp; omega)) ?_; clear M; intro w19 M
        simp only [putL, List.set_cons_zero, List.set_cons_succ, Nat.reduceAdd] at M
        refine wpList_nil ?_; refine then_normal ?_; refine ⟨fun h => absurd h (by decide), ?_⟩
        refine k_pure (listed' := #[true, true, true, true, true, true, true, true, true, true, false]) 9 S rfl rfl rfl rfl (by kernel_rfl) rfl (fun _ d _ _ _ h => by cases d <;> exact h) (fun w => y_assign S rfl) ?_; clear S a; intro a S
        refine k_pure (listed' := #[true, true, true, true, true, true, true, true, true, true, true]) 10 S rfl rfl rfl rfl (by kernel_rfl) rfl (fun _ d _ _ _ h => by cases d <;> exact h) (fun w => y_assign S rfl) ?_; clear S a; intro a S
        refine k_end (by kernel_rfl) ?_
        replace S := S.sub [(1, _), (2, _), (3, _), (6, _)] rfl
        refine then_normal ?_
        exact ⟨S.sub _ rfl, M.drop 0⟩
    · clear S a M; intro a wc
      rintro ⟨S, M⟩
      refine wp_cut (fun a w' => Sees 68 a [(1, .pointer (some ⟨bK, 0, none⟩)), (2, .int .i64 0), (3, .int .i8 2), (6, .int .i8 0), (9, .int .i8 3)] ∧ Mem w w' [.blk bK kn2.cells 24]) ?_ ?_
      · skip
        -- region 4 law.go:19
        refine wp_regionK [8] #[false, false, false, false, false, false, false, false, false, false, false] rfl M (by kernel_rfl) ?_; clear M; intro w20 M
        refine k_read (listed' := #[true, false, false, false, false, false, false, false, false, false, false]) 0 S rfl rfl rfl rfl (by kernel_rfl) rfl (fun _ d _ _ _ h => by cases d <;> exact h) (fun w hW => have M := M.grow hW; y_loadAgg (cs := [_, _, _, _, _, _, _]) S (by kernel_rfl) rfl rfl (M.cellsAt (k := 7) 0 rfl rfl)) ?_; clear S a; intro a S
        refine k_two (l1 := #[true, true, false, false, false, false, false, false, false, false, false]) (l2 := #[true, false, false, false, false, false, false, true, false, false, false]) 1 7 rfl rfl (by kernel_rfl) rfl rfl ?_ ?_
        · skip
          refine st_call (xs := [(Operand.const (Value.int IntKind.i64 4))]) S (enters_of Try.func14 (by decide) rfl) rfl rfl rfl (ping_any _ _) ?_
          rintro _ w21 ⟨rfl, hK⟩; refine ⟨_, rfl, ?_⟩; clear S a; intro a S; replace M := M.grow hK
          refine wpList_nil ?_; refine then_normal ?_; refine ⟨fun _ => hK, ?_⟩
          refine k_two (l1 := #[true, true, true, false, false, false, false, false, false, false, false]) (l2 := #[true, true, false, false, false, false, false, true, false, false, false]) 2 7 rfl rfl (by kernel_rfl) rfl rfl ?_ ?_
          · skip
            refine st_call (xs := [(Operand.tmp 33), (Operand.tmp 34)]) S (enters_of Try.func9 (by decide) rfl) rfl rfl rfl (hear_any kn2 (pg 4) none 0 0 [] _ (Rd.nil _ _ _ _)) ?_
            rintro _ w22 ⟨rfl, hK⟩; refine ⟨_, rfl, ?_⟩; clear S a; intro a S; replace M := M.grow hK
            rw [wk3] at S
            refine wpList_nil ?_; refine then_normal ?_; refine ⟨fun _ => hK, ?_⟩
            refine k_pure (listed' := #[true, true, true, true, false, false, false, false, false, false, false]) 3 S rfl rfl rfl rfl (by kernel_rfl) rfl (fun _ d _ _ _ h => by cases d <;> exact h) (fun w => y_move S rfl) ?_; clear S a; intro a S
            refine k_pure (listed' := #[true, true, true, true, true, false, false, false, false, false, false]) 4 S rfl rfl rfl rfl (by kernel_rfl) rfl (fun _ d _ _ _ h => by cases d <;> exact h) (fun w => y_extract S rfl rfl) ?_; clear S a; intro a S
            refine k_pure (listed' := #[true, true, true, true, true, true, false, false, false, false, false]) 5 S rfl rfl rfl rfl (by kernel_rfl) rfl (fun _ d _ _ _ h => by cases d <;> exact h) (fun w => y_extract S rfl rfl) ?_; clear S a; intro a S
            refine k_pure (listed' := #[true, true, true, true, true, true, true, false, false, false, false]) 6 S rfl rfl rfl rfl (by kernel_rfl) rfl (fun _ d _ _ _ h => by cases d <;> exact h) (fun w => y_extract S rfl rfl) ?_; clear S a; intro a S
            refine k_one (listed' := #[true, true, true, true, true, true, true, true, false, false, false]) 7 rfl (by kernel_rfl) rfl ?_
            refine st_alloc S M rfl rfl #[.int .i64 0, .int .i64 0, .int .i64 0, .int .i64 0, .int .i64 0, .int .i64 0, .int .i64 0] (by kernel_rfl) ?_; clear S M a; intro a w23 b4 S M hB
            refine wpList_nil ?_; refine then_normal ?_; refine ⟨fun _ => hB, ?_⟩
            refine k_one (listed' := #[true, true, true, true, true, true, true, true, true, false, false]) 8 rfl (by kernel_rfl) rfl ?_
            refine st_store (sz := 7) (us := [_, _, _, _, _, _, _]) S M 0 rfl (by kernel_rfl) rfl rfl rfl rfl rfl rfl (by first | decide | (simp; done) | (simp; omega)) ?_; clear M; intro w24 M
            simp only [putL, List.set_cons_zero, List.set_cons_succ, Nat.reduceAdd] at M
            refine wpList_nil ?_; refine then_normal ?_; refine ⟨fun h => absurd h (by decide), ?_⟩
            refine k_pure (listed' := #[true, true, true, true, true, true, true, true, true, true, false]) 9 S rfl rfl rfl rfl (by kernel_rfl) rfl (fun _ d _ _ _ h => by cases d <;> exact h) (fun w => y_assign S rfl) ?_; clear S a; intro a S
            refine k_pure (listed' := #[true, true, true, true, true, true, true, true, true, true, true]) 10 S rfl rfl rfl rfl (by kernel_rfl) rfl (fun _ d _ _ _ h => by cases d <;> exact h) (fun w => y_assign S rfl) ?_; clear S a; intro a S
            refine k_end (by kernel_rfl) ?_
            replace S := S.sub [(1, _), (2, _), (3, _), (6, _), (9, _)] rfl
            refine then_normal ?_
            exact ⟨S.sub _ rfl, M.drop 0⟩
          · skip
            refine st_alloc S M rfl rfl #[.int .i64 0, .int .i64 0, .int .i64 0, .int .i64 0, .int .i64 0, .int .i64 0, .int .i64 0] (by kernel_rfl) ?_; clear S M a; intro a w25 b5 S M hB
            refine wpList_nil ?_; refine then_normal ?_; refine ⟨fun _ => hB, ?_⟩
            refine k_one (listed' := #[true, true, true, false, false, false, false, true, false, false, false]) 2 rfl (by kernel_rfl) rfl ?_
            refine st_call (xs := [(Operand.tmp 33), (Operand.tmp 34)]) S (enters_of Try.func9 (by decide) rfl) rfl rfl rfl (hear_any kn2 (pg 4) none 0 0 [] _ (Rd.nil _ _ _ _)) ?_
            rintro _ w26 ⟨rfl, hK⟩; refine ⟨_, rfl, ?_⟩; clear S a; intro a S; replace M := M.grow hK
            rw [wk3] at S
            refine wpList_nil ?_; refine then_normal ?_; refine ⟨fun _ => hK, ?_⟩
            refine k_pure (listed' := #[true, true, true, true, false, false, false, true, false, false, false]) 3 S rfl rfl rfl rfl (by kernel_rfl) rfl (fun _ d _ _ _ h => by cases d <;> exact h) (fun w => y_move S rfl) ?_; clear S a; intro a S
            refine k_pure (listed' := #[true, true, true, true, true, false, false, true, false, false, false]) 4 S rfl rfl rfl rfl (by kernel_rfl) rfl (fun _ d _ _ _ h => by cases d <;> exact h) (fun w => y_extract S rfl rfl) ?_; clear S a; intro a S
            refine k_pure (listed' := #[true, true, true, true, true, true, false, true, false, false, false]) 5 S rfl rfl rfl rfl (by kernel_rfl) rfl (fun _ d _ _ _ h => by cases d <;> exact h) (fun w => y_extract S rfl rfl) ?_; clear S a; intro a S
            refine k_pure (listed' := #[true, true, true, true, true, true, true, true, false, false, false]) 6 S rfl rfl rfl rfl (by kernel_rfl) rfl (fun _ d _ _ _ h => by cases d <;> exact h) (fun w => y_extract S rfl rfl) ?_; clear S a; intro a S
            refine k_one (listed' := #[true, true, true, true, true, true, true, true, true, false, false]) 8 rfl (by kernel_rfl) rfl ?_
            refine st_store (sz := 7) (us := [_, _, _, _, _, _, _]) S M 0 rfl (by kernel_rfl) rfl rfl rfl rfl rfl rfl (by first | decide | (simp; done) | (simp; omega)) ?_; clear M; intro w27 M
            simp only [putL, List.set_cons_zero, List.set_cons_succ, Nat.reduceAdd] at M
            refine wpList_nil ?_; refine then_normal ?_; refine ⟨fun h => absurd h (by decide), ?_⟩
            refine k_pure (listed' := #[true, true, true, true, true, true, true, true, true, true, false]) 9 S rfl rfl rfl rfl (by kernel_rfl) rfl (fun _ d _ _ _ h => by cases d <;> exact h) (fun w => y_assign S rfl) ?_; clear S a; intro a S
            refine k_pure (listed' := #[true, true, true, true, true, true, true, true, true, true, true]) 10 S rfl rfl rfl rfl (by kernel_rfl) rfl (fun _ d _ _ _ h => by cases d <;> exact h) (fun w => y_assign S rfl) ?_; clear S a; intro a S
            refine k_end (by kernel_rfl) ?_
            replace S := S.sub [(1, _), (2, _), (3, _), (6, _), (9, _)] rfl
            refine then_normal ?_
            exact ⟨S.sub _ rfl, M.drop 0⟩
        · skip
          refine st_alloc S M rfl rfl #[.int .i64 0, .int .i64 0, .int .i64 0, .int .i64 0, .int .i64 0, .int .i64 0, .int .i64 0] (by kernel_rfl) ?_; clear S M a; intro a w28 b6 S M hB
          refine wpList_nil ?_; refine then_normal ?_; refine ⟨fun _ => hB, ?_⟩
          refine k_one (listed' := #[true, true, false, false, false, false, false, true, false, false, false]) 1 rfl (by kernel_rfl) rfl ?_
          refine st_call (xs := [(Operand.const (Value.int IntKind.i64 4))]) S (enters_of Try.func14 (by decide) rfl) rfl rfl rfl (ping_any _ _) ?_
          rintro _ w29 ⟨rfl, hK⟩; refine ⟨_, rfl, ?_⟩; clear S a; intro a S; replace M := M.grow hK
          refine wpList_nil ?_; refine then_normal ?_; refine ⟨fun _ => hK, ?_⟩
          refine k_one (listed' := #[true, true, true, false, false, false, false, true, false, false, false]) 2 rfl (by kernel_rfl) rfl ?_
          refine st_call (xs := [(Operand.tmp 33), (Operand.tmp 34)]) S (enters_of Try.func9 (by decide) rfl) rfl rfl rfl (hear_any kn2 (pg 4) none 0 0 [] _ (Rd.nil _ _ _ _)) ?_
          rintro _ w30 ⟨rfl, hK⟩; refine ⟨_, rfl, ?_⟩; clear S a; intro a S; replace M := M.grow hK
          rw [wk3] at S
          refine wpList_nil ?_; refine then_normal ?_; refine ⟨fun _ => hK, ?_⟩
          refine k_pure (listed' := #[true, true, true, true, false, false, false, true, false, false, false]) 3 S rfl rfl rfl rfl (by kernel_rfl) rfl (fun _ d _ _ _ h => by cases d <;> exact h) (fun w => y_move S rfl) ?_; clear S a; intro a S
          refine k_pure (listed' := #[true, true, true, true, true, false, false, true, false, false, false]) 4 S rfl rfl rfl rfl (by kernel_rfl) rfl (fun _ d _ _ _ h => by cases d <;> exact h) (fun w => y_extract S rfl rfl) ?_; clear S a; intro a S
          refine k_pure (listed' := #[true, true, true, true, true, true, false, true, false, false, false]) 5 S rfl rfl rfl rfl (by kernel_rfl) rfl (fun _ d _ _ _ h => by cases d <;> exact h) (fun w => y_extract S rfl rfl) ?_; clear S a; intro a S
          refine k_pure (listed' := #[true, true, true, true, true, true, true, true, false, false, false]) 6 S rfl rfl rfl rfl (by kernel_rfl) rfl (fun _ d _ _ _ h => by cases d <;> exact h) (fun w => y_extract S rfl rfl) ?_; clear S a; intro a S
          refine k_one (listed' := #[true, true, true, true, true, true, true, true, true, false, false]) 8 rfl (by kernel_rfl) rfl ?_
          refine st_store (sz := 7) (us := [_, _, _, _, _, _, _]) S M 0 rfl (by kernel_rfl) rfl rfl rfl rfl rfl rfl (by first | decide | (simp; done) | (simp; omega)) ?_; clear M; intro w31 M
          simp only [putL, List.set_cons_zero, List.set_cons_succ, Nat.reduceAdd] at M
          refine wpList_nil ?_; refine then_normal ?_; refine ⟨fun h => absurd h (by decide), ?_⟩
          refine k_pure (listed' := #[true, true, true, true, true, true, true, true, true, true, false]) 9 S rfl rfl rfl rfl (by kernel_rfl) rfl (fun _ d _ _ _ h => by cases d <;> exact h) (fun w => y_assign S rfl) ?_; clear S a; intro a S
          refine k_pure (listed' := #[true, true, true, true, true, true, true, true, true, true, true]) 10 S rfl rfl rfl rfl (by kernel_rfl) rfl (fun _ d _ _ _ h => by cases d <;> exact h) (fun w => y_assign S rfl) ?_; clear S a; intro a S
          refine k_end (by kernel_rfl) ?_
          replace S := S.sub [(1, _), (2, _), (3, _), (6, _), (9, _)] rfl
          refine then_normal ?_
          exact ⟨S.sub _ rfl, M.drop 0⟩
      · clear S a M; intro a wc
        rintro ⟨S, M⟩
        refine wp_cut (fun a w' => Sees 68 a [(1, .pointer (some ⟨bK, 0, none⟩)), (2, .int .i64 0), (3, .int .i8 2), (6, .int .i8 0), (9, .int .i8 3), (12, .int .i8 1), (13, .int .i64 0)] ∧ Mem w w' [.blk bK kn2.cells 24]) ?_ ?_
        · skip
          -- region 5 law.go:20
          refine wp_regionK [8] #[false, false, false, false, false, false, false, false, false, false, false] rfl M (by kernel_rfl) ?_; clear M; intro w32 M
          refine k_read (listed' := #[true, false, false, false, false, false, false, false, false, false, false]) 0 S rfl rfl rfl rfl (by kernel_rfl) rfl (fun _ d _ _ _ h => by cases d <;> exact h) (fun w hW => have M := M.grow hW; y_loadAgg (cs := [_, _, _, _, _, _, _]) S (by kernel_rfl) rfl rfl (M.cellsAt (k := 7) 0 rfl rfl)) ?_; clear S a; intro a S
          refine k_two (l1 := #[true, true, false, false, false, false, false, false, false, false, false]) (l2 := #[true, false, false, false, false, false, false, true, false, false, false]) 1 7 rfl rfl (by kernel_rfl) rfl rfl ?_ ?_
          · skip
            refine st_call (xs := [(Operand.const (Value.int IntKind.i64 3))]) S (enters_of Try.func14 (by decide) rfl) rfl rfl rfl (ping_any _ _) ?_
            rintro _ w33 ⟨rfl, hK⟩; refine ⟨_, rfl, ?_⟩; clear S a; intro a S; replace M := M.grow hK
            refine wpList_nil ?_; refine then_normal ?_; refine ⟨fun _ => hK, ?_⟩
            refine k_two (l1 := #[true, true, true, false, false, false, false, false, false, false, false]) (l2 := #[true, true, false, false, false, false, false, true, false, false, false]) 2 7 rfl rfl (by kernel_rfl) rfl rfl ?_ ?_
            · skip
              refine st_call (xs := [(Operand.tmp 40), (Operand.tmp 41)]) S (enters_of Try.func9 (by decide) rfl) rfl rfl rfl (hear_any kn2 (pg 3) none 0 0 [] _ (Rd.nil _ _ _ _)) ?_
              rintro _ w34 ⟨rfl, hK⟩; refine ⟨_, rfl, ?_⟩; clear S a; intro a S; replace M := M.grow hK
              rw [wk4] at S
              refine wpList_nil ?_; refine then_normal ?_; refine ⟨fun _ => hK, ?_⟩
              refine k_pure (listed' := #[true, true, true, true, false, false, false, false, false, false, false]) 3 S rfl rfl rfl rfl (by kernel_rfl) rfl (fun _ d _ _ _ h => by cases d <;> exact h) (fun w => y_move S rfl) ?_; clear S a; intro a S
              refine k_pure (listed' := #[true, true, true, true, true, false, false, false, false, false, false]) 4 S rfl rfl rfl rfl (by kernel_rfl) rfl (fun _ d _ _ _ h => by cases d <;> exact h) (fun w => y_extract S rfl rfl) ?_; clear S a; intro a S
              refine k_pure (listed' := #[true, true, true, true, true, true, false, false, false, false, false]) 5 S rfl rfl rfl rfl (by kernel_rfl) rfl (fun _ d _ _ _ h => by cases d <;> exact h) (fun w => y_extract S rfl rfl) ?_; clear S a; intro a S
              refine k_pure (listed' := #[true, true, true, true, true, true, true, false, false, false, false]) 6 S rfl rfl rfl rfl (by kernel_rfl) rfl (fun _ d _ _ _ h => by cases d <;> exact h) (fun w => y_extract S rfl rfl) ?_; clear S a; intro a S
              refine k_one (listed' := #[true, true, true, true, true, true, true, true, false, false, false]) 7 rfl (by kernel_rfl) rfl ?_
              refine st_alloc S M rfl rfl #[.int .i64 0, .int .i64 0, .int .i64 0, .int .i64 0, .int .i64 0, .int .i64 0, .int .i64 0] (by kernel_rfl) ?_; clear S M a; intro a w35 b7 S M hB
              refine wpList_nil ?_; refine then_normal ?_; refine ⟨fun _ => hB, ?_⟩
              refine k_one (listed' := #[true, true, true, true, true, true, true, true, true, false, false]) 8 rfl (by kernel_rfl) rfl ?_
              refine st_store (sz := 7) (us := [_, _, _, _, _, _, _]) S M 0 rfl (by kernel_rfl) rfl rfl rfl rfl rfl rfl (by first | decide | (simp; done) | (simp; omega)) ?_; clear M; intro w36 M
              simp only [putL, List.set_cons_zero, List.set_cons_succ, Nat.reduceAdd] at M
              refine wpList_nil ?_; refine then_normal ?_; refine ⟨fun h => absurd h (by decide), ?_⟩
              refine k_pure (listed' := #[true, true, true, true, true, true, true, true, true, true, false]) 9 S rfl rfl rfl rfl (by kernel_rfl) rfl (fun _ d _ _ _ h => by cases d <;> exact h) (fun w => y_assign S rfl) ?_; clear S a; intro a S
              refine k_pure (listed' := #[true, true, true, true, true, true, true, true, true, true, true]) 10 S rfl rfl rfl rfl (by kernel_rfl) rfl (fun _ d _ _ _ h => by cases d <;> exact h) (fun w => y_assign S rfl) ?_; clear S a; intro a S
              refine k_end (by kernel_rfl) ?_
              replace S := S.sub [(1, _), (2, _), (3, _), (6, _), (9, _), (12, _), (13, _)] rfl
              refine then_normal ?_
              exact ⟨S.sub _ rfl, M.drop 0⟩
            · skip
              refine st_alloc S M rfl rfl #[.int .i64 0, .int .i64 0, .int .i64 0, .int .i64 0, .int .i64 0, .int .i64 0, .int .i64 0] (by kernel_rfl) ?_; clear S M a; intro a w37 b8 S M hB
              refine wpList_nil ?_; refine then_normal ?_; refine ⟨fun _ => hB, ?_⟩
              refine k_one (listed' := #[true, true, true, false, false, false, false, true, false, false, false]) 2 rfl (by kernel_rfl) rfl ?_
              refine st_call (xs := [(Operand.tmp 40), (Operand.tmp 41)]) S (enters_of Try.func9 (by decide) rfl) rfl rfl rfl (hear_any kn2 (pg 3) none 0 0 [] _ (Rd.nil _ _ _ _)) ?_
              rintro _ w38 ⟨rfl, hK⟩; refine ⟨_, rfl, ?_⟩; clear S a; intro a S; replace M := M.grow hK
              rw [wk4] at S
              refine wpList_nil ?_; refine then_normal ?_; refine ⟨fun _ => hK, ?_⟩
              refine k_pure (listed' := #[true, true, true, true, false, false, false, true, false, false, false]) 3 S rfl rfl rfl rfl (by kernel_rfl) rfl (fun _ d _ _ _ h => by cases d <;> exact h) (fun w => y_move S rfl) ?_; clear S a; intro a S
              refine k_pure (listed' := #[true, true, true, true, true, false, false, true, false, false, false]) 4 S rfl rfl rfl rfl (by kernel_rfl) rfl (fun _ d _ _ _ h => by cases d <;> exact h) (fun w => y_extract S rfl rfl) ?_; clear S a; intro a S
              refine k_pure (listed' := #[true, true, true, true, true, true, false, true, false, false, false]) 5 S rfl rfl rfl rfl (by kernel_rfl) rfl (fun _ d _ _ _ h => by cases d <;> exact h) (fun w => y_extract S rfl rfl) ?_; clear S a; intro a S
              refine k_pure (listed' := #[true, true, true, true, true, true, true, true, false, false, false]) 6 S rfl rfl rfl rfl (by kernel_rfl) rfl (fun _ d _ _ _ h => by cases d <;> exact h) (fun w => y_extract S rfl rfl) ?_; clear S a; intro a S
              refine k_one (listed' := #[true, true, true, true, true, true, true, true, true, false, false]) 8 rfl (by kernel_rfl) rfl ?_
              refine st_store (sz := 7) (us := [_, _, _, _, _, _, _]) S M 0 rfl (by kernel_rfl) rfl rfl rfl rfl rfl rfl (by first | decide | (simp; done) | (simp; omega)) ?_; clear M; intro w39 M
              simp only [putL, List.set_cons_zero, List.set_cons_succ, Nat.reduceAdd] at M
              refine wpList_nil ?_; refine then_normal ?_; refine ⟨fun h => absurd h (by decide), ?_⟩
              refine k_pure (listed' := #[true, true, true, true, true, true, true, true, true, true, false]) 9 S rfl rfl rfl rfl (by kernel_rfl) rfl (fun _ d _ _ _ h => by cases d <;> exact h) (fun w => y_assign S rfl) ?_; clear S a; intro a S
              refine k_pure (listed' := #[true, true, true, true, true, true, true, true, true, true, true]) 10 S rfl rfl rfl rfl (by kernel_rfl) rfl (fun _ d _ _ _ h => by cases d <;> exact h) (fun w => y_assign S rfl) ?_; clear S a; intro a S
              refine k_end (by kernel_rfl) ?_
              replace S := S.sub [(1, _), (2, _), (3, _), (6, _), (9, _), (12, _), (13, _)] rfl
              refine then_normal ?_
              exact ⟨S.sub _ rfl, M.drop 0⟩
          · skip
            refine st_alloc S M rfl rfl #[.int .i64 0, .int .i64 0, .int .i64 0, .int .i64 0, .int .i64 0, .int .i64 0, .int .i64 0] (by kernel_rfl) ?_; clear S M a; intro a w40 b9 S M hB
            refine wpList_nil ?_; refine then_normal ?_; refine ⟨fun _ => hB, ?_⟩
            refine k_one (listed' := #[true, true, false, false, false, false, false, true, false, false, false]) 1 rfl (by kernel_rfl) rfl ?_
            refine st_call (xs := [(Operand.const (Value.int IntKind.i64 3))]) S (enters_of Try.func14 (by decide) rfl) rfl rfl rfl (ping_any _ _) ?_
            rintro _ w41 ⟨rfl, hK⟩; refine ⟨_, rfl, ?_⟩; clear S a; intro a S; replace M := M.grow hK
            refine wpList_nil ?_; refine then_normal ?_; refine ⟨fun _ => hK, ?_⟩
            refine k_one (listed' := #[true, true, true, false, false, false, false, true, false, false, false]) 2 rfl (by kernel_rfl) rfl ?_
            refine st_call (xs := [(Operand.tmp 40), (Operand.tmp 41)]) S (enters_of Try.func9 (by decide) rfl) rfl rfl rfl (hear_any kn2 (pg 3) none 0 0 [] _ (Rd.nil _ _ _ _)) ?_
            rintro _ w42 ⟨rfl, hK⟩; refine ⟨_, rfl, ?_⟩; clear S a; intro a S; replace M := M.grow hK
            rw [wk4] at S
            refine wpList_nil ?_; refine then_normal ?_; refine ⟨fun _ => hK, ?_⟩
            refine k_pure (listed' := #[true, true, true, true, false, false, false, true, false, false, false]) 3 S rfl rfl rfl rfl (by kernel_rfl) rfl (fun _ d _ _ _ h => by cases d <;> exact h) (fun w => y_move S rfl) ?_; clear S a; intro a S
            refine k_pure (listed' := #[true, true, true, true, true, false, false, true, false, false, false]) 4 S rfl rfl rfl rfl (by kernel_rfl) rfl (fun _ d _ _ _ h => by cases d <;> exact h) (fun w => y_extract S rfl rfl) ?_; clear S a; intro a S
            refine k_pure (listed' := #[true, true, true, true, true, true, false, true, false, false, false]) 5 S rfl rfl rfl rfl (by kernel_rfl) rfl (fun _ d _ _ _ h => by cases d <;> exact h) (fun w => y_extract S rfl rfl) ?_; clear S a; intro a S
            refine k_pure (listed' := #[true, true, true, true, true, true, true, true, false, false, false]) 6 S rfl rfl rfl rfl (by kernel_rfl) rfl (fun _ d _ _ _ h => by cases d <;> exact h) (fun w => y_extract S rfl rfl) ?_; clear S a; intro a S
            refine k_one (listed' := #[true, true, true, true, true, true, true, true, true, false, false]) 8 rfl (by kernel_rfl) rfl ?_
            refine st_store (sz := 7) (us := [_, _, _, _, _, _, _]) S M 0 rfl (by kernel_rfl) rfl rfl rfl rfl rfl rfl (by first | decide | (simp; done) | (simp; omega)) ?_; clear M; intro w43 M
            simp only [putL, List.set_cons_zero, List.set_cons_succ, Nat.reduceAdd] at M
            refine wpList_nil ?_; refine then_normal ?_; refine ⟨fun h => absurd h (by decide), ?_⟩
            refine k_pure (listed' := #[true, true, true, true, true, true, true, true, true, true, false]) 9 S rfl rfl rfl rfl (by kernel_rfl) rfl (fun _ d _ _ _ h => by cases d <;> exact h) (fun w => y_assign S rfl) ?_; clear S a; intro a S
            refine k_pure (listed' := #[true, true, true, true, true, true, true, true, true, true, true]) 10 S rfl rfl rfl rfl (by kernel_rfl) rfl (fun _ d _ _ _ h => by cases d <;> exact h) (fun w => y_assign S rfl) ?_; clear S a; intro a S
            refine k_end (by kernel_rfl) ?_
            replace S := S.sub [(1, _), (2, _), (3, _), (6, _), (9, _), (12, _), (13, _)] rfl
            refine then_normal ?_
            exact ⟨S.sub _ rfl, M.drop 0⟩
        · clear S a M; intro a wc
          rintro ⟨S, M⟩
          refine wp_seq ?_
          -- region 6 law.go:21
          refine wp_region_lit ?_
          refine st_y S rfl rfl rfl (y_move S rfl) ?_; clear S a; intro a S
          refine st_y S rfl rfl rfl (y_int S rfl rfl rfl) ?_; clear S a; intro a S
          refine st_y S rfl rfl rfl (y_move S rfl) ?_; clear S a; intro a S
          refine st_split (t := 48) S rfl ?_ ?_
          · clear S; intro h48 S
            first | replace h48 := nrmA h48 | replace h48 := nrmB h48 | skip
            first | replace h48 := nrm1 h48 | replace h48 := nrm2 h48 | replace h48 := nrm3 h48 | replace h48 := nrm4 h48 | replace h48 := nrm5 h48 | replace h48 := nrm6 h48 | replace h48 := of_decide_eq_true h48 | replace h48 := of_decide_eq_false h48 | skip
            refine st_y S rfl rfl rfl (y_move S rfl) ?_; clear S a; intro a S
            refine st_y S rfl rfl rfl (y_int S rfl rfl rfl) ?_; clear S a; intro a S
            refine st_y S rfl rfl rfl (y_pickT S rfl rfl) ?_; clear S a; intro a S
            refine st_y S rfl rfl rfl (y_move S rfl) ?_; clear S a; intro a S
            refine st_split (t := 52) S rfl ?_ ?_
            · clear S; intro h52 S
              first | replace h52 := nrmA h52 | replace h52 := nrmB h52 | skip
              first | replace h52 := nrm1 h52 | replace h52 := nrm2 h52 | replace h52 := nrm3 h52 | replace h52 := nrm4 h52 | replace h52 := nrm5 h52 | replace h52 := nrm6 h52 | replace h52 := of_decide_eq_true h52 | replace h52 := of_decide_eq_false h52 | skip
              refine st_y S rfl rfl rfl (y_move S rfl) ?_; clear S a; intro a S
              refine st_y S rfl rfl rfl (y_int S rfl rfl rfl) ?_; clear S a; intro a S
              refine st_y S rfl rfl rfl (y_pickT S rfl rfl) ?_; clear S a; intro a S
              refine st_y S rfl rfl rfl (y_move S rfl) ?_; clear S a; intro a S
              refine st_split (t := 56) S rfl ?_ ?_
              · clear S; intro h56 S
                first | replace h56 := nrmA h56 | replace h56 := nrmB h56 | skip
                first | replace h56 := nrm1 h56 | replace h56 := nrm2 h56 | replace h56 := nrm3 h56 | replace h56 := nrm4 h56 | replace h56 := nrm5 h56 | replace h56 := nrm6 h56 | replace h56 := of_decide_eq_true h56 | replace h56 := of_decide_eq_false h56 | skip
                refine st_y S rfl rfl rfl (y_move S rfl) ?_; clear S a; intro a S
                refine st_y S rfl rfl rfl (y_int S rfl rfl rfl) ?_; clear S a; intro a S
                refine st_y S rfl rfl rfl (y_pickT S rfl rfl) ?_; clear S a; intro a S
                refine st_y S rfl rfl rfl (y_move S rfl) ?_; clear S a; intro a S
                refine st_split (t := 60) S rfl ?_ ?_
                · clear S; intro h60 S
                  first | replace h60 := nrmA h60 | replace h60 := nrmB h60 | skip
                  first | replace h60 := nrm1 h60 | replace h60 := nrm2 h60 | replace h60 := nrm3 h60 | replace h60 := nrm4 h60 | replace h60 := nrm5 h60 | replace h60 := nrm6 h60 | replace h60 := of_decide_eq_true h60 | replace h60 := of_decide_eq_false h60 | skip
                  refine st_y S rfl rfl rfl (y_move S rfl) ?_; clear S a; intro a S
                  refine st_y S rfl rfl rfl (y_int S rfl rfl rfl) ?_; clear S a; intro a S
                  refine st_y S rfl rfl rfl (y_pickT S rfl rfl) ?_; clear S a; intro a S
                  refine st_y S rfl rfl rfl (y_move S rfl) ?_; clear S a; intro a S
                  refine st_split (t := 64) S rfl ?_ ?_
                  · clear S; intro h64 S
                    first | replace h64 := nrmA h64 | replace h64 := nrmB h64 | skip
                    first | replace h64 := nrm1 h64 | replace h64 := nrm2 h64 | replace h64 := nrm3 h64 | replace h64 := nrm4 h64 | replace h64 := nrm5 h64 | replace h64 := nrm6 h64 | replace h64 := of_decide_eq_true h64 | replace h64 := of_decide_eq_false h64 | skip
                    refine st_y S rfl rfl rfl (y_move S rfl) ?_; clear S a; intro a S
                    refine st_y S rfl rfl rfl (y_int S rfl rfl rfl) ?_; clear S a; intro a S
                    refine st_y S rfl rfl rfl (y_pickT S rfl rfl) ?_; clear S a; intro a S
                    refine st_y S rfl rfl rfl (y_assign S rfl) ?_; clear S a; intro a S
                    refine wpList_nil ?_
                    replace S := S.sub [(1, _), (2, _), (3, _), (6, _), (9, _), (12, _), (13, _), (0, _)] rfl
                    refine then_normal ?_
                    refine wp_ret ?_
                    refine end_one S rfl (res_tmp rfl) ?_
                    exact ⟨rfl, M.below⟩
                  · clear S; intro h64 S
                    first | replace h64 := nrmA h64 | replace h64 := nrmB h64 | skip
                    first | replace h64 := nrm1 h64 | replace h64 := nrm2 h64 | replace h64 := nrm3 h64 | replace h64 := nrm4 h64 | replace h64 := nrm5 h64 | replace h64 := nrm6 h64 | replace h64 := of_decide_eq_true h64 | replace h64 := of_decide_eq_false h64 | skip
                    simp at h64
                · clear S; intro h60 S
                  first | replace h60 := nrmA h60 | replace h60 := nrmB h60 | skip
                  first | replace h60 := nrm1 h60 | replace h60 := nrm2 h60 | replace h60 := nrm3 h60 | replace h60 := nrm4 h60 | replace h60 := nrm5 h60 | replace h60 := nrm6 h60 | replace h60 := of_decide_eq_true h60 | replace h60 := of_decide_eq_false h60 | skip
                  simp at h60
              · clear S; intro h56 S
                first | replace h56 := nrmA h56 | replace h56 := nrmB h56 | skip
                first | replace h56 := nrm1 h56 | replace h56 := nrm2 h56 | replace h56 := nrm3 h56 | replace h56 := nrm4 h56 | replace h56 := nrm5 h56 | replace h56 := nrm6 h56 | replace h56 := of_decide_eq_true h56 | replace h56 := of_decide_eq_false h56 | skip
                simp at h56
            · clear S; intro h52 S
              first | replace h52 := nrmA h52 | replace h52 := nrmB h52 | skip
              first | replace h52 := nrm1 h52 | replace h52 := nrm2 h52 | replace h52 := nrm3 h52 | replace h52 := nrm4 h52 | replace h52 := nrm5 h52 | replace h52 := nrm6 h52 | replace h52 := of_decide_eq_true h52 | replace h52 := of_decide_eq_false h52 | skip
              simp at h52
          · clear S; intro h48 S
            first | replace h48 := nrmA h48 | replace h48 := nrmB h48 | skip
            first | replace h48 := nrm1 h48 | replace h48 := nrm2 h48 | replace h48 := nrm3 h48 | replace h48 := nrm4 h48 | replace h48 := nrm5 h48 | replace h48 := nrm6 h48 | replace h48 := of_decide_eq_true h48 | replace h48 := of_decide_eq_false h48 | skip
            simp at h48

end Go.Proofs.Ytdcihmdchabcnaa
