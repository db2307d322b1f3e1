/-
  Package wire: bare.
-/
import Derived.Test.YtcpobgjoicadjaaWa
namespace Go.Proofs.Ytcpobgjoicadjaa
open Go.RowKit Go.Sort

/-- a message with the fields of its kind alone, up to the j-th -/
def bareM (h : Nat → Bool) (j : Nat) (m : Msg) : Msg :=
  { m with
    name := if (decide (0 < j) && !h 0) = true then ⟨0, 0, 0⟩ else m.name
    n := if (decide (1 < j) && !h 1) = true then 0 else m.n
    op := if (decide (2 < j) && !h 2) = true then 0 else m.op
    block := if (decide (3 < j) && !h 3) = true then 0 else m.block
    val := if (decide (4 < j) && !h 4) = true then ⟨0, 0, 0, 0, 0, 0, 0, 0⟩ else m.val
    e := if (decide (5 < j) && !h 5) = true then 0 else m.e
    yes := if (decide (6 < j) && !h 6) = true then false else m.yes
    give := if (decide (7 < j) && !h 7) = true then 0 else m.give
    take := if (decide (8 < j) && !h 8) = true then 0 else m.take }
def bareW (h : Nat → Bool) (j : Nat) (v : Value) : Value := if (decide (9 < j) && !h 9) = true then .slice none 0 0 else v
def bareX (h : Nat → Bool) (x : List Wr) : List Wr := if h 9 then x else []
abbrev zMsg : Msg := ⟨0, 0, 0, 0, 0, ⟨0, 0, 0⟩, 0, 0, 0, ⟨0, 0, 0, 0, 0, 0, 0, 0⟩, 0, false, 0, 0⟩
theorem bareM_same {h : Nat → Bool} {j : Nat} (hj : h j = true) (m : Msg) : bareM h (j + 1) m = bareM h j m := by
  have e : ∀ i, (decide (i < j + 1) && !h i) = (decide (i < j) && !h i) := fun i => by
    by_cases hi : i = j
    · subst hi; simp [hj]
    · have : (i < j + 1) = (i < j) := by simp only [eq_iff_iff]; omega
      simp only [this]
  unfold bareM; simp only [e]
theorem bareW_same {h : Nat → Bool} {j : Nat} (hj : h j = true) (v : Value) : bareW h (j + 1) v = bareW h j v := by
  have e : (decide (9 < j + 1) && !h 9) = (decide (9 < j) && !h 9) := by
    by_cases hi : 9 = j
    · subst hi; simp [hj]
    · have : (9 < j + 1) = (9 < j) := by simp only [eq_iff_iff]; omega
      simp only [this]
  unfold bareW; simp only [e]
def BarePost (h : Nat → Bool) (m : Msg) (va : Option Addr) (vn vc : Nat) (x : List Wr) (w : World) (e : Ending) (w' : World) : Prop :=
  ∃ ad l c, e = .returned (.agg ((bareM h 10 m).cells (.slice ad l c))) ∧ Below w.heap.size w w' ∧ ((ad = none ∧ l = 0 ∧ c = 0 ∧ bareX h x = []) ∨ (ad = va ∧ l = vn ∧ c = vc ∧ bareX h x = x))
theorem bare_any (m : Msg) (va : Option Addr) (vn vc : Nat) (x : List Wr) (d : Bool) (h : Nat → Bool) (w : World) :
    Calls Try.prog 17 #[.agg (m.cells (.slice va vn vc)), .agg (kdL d h).toArray] w (BarePost h m va vn vc x w) := by
  have M := Mem.start w
  refine calls_enter Try.func17 rfl 50 rfl rfl ?_; intro a S
  refine wp_seq ?_
  -- region 0 wire.go:95
  refine wp_region_lit ?_
  refine st_box S M rfl rfl rfl #[_, _, _, _, _, _, _, _, _, _, _, _, _, _, _, _, _, _, _, _, _, _, _, _] rfl ?_; clear S M a; intro a w1 bA S M hB
  refine st_box S M rfl rfl rfl #[_, _, _, _, _, _, _, _, _, _, _] rfl ?_; clear S M a; intro a w2 bK S M hB
  refine st_alloc S M rfl rfl #[.int .i8 0, .int .i64 0, .int .i64 0, .int .i64 0, .int .i64 0, .int .i64 0, .int .i64 0, .int .i64 0, .int .i64 0, .int .i8 0, .int .i64 0, .int .u8 0, .int .u8 0, .int .u8 0, .int .u8 0, .int .u8 0, .int .u8 0, .int .u8 0, .int .u8 0, .int .i64 0, .bool false, .int .i64 0, .int .i64 0, .slice none 0 0] (by kernel_rfl) ?_; clear S M a; intro a w3 bO S M hB
  refine wpList_nil ?_
  replace S := S.sub [(0, _), (1, _), (2, _), (3, _), (4, _)] rfl
  refine then_normal ?_
  refine wp_seq ?_
  -- region 1 wire.go:96
  refine wp_region_lit ?_
  refine st_y S rfl rfl rfl (y_loadAgg (cs := [_, _, _, _, _, _, _, _, _, _, _, _, _, _, _, _, _, _, _, _, _, _, _, _]) S (by kernel_rfl) rfl rfl (M.cellsAt (k := 24) 2 rfl rfl)) ?_; clear S a; intro a S
  refine st_alloc S M rfl rfl #[.int .i8 0, .int .i64 0, .int .i64 0, .int .i64 0, .int .i64 0, .int .i64 0, .int .i64 0, .int .i64 0, .int .i64 0, .int .i8 0, .int .i64 0, .int .u8 0, .int .u8 0, .int .u8 0, .int .u8 0, .int .u8 0, .int .u8 0, .int .u8 0, .int .u8 0, .int .i64 0, .bool false, .int .i64 0, .int .i64 0, .slice none 0 0] (by kernel_rfl) ?_; clear S M a; intro a w4 bB S M hB
  refine st_store (sz := 24) (us := [_, _, _, _, _, _, _, _, _, _, _, _, _, _, _, _, _, _, _, _, _, _, _, _]) S M 0 rfl (by kernel_rfl) rfl rfl rfl rfl rfl rfl (by first | decide | (simp; done) | (simp; omega)) ?_; clear M; intro w5 M
  simp only [putL, List.set_cons_zero, List.set_cons_succ, Nat.reduceAdd] at M
  refine wpList_nil ?_
  replace S := S.sub [(0, _), (1, _), (2, _), (3, _), (4, _), (5, _)] rfl
  refine then_normal ?_
  refine wp_seq ?_
  refine wp_seq ?_
  -- region 2 wire.go:97
  refine wp_region_lit ?_
  refine st_y S rfl rfl rfl (y_move S rfl) ?_; clear S a; intro a S
  refine wpList_nil ?_
  replace S := S.sub [(0, _), (1, _), (2, _), (3, _), (4, _), (5, _), (8, _)] rfl
  refine then_normal ?_
  refine wp_block ?_
  refine wp_loop_g (fun q a w' => ∃ (j : Nat), j ≤ 10 ∧ q = 10 - j ∧ Sees 50 a [(3, .pointer (some ⟨bK, 0, none⟩)), (4, .pointer (some ⟨bO, 0, none⟩)), (5, .pointer (some ⟨bB, 0, none⟩)), (8, .int .i64 (j : Int))] ∧ Mem w w' [.blk bB ((bareM h j m).cells (bareW h j (.slice va vn vc))) 30, .blk bO (zMsg.cells (.slice none 0 0)) 30, .blk bK (kdL d h).toArray 44]) (10) ?_ ?_
  · skip
    exact ⟨0, by omega, rfl, S.sub _ rfl, M.drop 3⟩
  · clear S M a; intro m a wl
    rintro ⟨j, hj, rfl, S, M⟩
    refine wp_seq ?_
    -- region 3 wire.go:97
    refine wp_region_lit ?_
    refine st_y S rfl rfl rfl (y_int S rfl rfl rfl) ?_; clear S a; intro a S
    refine wpList_nil ?_
    replace S := S.sub [(3, _), (4, _), (5, _), (8, _), (9, _)] rfl
    refine then_normal ?_
    refine wp_seq ?_
    refine st_split (t := 9) S rfl ?_ ?_
    · clear S; intro h9 S
      first | replace h9 := nrmA h9 | replace h9 := nrmB h9 | skip
      first | replace h9 := nrm1 h9 | replace h9 := nrm2 h9 | replace h9 := nrm3 h9 | replace h9 := nrm4 h9 | replace h9 := nrm5 h9 | replace h9 := nrm6 h9 | replace h9 := of_decide_eq_true h9 | replace h9 := of_decide_eq_false h9 | skip
      refine st_condT S rfl ?_
      refine wp_skip ?_
      refine then_normal ?_
      refine wp_seq ?_
      refine wp_block ?_
      refine wp_seq ?_
      -- region 4 wire.go:97
      refine wp_region_lit ?_
      refine st_y S rfl rfl rfl (y_move S rfl) ?_; clear S a; intro a S
      refine st_y S rfl rfl rfl (y_assign S rfl) ?_; clear S a; intro a S
      refine wpList_nil ?_
      replace S := S.sub [(3, _), (4, _), (5, _), (8, _), (9, _), (6, _)] rfl
      refine then_normal ?_
      refine wp_seq ?_
      refine wp_seq ?_
      -- region 5 wire.go:98
      refine wp_region_lit ?_
      refine st_y S rfl rfl rfl (y_move S rfl) ?_; clear S a; intro a S
      refine st_y S rfl rfl rfl (y_fieldAddr (k := 1) S (by kernel_rfl) rfl) ?_; clear S a; intro a S
      refine st_y S rfl rfl rfl (y_indexA (m := 10) (sz := 1) S (by kernel_rfl) rfl rfl (by first | omega | (simp; done) | (simp; omega))) ?_; clear S a; intro a S
      try simp only [Int.toNat_natCast, Nat.mul_one, Nat.zero_add] at S
      refine st_y S rfl rfl rfl (y_load S (by kernel_rfl) rfl (M.cell 2 rfl (kd_get (by omega)))) ?_; clear S a; intro a S
      refine wpList_nil ?_
      replace S := S.sub [(3, _), (4, _), (5, _), (8, _), (9, _), (6, _), (14, _)] rfl
      refine then_normal ?_
      refine st_split (t := 14) S rfl ?_ ?_
      · clear S; intro h14 S
        refine st_condT S rfl ?_
        refine wp_exit ?_
        refine then_exit ?_
        refine block_hit ?_
        refine then_normal ?_
        -- region 27 wire.go:97
        refine wp_region_lit ?_
        (first | refine st_y S rfl rfl rfl (y_addN S rfl rfl (by omega)) ?_ | refine st_y S rfl rfl rfl (y_int S rfl rfl rfl) ?_); clear S a; intro a S
        refine st_y S rfl rfl rfl (y_move S rfl) ?_; clear S a; intro a S
        refine wpList_nil ?_
        replace S := S.sub [(3, _), (4, _), (5, _), (9, _), (6, _), (14, _), (8, _)] rfl
        refine then_normal ?_
        refine ⟨10 - (j + 1), by omega, j + 1, by omega, rfl, S.sub _ rfl, ?_⟩
        first
          | (rw [bareM_same h14, bareW_same h14]; exact M)
          | (exfalso; omega)
          | (suffices hj0 : j = 0 by (subst hj0; exact M.eqH (by simp [bareM, bareW, h14]))
             omega)
          | (suffices hj0 : j = 1 by (subst hj0; exact M.eqH (by simp [bareM, bareW, h14]))
             omega)
          | (suffices hj0 : j = 2 by (subst hj0; exact M.eqH (by simp [bareM, bareW, h14]))
             omega)
          | (suffices hj0 : j = 3 by (subst hj0; exact M.eqH (by simp [bareM, bareW, h14]))
             omega)
          | (suffices hj0 : j = 4 by (subst hj0; exact M.eqH (by simp [bareM, bareW, h14]))
             omega)
          | (suffices hj0 : j = 5 by (subst hj0; exact M.eqH (by simp [bareM, bareW, h14]))
             omega)
          | (suffices hj0 : j = 6 by (subst hj0; exact M.eqH (by simp [bareM, bareW, h14]))
             omega)
          | (suffices hj0 : j = 7 by (subst hj0; exact M.eqH (by simp [bareM, bareW, h14]))
             omega)
          | (suffices hj0 : j = 8 by (subst hj0; exact M.eqH (by simp [bareM, bareW, h14]))
             omega)
          | (suffices hj0 : j = 9 by (subst hj0; exact M.eqH (by simp [bareM, bareW, h14]))
             omega)
      · clear S; intro h14 S
        refine st_condF S rfl ?_
        refine wp_skip ?_
        refine then_normal ?_
        refine wp_seq ?_
        -- region 6 wire.go:101
        refine wp_region_lit ?_
        refine st_y S rfl rfl rfl (y_move S rfl) ?_; clear S a; intro a S
        refine wpList_nil ?_
        replace S := S.sub [(3, _), (4, _), (5, _), (8, _), (9, _), (6, _), (14, _), (15, _)] rfl
        refine then_normal ?_
        refine wp_block ?_
        refine wp_seq ?_
        -- region 7 wire.go:102
        refine wp_region_lit ?_
        refine st_y S rfl rfl rfl (y_int S rfl rfl rfl) ?_; clear S a; intro a S
        refine st_y S rfl rfl rfl (y_assign S rfl) ?_; clear S a; intro a S
        refine wpList_nil ?_
        replace S := S.sub [(3, _), (4, _), (5, _), (8, _), (9, _), (6, _), (14, _), (15, _), (16, _)] rfl
        refine then_normal ?_
        refine st_split (t := 16) S rfl ?_ ?_
        · clear S; intro h16 S
          first | replace h16 := nrmA h16 | replace h16 := nrmB h16 | skip
          first | replace h16 := nrm1 h16 | replace h16 := nrm2 h16 | replace h16 := nrm3 h16 | replace h16 := nrm4 h16 | replace h16 := nrm5 h16 | replace h16 := nrm6 h16 | replace h16 := of_decide_eq_true h16 | replace h16 := of_decide_eq_false h16 | skip
          refine st_condT S rfl ?_
          -- region 8 wire.go:103
          refine wp_region_lit ?_
          refine st_y S rfl rfl rfl (y_build (ps := []) (pl := [(0, 1), (1, 1), (2, 1)]) (z := [.int .i64 0, .int .i64 0, .int .i64 0]) (cs := [_, _, _]) S (by kernel_rfl) rfl (rfl)) ?_; clear S a; intro a S
          refine st_y S rfl rfl rfl (y_fieldAddr (k := 5) S (by kernel_rfl) rfl) ?_; clear S a; intro a S
          refine st_store (sz := 3) (us := [_, _, _]) S M 0 rfl (by kernel_rfl) rfl rfl rfl rfl rfl rfl (by first | decide | (simp; done) | (simp; omega)) ?_; clear M; intro w6 M
          simp only [putL, List.set_cons_zero, List.set_cons_succ, Nat.reduceAdd] at M
          refine wpList_nil ?_
          replace S := S.sub [(3, _), (4, _), (5, _), (8, _), (9, _), (6, _), (14, _), (15, _), (16, _)] rfl
          refine block_normal ?_
          refine block_normal ?_
          refine then_normal ?_
          -- region 27 wire.go:97
          refine wp_region_lit ?_
          (first | refine st_y S rfl rfl rfl (y_addN S rfl rfl (by omega)) ?_ | refine st_y S rfl rfl rfl (y_int S rfl rfl rfl) ?_); clear S a; intro a S
          refine st_y S rfl rfl rfl (y_move S rfl) ?_; clear S a; intro a S
          refine wpList_nil ?_
          replace S := S.sub [(3, _), (4, _), (5, _), (9, _), (6, _), (14, _), (15, _), (16, _), (8, _)] rfl
          refine then_normal ?_
          refine ⟨10 - (j + 1), by omega, j + 1, by omega, rfl, S.sub _ rfl, ?_⟩
          first
            | (rw [bareM_same h14, bareW_same h14]; exact M)
            | (exfalso; omega)
            | (suffices hj0 : j = 0 by (subst hj0; exact M.eqH (by simp [bareM, bareW, h14]))
               omega)
            | (suffices hj0 : j = 1 by (subst hj0; exact M.eqH (by simp [bareM, bareW, h14]))
               omega)
            | (suffices hj0 : j = 2 by (subst hj0; exact M.eqH (by simp [bareM, bareW, h14]))
               omega)
            | (suffices hj0 : j = 3 by (subst hj0; exact M.eqH (by simp [bareM, bareW, h14]))
               omega)
            | (suffices hj0 : j = 4 by (subst hj0; exact M.eqH (by simp [bareM, bareW, h14]))
               omega)
            | (suffices hj0 : j = 5 by (subst hj0; exact M.eqH (by simp [bareM, bareW, h14]))
               omega)
            | (suffices hj0 : j = 6 by (subst hj0; exact M.eqH (by simp [bareM, bareW, h14]))
               omega)
            | (suffices hj0 : j = 7 by (subst hj0; exact M.eqH (by simp [bareM, bareW, h14]))
               omega)
            | (suffices hj0 : j = 8 by (subst hj0; exact M.eqH (by simp [bareM, bareW, h14]))
               omega)
            | (suffices hj0 : j = 9 by (subst hj0; exact M.eqH (by simp [bareM, bareW, h14]))
               omega)
        · clear S; intro h16 S
          first | replace h16 := nrmA h16 | replace h16 := nrmB h16 | skip
          first | replace h16 := nrm1 h16 | replace h16 := nrm2 h16 | replace h16 := nrm3 h16 | replace h16 := nrm4 h16 | replace h16 := nrm5 h16 | replace h16 := nrm6 h16 | replace h16 := of_decide_eq_true h16 | replace h16 := of_decide_eq_false h16 | skip
          refine st_condF S rfl ?_
          refine wp_seq ?_
          -- region 9 wire.go:104
          refine wp_region_lit ?_
          refine st_y S rfl rfl rfl (y_int S rfl rfl rfl) ?_; clear S a; intro a S
          refine st_y S rfl rfl rfl (y_assign S rfl) ?_; clear S a; intro a S
          refine wpList_nil ?_
          replace S := S.sub [(3, _), (4, _), (5, _), (8, _), (9, _), (6, _), (14, _), (15, _), (16, _), (20, _)] rfl
          refine then_normal ?_
          refine st_split (t := 20) S rfl ?_ ?_
          · clear S; intro h20 S
            first | replace h20 := nrmA h20 | replace h20 := nrmB h20 | skip
            first | replace h20 := nrm1 h20 | replace h20 := nrm2 h20 | replace h20 := nrm3 h20 | replace h20 := nrm4 h20 | replace h20 := nrm5 h20 | replace h20 := nrm6 h20 | replace h20 := of_decide_eq_true h20 | replace h20 := of_decide_eq_false h20 | skip
            refine st_condT S rfl ?_
            -- region 10 wire.go:105
            refine wp_region_lit ?_
            refine st_y S rfl rfl rfl (y_fieldAddr (k := 8) S (by kernel_rfl) rfl) ?_; clear S a; intro a S
            refine st_store (sz := 1) (us := [_]) S M 0 rfl (by kernel_rfl) rfl rfl rfl rfl rfl rfl (by first | decide | (simp; done) | (simp; omega)) ?_; clear M; intro w7 M
            simp only [putL, List.set_cons_zero, List.set_cons_succ, Nat.reduceAdd] at M
            refine wpList_nil ?_
            replace S := S.sub [(3, _), (4, _), (5, _), (8, _), (9, _), (6, _), (14, _), (15, _), (16, _), (20, _)] rfl
            refine block_normal ?_
            refine block_normal ?_
            refine then_normal ?_
            -- region 27 wire.go:97
            refine wp_region_lit ?_
            (first | refine st_y S rfl rfl rfl (y_addN S rfl rfl (by omega)) ?_ | refine st_y S rfl rfl rfl (y_int S rfl rfl rfl) ?_); clear S a; intro a S
            refine st_y S rfl rfl rfl (y_move S rfl) ?_; clear S a; intro a S
            refine wpList_nil ?_
            replace S := S.sub [(3, _), (4, _), (5, _), (9, _), (6, _), (14, _), (15, _), (16, _), (20, _), (8, _)] rfl
            refine then_normal ?_
            refine ⟨10 - (j + 1), by omega, j + 1, by omega, rfl, S.sub _ rfl, ?_⟩
            first
              | (rw [bareM_same h14, bareW_same h14]; exact M)
              | (exfalso; omega)
              | (suffices hj0 : j = 0 by (subst hj0; exact M.eqH (by simp [bareM, bareW, h14]))
                 omega)
              | (suffices hj0 : j = 1 by (subst hj0; exact M.eqH (by simp [bareM, bareW, h14]))
                 omega)
              | (suffices hj0 : j = 2 by (subst hj0; exact M.eqH (by simp [bareM, bareW, h14]))
                 omega)
              | (suffices hj0 : j = 3 by (subst hj0; exact M.eqH (by simp [bareM, bareW, h14]))
                 omega)
              | (suffices hj0 : j = 4 by (subst hj0; exact M.eqH (by simp [bareM, bareW, h14]))
                 omega)
              | (suffices hj0 : j = 5 by (subst hj0; exact M.eqH (by simp [bareM, bareW, h14]))
                 omega)
              | (suffices hj0 : j = 6 by (subst hj0; exact M.eqH (by simp [bareM, bareW, h14]))
                 omega)
              | (suffices hj0 : j = 7 by (subst hj0; exact M.eqH (by simp [bareM, bareW, h14]))
                 omega)
              | (suffices hj0 : j = 8 by (subst hj0; exact M.eqH (by simp [bareM, bareW, h14]))
                 omega)
              | (suffices hj0 : j = 9 by (subst hj0; exact M.eqH (by simp [bareM, bareW, h14]))
                 omega)
          · clear S; intro h20 S
            first | replace h20 := nrmA h20 | replace h20 := nrmB h20 | skip
            first | replace h20 := nrm1 h20 | replace h20 := nrm2 h20 | replace h20 := nrm3 h20 | replace h20 := nrm4 h20 | replace h20 := nrm5 h20 | replace h20 := nrm6 h20 | replace h20 := of_decide_eq_true h20 | replace h20 := of_decide_eq_false h20 | skip
            refine st_condF S rfl ?_
            refine wp_seq ?_
            -- region 11 wire.go:106
            refine wp_region_lit ?_
            refine st_y S rfl rfl rfl (y_int S rfl rfl rfl) ?_; clear S a; intro a S
            refine st_y S rfl rfl rfl (y_assign S rfl) ?_; clear S a; intro a S
            refine wpList_nil ?_
            replace S := S.sub [(3, _), (4, _), (5, _), (8, _), (9, _), (6, _), (14, _), (15, _), (16, _), (20, _), (23, _)] rfl
            refine then_normal ?_
            refine st_split (t := 23) S rfl ?_ ?_
            · clear S; intro h23 S
              first | replace h23 := nrmA h23 | replace h23 := nrmB h23 | skip
              first | replace h23 := nrm1 h23 | replace h23 := nrm2 h23 | replace h23 := nrm3 h23 | replace h23 := nrm4 h23 | replace h23 := nrm5 h23 | replace h23 := nrm6 h23 | replace h23 := of_decide_eq_true h23 | replace h23 := of_decide_eq_false h23 | skip
              refine st_condT S rfl ?_
              -- region 12 wire.go:107
              refine wp_region_lit ?_
              refine st_y S rfl rfl rfl (y_fieldAddr (k := 9) S (by kernel_rfl) rfl) ?_; clear S a; intro a S
              refine st_store (sz := 1) (us := [_]) S M 0 rfl (by kernel_rfl) rfl rfl rfl rfl rfl rfl (by first | decide | (simp; done) | (simp; omega)) ?_; clear M; intro w8 M
              simp only [putL, List.set_cons_zero, List.set_cons_succ, Nat.reduceAdd] at M
              refine wpList_nil ?_
              replace S := S.sub [(3, _), (4, _), (5, _), (8, _), (9, _), (6, _), (14, _), (15, _), (16, _), (20, _), (23, _)] rfl
              refine block_normal ?_
              refine block_normal ?_
              refine then_normal ?_
              -- region 27 wire.go:97
              refine wp_region_lit ?_
              (first | refine st_y S rfl rfl rfl (y_addN S rfl rfl (by omega)) ?_ | refine st_y S rfl rfl rfl (y_int S rfl rfl rfl) ?_); clear S a; intro a S
              refine st_y S rfl rfl rfl (y_move S rfl) ?_; clear S a; intro a S
              refine wpList_nil ?_
              replace S := S.sub [(3, _), (4, _), (5, _), (9, _), (6, _), (14, _), (15, _), (16, _), (20, _), (23, _), (8, _)] rfl
              refine then_normal ?_
              refine ⟨10 - (j + 1), by omega, j + 1, by omega, rfl, S.sub _ rfl, ?_⟩
              first
                | (rw [bareM_same h14, bareW_same h14]; exact M)
                | (exfalso; omega)
                | (suffices hj0 : j = 0 by (subst hj0; exact M.eqH (by simp [bareM, bareW, h14]))
                   omega)
                | (suffices hj0 : j = 1 by (subst hj0; exact M.eqH (by simp [bareM, bareW, h14]))
                   omega)
                | (suffices hj0 : j = 2 by (subst hj0; exact M.eqH (by simp [bareM, bareW, h14]))
                   omega)
                | (suffices hj0 : j = 3 by (subst hj0; exact M.eqH (by simp [bareM, bareW, h14]))
                   omega)
                | (suffices hj0 : j = 4 by (subst hj0; exact M.eqH (by simp [bareM, bareW, h14]))
                   omega)
                | (suffices hj0 : j = 5 by (subst hj0; exact M.eqH (by simp [bareM, bareW, h14]))
                   omega)
                | (suffices hj0 : j = 6 by (subst hj0; exact M.eqH (by simp [bareM, bareW, h14]))
                   omega)
                | (suffices hj0 : j = 7 by (subst hj0; exact M.eqH (by simp [bareM, bareW, h14]))
                   omega)
                | (suffices hj0 : j = 8 by (subst hj0; exact M.eqH (by simp [bareM, bareW, h14]))
                   omega)
                | (suffices hj0 : j = 9 by (subst hj0; exact M.eqH (by simp [bareM, bareW, h14]))
                   omega)
            · clear S; intro h23 S
              first | replace h23 := nrmA h23 | replace h23 := nrmB h23 | skip
              first | replace h23 := nrm1 h23 | replace h23 := nrm2 h23 | replace h23 := nrm3 h23 | replace h23 := nrm4 h23 | replace h23 := nrm5 h23 | replace h23 := nrm6 h23 | replace h23 := of_decide_eq_true h23 | replace h23 := of_decide_eq_false h23 | skip
              refine st_condF S rfl ?_
              refine wp_seq ?_
              -- region 13 wire.go:108
              refine wp_region_lit ?_
              refine st_y S rfl rfl rfl (y_int S rfl rfl rfl) ?_; clear S a; intro a S
              refine st_y S rfl rfl rfl (y_assign S rfl) ?_; clear S a; intro a S
              refine wpList_nil ?_
              replace S := S.sub [(3, _), (4, _), (5, _), (8, _), (9, _), (6, _), (14, _), (15, _), (16, _), (20, _), (23, _), (26, _)] rfl
              refine then_normal ?_
              refine st_split (t := 26) S rfl ?_ ?_
              · clear S; intro h26 S
                first | replace h26 := nrmA h26 | replace h26 := nrmB h26 | skip
                first | replace h26 := nrm1 h26 | replace h26 := nrm2 h26 | replace h26 := nrm3 h26 | replace h26 := nrm4 h26 | replace h26 := nrm5 h26 | replace h26 := nrm6 h26 | replace h26 := of_decide_eq_true h26 | replace h26 := of_decide_eq_false h26 | skip
                refine st_condT S rfl ?_
                -- region 14 wire.go:109
                refine wp_region_lit ?_
                refine st_y S rfl rfl rfl (y_fieldAddr (k := 10) S (by kernel_rfl) rfl) ?_; clear S a; intro a S
                refine st_store (sz := 1) (us := [_]) S M 0 rfl (by kernel_rfl) rfl rfl rfl rfl rfl rfl (by first | decide | (simp; done) | (simp; omega)) ?_; clear M; intro w9 M
                simp only [putL, List.set_cons_zero, List.set_cons_succ, Nat.reduceAdd] at M
                refine wpList_nil ?_
                replace S := S.sub [(3, _), (4, _), (5, _), (8, _), (9, _), (6, _), (14, _), (15, _), (16, _), (20, _), (23, _), (26, _)] rfl
                refine block_normal ?_
                refine block_normal ?_
                refine then_normal ?_
                -- region 27 wire.go:97
                refine wp_region_lit ?_
                (first | refine st_y S rfl rfl rfl (y_addN S rfl rfl (by omega)) ?_ | refine st_y S rfl rfl rfl (y_int S rfl rfl rfl) ?_); clear S a; intro a S
                refine st_y S rfl rfl rfl (y_move S rfl) ?_; clear S a; intro a S
                refine wpList_nil ?_
                replace S := S.sub [(3, _), (4, _), (5, _), (9, _), (6, _), (14, _), (15, _), (16, _), (20, _), (23, _), (26, _), (8, _)] rfl
                refine then_normal ?_
                refine ⟨10 - (j + 1), by omega, j + 1, by omega, rfl, S.sub _ rfl, ?_⟩
                first
                  | (rw [bareM_same h14, bareW_same h14]; exact M)
                  | (exfalso; omega)
                  | (suffices hj0 : j = 0 by (subst hj0; exact M.eqH (by simp [bareM, bareW, h14]))
                     omega)
                  | (suffices hj0 : j = 1 by (subst hj0; exact M.eqH (by simp [bareM, bareW, h14]))
                     omega)
                  | (suffices hj0 : j = 2 by (subst hj0; exact M.eqH (by simp [bareM, bareW, h14]))
                     omega)
                  | (suffices hj0 : j = 3 by (subst hj0; exact M.eqH (by simp [bareM, bareW, h14]))
                     omega)
                  | (suffices hj0 : j = 4 by (subst hj0; exact M.eqH (by simp [bareM, bareW, h14]))
                     omega)
                  | (suffices hj0 : j = 5 by (subst hj0; exact M.eqH (by simp [bareM, bareW, h14]))
                     omega)
                  | (suffices hj0 : j = 6 by (subst hj0; exact M.eqH (by simp [bareM, bareW, h14]))
                     omega)
                  | (suffices hj0 : j = 7 by (subst hj0; exact M.eqH (by simp [bareM, bareW, h14]))
                     omega)
                  | (suffices hj0 : j = 8 by (subst hj0; exact M.eqH (by simp [bareM, bareW, h14]))
                     omega)
                  | (suffices hj0 : j = 9 by (subst hj0; exact M.eqH (by simp [bareM, bareW, h14]))
                     omega)
              · clear S; intro h26 S
                first | replace h26 := nrmA h26 | replace h26 := nrmB h26 | skip
                first | replace h26 := nrm1 h26 | replace h26 := nrm2 h26 | replace h26 := nrm3 h26 | replace h26 := nrm4 h26 | replace h26 := nrm5 h26 | replace h26 := nrm6 h26 | replace h26 := of_decide_eq_true h26 | replace h26 := of_decide_eq_false h26 | skip
                refine st_condF S rfl ?_
                refine wp_seq ?_
                -- region 15 wire.go:110
                refine wp_region_lit ?_
                refine st_y S rfl rfl rfl (y_int S rfl rfl rfl) ?_; clear S a; intro a S
                refine st_y S rfl rfl rfl (y_assign S rfl) ?_; clear S a; intro a S
                refine wpList_nil ?_
                replace S := S.sub [(3, _), (4, _), (5, _), (8, _), (9, _), (6, _), (14, _), (15, _), (16, _), (20, _), (23, _), (26, _), (29, _)] rfl
                refine then_normal ?_
                refine st_split (t := 29) S rfl ?_ ?_
                · clear S; intro h29 S
                  first | replace h29 := nrmA h29 | replace h29 := nrmB h29 | skip
                  first | replace h29 := nrm1 h29 | replace h29 := nrm2 h29 | replace h29 := nrm3 h29 | replace h29 := nrm4 h29 | replace h29 := nrm5 h29 | replace h29 := nrm6 h29 | replace h29 := of_decide_eq_true h29 | replace h29 := of_decide_eq_false h29 | skip
                  refine st_condT S rfl ?_
                  -- region 16 wire.go:111
                  refine wp_region_lit ?_
                  refine st_y S rfl rfl rfl (y_buildA (ps := []) (sz := 1) (z := [.int .u8 0, .int .u8 0, .int .u8 0, .int .u8 0, .int .u8 0, .int .u8 0, .int .u8 0, .int .u8 0]) (cs := [_, _, _, _, _, _, _, _]) S (by kernel_rfl) rfl rfl) ?_; clear S a; intro a S
                  refine st_y S rfl rfl rfl (y_fieldAddr (k := 11) S (by kernel_rfl) rfl) ?_; clear S a; intro a S
                  refine st_store (sz := 8) (us := [_, _, _, _, _, _, _, _]) S M 0 rfl (by kernel_rfl) rfl rfl rfl rfl rfl rfl (by first | decide | (simp; done) | (simp; omega)) ?_; clear M; intro w10 M
                  simp only [putL, List.set_cons_zero, List.set_cons_succ, Nat.reduceAdd] at M
                  refine wpList_nil ?_
                  replace S := S.sub [(3, _), (4, _), (5, _), (8, _), (9, _), (6, _), (14, _), (15, _), (16, _), (20, _), (23, _), (26, _), (29, _)] rfl
                  refine block_normal ?_
                  refine block_normal ?_
                  refine then_normal ?_
                  -- region 27 wire.go:97
                  refine wp_region_lit ?_
                  (first | refine st_y S rfl rfl rfl (y_addN S rfl rfl (by omega)) ?_ | refine st_y S rfl rfl rfl (y_int S rfl rfl rfl) ?_); clear S a; intro a S
                  refine st_y S rfl rfl rfl (y_move S rfl) ?_; clear S a; intro a S
                  refine wpList_nil ?_
                  replace S := S.sub [(3, _), (4, _), (5, _), (9, _), (6, _), (14, _), (15, _), (16, _), (20, _), (23, _), (26, _), (29, _), (8, _)] rfl
                  refine then_normal ?_
                  refine ⟨10 - (j + 1), by omega, j + 1, by omega, rfl, S.sub _ rfl, ?_⟩
                  first
                    | (rw [bareM_same h14, bareW_same h14]; exact M)
                    | (exfalso; omega)
                    | (suffices hj0 : j = 0 by (subst hj0; exact M.eqH (by simp [bareM, bareW, h14]))
                       omega)
                    | (suffices hj0 : j = 1 by (subst hj0; exact M.eqH (by simp [bareM, bareW, h14]))
                       omega)
                    | (suffices hj0 : j = 2 by (subst hj0; exact M.eqH (by simp [bareM, bareW, h14]))
                       omega)
                    | (suffices hj0 : j = 3 by (subst hj0; exact M.eqH (by simp [bareM, bareW, h14]))
                       omega)
                    | (suffices hj0 : j = 4 by (subst hj0; exact M.eqH (by simp [bareM, bareW, h14]))
                       omega)
                    | (suffices hj0 : j = 5 by (subst hj0; exact M.eqH (by simp [bareM, bareW, h14]))
                       omega)
                    | (suffices hj0 : j = 6 by (subst hj0; exact M.eqH (by simp [bareM, bareW, h14]))
                       omega)
                    | (suffices hj0 : j = 7 by (subst hj0; exact M.eqH (by simp [bareM, bareW, h14]))
                       omega)
                    | (suffices hj0 : j = 8 by (subst hj0; exact M.eqH (by simp [bareM, bareW, h14]))
                       omega)
                    | (suffices hj0 : j = 9 by (subst hj0; exact M.eqH (by simp [bareM, bareW, h14]))
                       omega)
                · clear S; intro h29 S
                  first | replace h29 := nrmA h29 | replace h29 := nrmB h29 | skip
                  first | replace h29 := nrm1 h29 | replace h29 := nrm2 h29 | replace h29 := nrm3 h29 | replace h29 := nrm4 h29 | replace h29 := nrm5 h29 | replace h29 := nrm6 h29 | replace h29 := of_decide_eq_true h29 | replace h29 := of_decide_eq_false h29 | skip
                  refine st_condF S rfl ?_
                  refine wp_seq ?_
                  -- region 17 wire.go:112
                  refine wp_region_lit ?_
                  refine st_y S rfl rfl rfl (y_int S rfl rfl rfl) ?_; clear S a; intro a S
                  refine st_y S rfl rfl rfl (y_assign S rfl) ?_; clear S a; intro a S
                  refine wpList_nil ?_
                  replace S := S.sub [(3, _), (4, _), (5, _), (8, _), (9, _), (6, _), (14, _), (15, _), (16, _), (20, _), (23, _), (26, _), (29, _), (33, _)] rfl
                  refine then_normal ?_
                  refine st_split (t := 33) S rfl ?_ ?_
                  · clear S; intro h33 S
                    first | replace h33 := nrmA h33 | replace h33 := nrmB h33 | skip
                    first | replace h33 := nrm1 h33 | replace h33 := nrm2 h33 | replace h33 := nrm3 h33 | replace h33 := nrm4 h33 | replace h33 := nrm5 h33 | replace h33 := nrm6 h33 | replace h33 := of_decide_eq_true h33 | replace h33 := of_decide_eq_false h33 | skip
                    refine st_condT S rfl ?_
                    -- region 18 wire.go:113
                    refine wp_region_lit ?_
                    refine st_y S rfl rfl rfl (y_fieldAddr (k := 19) S (by kernel_rfl) rfl) ?_; clear S a; intro a S
                    refine st_store (sz := 1) (us := [_]) S M 0 rfl (by kernel_rfl) rfl rfl rfl rfl rfl rfl (by first | decide | (simp; done) | (simp; omega)) ?_; clear M; intro w11 M
                    simp only [putL, List.set_cons_zero, List.set_cons_succ, Nat.reduceAdd] at M
                    refine wpList_nil ?_
                    replace S := S.sub [(3, _), (4, _), (5, _), (8, _), (9, _), (6, _), (14, _), (15, _), (16, _), (20, _), (23, _), (26, _), (29, _), (33, _)] rfl
                    refine block_normal ?_
                    refine block_normal ?_
                    refine then_normal ?_
                    -- region 27 wire.go:97
                    refine wp_region_lit ?_
                    (first | refine st_y S rfl rfl rfl (y_addN S rfl rfl (by omega)) ?_ | refine st_y S rfl rfl rfl (y_int S rfl rfl rfl) ?_); clear S a; intro a S
                    refine st_y S rfl rfl rfl (y_move S rfl) ?_; clear S a; intro a S
                    refine wpList_nil ?_
                    replace S := S.sub [(3, _), (4, _), (5, _), (9, _), (6, _), (14, _), (15, _), (16, _), (20, _), (23, _), (26, _), (29, _), (33, _), (8, _)] rfl
                    refine then_normal ?_
                    refine ⟨10 - (j + 1), by omega, j + 1, by omega, rfl, S.sub _ rfl, ?_⟩
                    first
                      | (rw [bareM_same h14, bareW_same h14]; exact M)
                      | (exfalso; omega)
                      | (suffices hj0 : j = 0 by (subst hj0; exact M.eqH (by simp [bareM, bareW, h14]))
                         omega)
                      | (suffices hj0 : j = 1 by (subst hj0; exact M.eqH (by simp [bareM, bareW, h14]))
                         omega)
                      | (suffices hj0 : j = 2 by (subst hj0; exact M.eqH (by simp [bareM, bareW, h14]))
                         omega)
                      | (suffices hj0 : j = 3 by (subst hj0; exact M.eqH (by simp [bareM, bareW, h14]))
                         omega)
                      | (suffices hj0 : j = 4 by (subst hj0; exact M.eqH (by simp [bareM, bareW, h14]))
                         omega)
                      | (suffices hj0 : j = 5 by (subst hj0; exact M.eqH (by simp [bareM, bareW, h14]))
                         omega)
                      | (suffices hj0 : j = 6 by (subst hj0; exact M.eqH (by simp [bareM, bareW, h14]))
                         omega)
                      | (suffices hj0 : j = 7 by (subst hj0; exact M.eqH (by simp [bareM, bareW, h14]))
                         omega)
                      | (suffices hj0 : j = 8 by (subst hj0; exact M.eqH (by simp [bareM, bareW, h14]))
                         omega)
                      | (suffices hj0 : j = 9 by (subst hj0; exact M.eqH (by simp [bareM, bareW, h14]))
                         omega)
                  · clear S; intro h33 S
                    first | replace h33 := nrmA h33 | replace h33 := nrmB h33 | skip
                    first | replace h33 := nrm1 h33 | replace h33 := nrm2 h33 | replace h33 := nrm3 h33 | replace h33 := nrm4 h33 | replace h33 := nrm5 h33 | replace h33 := nrm6 h33 | replace h33 := of_decide_eq_true h33 | replace h33 := of_decide_eq_false h33 | skip
                    refine st_condF S rfl ?_
                    refine wp_seq ?_
                    -- region 19 wire.go:114
                    refine wp_region_lit ?_
                    refine st_y S rfl rfl rfl (y_int S rfl rfl rfl) ?_; clear S a; intro a S
                    refine st_y S rfl rfl rfl (y_assign S rfl) ?_; clear S a; intro a S
                    refine wpList_nil ?_
                    replace S := S.sub [(3, _), (4, _), (5, _), (8, _), (9, _), (6, _), (14, _), (15, _), (16, _), (20, _), (23, _), (26, _), (29, _), (33, _), (36, _)] rfl
                    refine then_normal ?_
                    refine st_split (t := 36) S rfl ?_ ?_
                    · clear S; intro h36 S
                      first | replace h36 := nrmA h36 | replace h36 := nrmB h36 | skip
                      first | replace h36 := nrm1 h36 | replace h36 := nrm2 h36 | replace h36 := nrm3 h36 | replace h36 := nrm4 h36 | replace h36 := nrm5 h36 | replace h36 := nrm6 h36 | replace h36 := of_decide_eq_true h36 | replace h36 := of_decide_eq_false h36 | skip
                      refine st_condT S rfl ?_
                      -- region 20 wire.go:115
                      refine wp_region_lit ?_
                      refine st_y S rfl rfl rfl (y_fieldAddr (k := 20) S (by kernel_rfl) rfl) ?_; clear S a; intro a S
                      refine st_store (sz := 1) (us := [_]) S M 0 rfl (by kernel_rfl) rfl rfl rfl rfl rfl rfl (by first | decide | (simp; done) | (simp; omega)) ?_; clear M; intro w12 M
                      simp only [putL, List.set_cons_zero, List.set_cons_succ, Nat.reduceAdd] at M
                      refine wpList_nil ?_
                      replace S := S.sub [(3, _), (4, _), (5, _), (8, _), (9, _), (6, _), (14, _), (15, _), (16, _), (20, _), (23, _), (26, _), (29, _), (33, _), (36, _)] rfl
                      refine block_normal ?_
                      refine block_normal ?_
                      refine then_normal ?_
                      -- region 27 wire.go:97
                      refine wp_region_lit ?_
                      (first | refine st_y S rfl rfl rfl (y_addN S rfl rfl (by omega)) ?_ | refine st_y S rfl rfl rfl (y_int S rfl rfl rfl) ?_); clear S a; intro a S
                      refine st_y S rfl rfl rfl (y_move S rfl) ?_; clear S a; intro a S
                      refine wpList_nil ?_
                      replace S := S.sub [(3, _), (4, _), (5, _), (9, _), (6, _), (14, _), (15, _), (16, _), (20, _), (23, _), (26, _), (29, _), (33, _), (36, _), (8, _)] rfl
                      refine then_normal ?_
                      refine ⟨10 - (j + 1), by omega, j + 1, by omega, rfl, S.sub _ rfl, ?_⟩
                      first
                        | (rw [bareM_same h14, bareW_same h14]; exact M)
                        | (exfalso; omega)
                        | (suffices hj0 : j = 0 by (subst hj0; exact M.eqH (by simp [bareM, bareW, h14]))
                           omega)
                        | (suffices hj0 : j = 1 by (subst hj0; exact M.eqH (by simp [bareM, bareW, h14]))
                           omega)
                        | (suffices hj0 : j = 2 by (subst hj0; exact M.eqH (by simp [bareM, bareW, h14]))
                           omega)
                        | (suffices hj0 : j = 3 by (subst hj0; exact M.eqH (by simp [bareM, bareW, h14]))
                           omega)
                        | (suffices hj0 : j = 4 by (subst hj0; exact M.eqH (by simp [bareM, bareW, h14]))
                           omega)
                        | (suffices hj0 : j = 5 by (subst hj0; exact M.eqH (by simp [bareM, bareW, h14]))
                           omega)
                        | (suffices hj0 : j = 6 by (subst hj0; exact M.eqH (by simp [bareM, bareW, h14]))
                           omega)
                        | (suffices hj0 : j = 7 by (subst hj0; exact M.eqH (by simp [bareM, bareW, h14]))
                           omega)
                        | (suffices hj0 : j = 8 by (subst hj0; exact M.eqH (by simp [bareM, bareW, h14]))
                           omega)
                        | (suffices hj0 : j = 9 by (subst hj0; exact M.eqH (by simp [bareM, bareW, h14]))
                           omega)
                    · clear S; intro h36 S
                      first | replace h36 := nrmA h36 | replace h36 := nrmB h36 | skip
                      first | replace h36 := nrm1 h36 | replace h36 := nrm2 h36 | replace h36 := nrm3 h36 | replace h36 := nrm4 h36 | replace h36 := nrm5 h36 | replace h36 := nrm6 h36 | replace h36 := of_decide_eq_true h36 | replace h36 := of_decide_eq_false h36 | skip
                      refine st_condF S rfl ?_
                      refine wp_seq ?_
                      -- region 21 wire.go:116
                      refine wp_region_lit ?_
                      refine st_y S rfl rfl rfl (y_int S rfl rfl rfl) ?_; clear S a; intro a S
                      refine st_y S rfl rfl rfl (y_assign S rfl) ?_; clear S a; intro a S
                      refine wpList_nil ?_
                      replace S := S.sub [(3, _), (4, _), (5, _), (8, _), (9, _), (6, _), (14, _), (15, _), (16, _), (20, _), (23, _), (26, _), (29, _), (33, _), (36, _), (39, _)] rfl
                      refine then_normal ?_
                      refine st_split (t := 39) S rfl ?_ ?_
                      · clear S; intro h39 S
                        first | replace h39 := nrmA h39 | replace h39 := nrmB h39 | skip
                        first | replace h39 := nrm1 h39 | replace h39 := nrm2 h39 | replace h39 := nrm3 h39 | replace h39 := nrm4 h39 | replace h39 := nrm5 h39 | replace h39 := nrm6 h39 | replace h39 := of_decide_eq_true h39 | replace h39 := of_decide_eq_false h39 | skip
                        refine st_condT S rfl ?_
                        -- region 22 wire.go:117
                        refine wp_region_lit ?_
                        refine st_y S rfl rfl rfl (y_fieldAddr (k := 21) S (by kernel_rfl) rfl) ?_; clear S a; intro a S
                        refine st_store (sz := 1) (us := [_]) S M 0 rfl (by kernel_rfl) rfl rfl rfl rfl rfl rfl (by first | decide | (simp; done) | (simp; omega)) ?_; clear M; intro w13 M
                        simp only [putL, List.set_cons_zero, List.set_cons_succ, Nat.reduceAdd] at M
                        refine wpList_nil ?_
                        replace S := S.sub [(3, _), (4, _), (5, _), (8, _), (9, _), (6, _), (14, _), (15, _), (16, _), (20, _), (23, _), (26, _), (29, _), (33, _), (36, _), (39, _)] rfl
                        refine block_normal ?_
                        refine block_normal ?_
                        refine then_normal ?_
                        -- region 27 wire.go:97
                        refine wp_region_lit ?_
                        (first | refine st_y S rfl rfl rfl (y_addN S rfl rfl (by omega)) ?_ | refine st_y S rfl rfl rfl (y_int S rfl rfl rfl) ?_); clear S a; intro a S
                        refine st_y S rfl rfl rfl (y_move S rfl) ?_; clear S a; intro a S
                        refine wpList_nil ?_
                        replace S := S.sub [(3, _), (4, _), (5, _), (9, _), (6, _), (14, _), (15, _), (16, _), (20, _), (23, _), (26, _), (29, _), (33, _), (36, _), (39, _), (8, _)] rfl
                        refine then_normal ?_
                        refine ⟨10 - (j + 1), by omega, j + 1, by omega, rfl, S.sub _ rfl, ?_⟩
                        first
                          | (rw [bareM_same h14, bareW_same h14]; exact M)
                          | (exfalso; omega)
                          | (suffices hj0 : j = 0 by (subst hj0; exact M.eqH (by simp [bareM, bareW, h14]))
                             omega)
                          | (suffices hj0 : j = 1 by (subst hj0; exact M.eqH (by simp [bareM, bareW, h14]))
                             omega)
                          | (suffices hj0 : j = 2 by (subst hj0; exact M.eqH (by simp [bareM, bareW, h14]))
                             omega)
                          | (suffices hj0 : j = 3 by (subst hj0; exact M.eqH (by simp [bareM, bareW, h14]))
                             omega)
                          | (suffices hj0 : j = 4 by (subst hj0; exact M.eqH (by simp [bareM, bareW, h14]))
                             omega)
                          | (suffices hj0 : j = 5 by (subst hj0; exact M.eqH (by simp [bareM, bareW, h14]))
                             omega)
                          | (suffices hj0 : j = 6 by (subst hj0; exact M.eqH (by simp [bareM, bareW, h14]))
                             omega)
                          | (suffices hj0 : j = 7 by (subst hj0; exact M.eqH (by simp [bareM, bareW, h14]))
                             omega)
                          | (suffices hj0 : j = 8 by (subst hj0; exact M.eqH (by simp [bareM, bareW, h14]))
                             omega)
                          | (suffices hj0 : j = 9 by (subst hj0; exact M.eqH (by simp [bareM, bareW, h14]))
                             omega)
                      · clear S; intro h39 S
                        first | replace h39 := nrmA h39 | replace h39 := nrmB h39 | skip
                        first | replace h39 := nrm1 h39 | replace h39 := nrm2 h39 | replace h39 := nrm3 h39 | replace h39 := nrm4 h39 | replace h39 := nrm5 h39 | replace h39 := nrm6 h39 | replace h39 := of_decide_eq_true h39 | replace h39 := of_decide_eq_false h39 | skip
                        refine st_condF S rfl ?_
                        refine wp_seq ?_
                        -- region 23 wire.go:118
                        refine wp_region_lit ?_
                        refine st_y S rfl rfl rfl (y_int S rfl rfl rfl) ?_; clear S a; intro a S
                        refine st_y S rfl rfl rfl (y_assign S rfl) ?_; clear S a; intro a S
                        refine wpList_nil ?_
                        replace S := S.sub [(3, _), (4, _), (5, _), (8, _), (9, _), (6, _), (14, _), (15, _), (16, _), (20, _), (23, _), (26, _), (29, _), (33, _), (36, _), (39, _), (42, _)] rfl
                        refine then_normal ?_
                        refine st_split (t := 42) S rfl ?_ ?_
                        · clear S; intro h42 S
                          first | replace h42 := nrmA h42 | replace h42 := nrmB h42 | skip
                          first | replace h42 := nrm1 h42 | replace h42 := nrm2 h42 | replace h42 := nrm3 h42 | replace h42 := nrm4 h42 | replace h42 := nrm5 h42 | replace h42 := nrm6 h42 | replace h42 := of_decide_eq_true h42 | replace h42 := of_decide_eq_false h42 | skip
                          refine st_condT S rfl ?_
                          -- region 24 wire.go:119
                          refine wp_region_lit ?_
                          refine st_y S rfl rfl rfl (y_fieldAddr (k := 22) S (by kernel_rfl) rfl) ?_; clear S a; intro a S
                          refine st_store (sz := 1) (us := [_]) S M 0 rfl (by kernel_rfl) rfl rfl rfl rfl rfl rfl (by first | decide | (simp; done) | (simp; omega)) ?_; clear M; intro w14 M
                          simp only [putL, List.set_cons_zero, List.set_cons_succ, Nat.reduceAdd] at M
                          refine wpList_nil ?_
                          replace S := S.sub [(3, _), (4, _), (5, _), (8, _), (9, _), (6, _), (14, _), (15, _), (16, _), (20, _), (23, _), (26, _), (29, _), (33, _), (36, _), (39, _), (42, _)] rfl
                          refine block_normal ?_
                          refine block_normal ?_
                          refine then_normal ?_
                          -- region 27 wire.go:97
                          refine wp_region_lit ?_
                          (first | refine st_y S rfl rfl rfl (y_addN S rfl rfl (by omega)) ?_ | refine st_y S rfl rfl rfl (y_int S rfl rfl rfl) ?_); clear S a; intro a S
                          refine st_y S rfl rfl rfl (y_move S rfl) ?_; clear S a; intro a S
                          refine wpList_nil ?_
                          replace S := S.sub [(3, _), (4, _), (5, _), (9, _), (6, _), (14, _), (15, _), (16, _), (20, _), (23, _), (26, _), (29, _), (33, _), (36, _), (39, _), (42, _), (8, _)] rfl
                          refine then_normal ?_
                          refine ⟨10 - (j + 1), by omega, j + 1, by omega, rfl, S.sub _ rfl, ?_⟩
                          first
                            | (rw [bareM_same h14, bareW_same h14]; exact M)
                            | (exfalso; omega)
                            | (suffices hj0 : j = 0 by (subst hj0; exact M.eqH (by simp [bareM, bareW, h14]))
                               omega)
                            | (suffices hj0 : j = 1 by (subst hj0; exact M.eqH (by simp [bareM, bareW, h14]))
                               omega)
                            | (suffices hj0 : j = 2 by (subst hj0; exact M.eqH (by simp [bareM, bareW, h14]))
                               omega)
                            | (suffices hj0 : j = 3 by (subst hj0; exact M.eqH (by simp [bareM, bareW, h14]))
                               omega)
                            | (suffices hj0 : j = 4 by (subst hj0; exact M.eqH (by simp [bareM, bareW, h14]))
                               omega)
                            | (suffices hj0 : j = 5 by (subst hj0; exact M.eqH (by simp [bareM, bareW, h14]))
                               omega)
                            | (suffices hj0 : j = 6 by (subst hj0; exact M.eqH (by simp [bareM, bareW, h14]))
                               omega)
                            | (suffices hj0 : j = 7 by (subst hj0; exact M.eqH (by simp [bareM, bareW, h14]))
                               omega)
                            | (suffices hj0 : j = 8 by (subst hj0; exact M.eqH (by simp [bareM, bareW, h14]))
                               omega)
                            | (suffices hj0 : j = 9 by (subst hj0; exact M.eqH (by simp [bareM, bareW, h14]))
                               omega)
                        · clear S; intro h42 S
                          first | replace h42 := nrmA h42 | replace h42 := nrmB h42 | skip
                          first | replace h42 := nrm1 h42 | replace h42 := nrm2 h42 | replace h42 := nrm3 h42 | replace h42 := nrm4 h42 | replace h42 := nrm5 h42 | replace h42 := nrm6 h42 | replace h42 := of_decide_eq_true h42 | replace h42 := of_decide_eq_false h42 | skip
                          refine st_condF S rfl ?_
                          refine wp_seq ?_
                          -- region 25 wire.go:120
                          refine wp_region_lit ?_
                          refine st_y S rfl rfl rfl (y_int S rfl rfl rfl) ?_; clear S a; intro a S
                          refine st_y S rfl rfl rfl (y_assign S rfl) ?_; clear S a; intro a S
                          refine wpList_nil ?_
                          replace S := S.sub [(3, _), (4, _), (5, _), (8, _), (9, _), (6, _), (14, _), (15, _), (16, _), (20, _), (23, _), (26, _), (29, _), (33, _), (36, _), (39, _), (42, _), (45, _)] rfl
                          refine then_normal ?_
                          refine st_split (t := 45) S rfl ?_ ?_
                          · clear S; intro h45 S
                            first | replace h45 := nrmA h45 | replace h45 := nrmB h45 | skip
                            first | replace h45 := nrm1 h45 | replace h45 := nrm2 h45 | replace h45 := nrm3 h45 | replace h45 := nrm4 h45 | replace h45 := nrm5 h45 | replace h45 := nrm6 h45 | replace h45 := of_decide_eq_true h45 | replace h45 := of_decide_eq_false h45 | skip
                            refine st_condT S rfl ?_
                            -- region 26 wire.go:121
                            refine wp_region_lit ?_
                            refine st_y S rfl rfl rfl (y_fieldAddr (k := 23) S (by kernel_rfl) rfl) ?_; clear S a; intro a S
                            refine st_store (sz := 1) (us := [_]) S M 0 rfl (by kernel_rfl) rfl rfl rfl rfl rfl rfl (by first | decide | (simp; done) | (simp; omega)) ?_; clear M; intro w15 M
                            simp only [putL, List.set_cons_zero, List.set_cons_succ, Nat.reduceAdd] at M
                            refine wpList_nil ?_
                            replace S := S.sub [(3, _), (4, _), (5, _), (8, _), (9, _), (6, _), (14, _), (15, _), (16, _), (20, _), (23, _), (26, _), (29, _), (33, _), (36, _), (39, _), (42, _), (45, _)] rfl
                            refine block_normal ?_
                            refine block_normal ?_
                            refine then_normal ?_
                            -- region 27 wire.go:97
                            refine wp_region_lit ?_
                            (first | refine st_y S rfl rfl rfl (y_addN S rfl rfl (by omega)) ?_ | refine st_y S rfl rfl rfl (y_int S rfl rfl rfl) ?_); clear S a; intro a S
                            refine st_y S rfl rfl rfl (y_move S rfl) ?_; clear S a; intro a S
                            refine wpList_nil ?_
                            replace S := S.sub [(3, _), (4, _), (5, _), (9, _), (6, _), (14, _), (15, _), (16, _), (20, _), (23, _), (26, _), (29, _), (33, _), (36, _), (39, _), (42, _), (45, _), (8, _)] rfl
                            refine then_normal ?_
                            refine ⟨10 - (j + 1), by omega, j + 1, by omega, rfl, S.sub _ rfl, ?_⟩
                            first
                              | (rw [bareM_same h14, bareW_same h14]; exact M)
                              | (exfalso; omega)
                              | (suffices hj0 : j = 0 by (subst hj0; exact M.eqH (by simp [bareM, bareW, h14]))
                                 omega)
                              | (suffices hj0 : j = 1 by (subst hj0; exact M.eqH (by simp [bareM, bareW, h14]))
                                 omega)
                              | (suffices hj0 : j = 2 by (subst hj0; exact M.eqH (by simp [bareM, bareW, h14]))
                                 omega)
                              | (suffices hj0 : j = 3 by (subst hj0; exact M.eqH (by simp [bareM, bareW, h14]))
                                 omega)
                              | (suffices hj0 : j = 4 by (subst hj0; exact M.eqH (by simp [bareM, bareW, h14]))
                                 omega)
                              | (suffices hj0 : j = 5 by (subst hj0; exact M.eqH (by simp [bareM, bareW, h14]))
                                 omega)
                              | (suffices hj0 : j = 6 by (subst hj0; exact M.eqH (by simp [bareM, bareW, h14]))
                                 omega)
                              | (suffices hj0 : j = 7 by (subst hj0; exact M.eqH (by simp [bareM, bareW, h14]))
                                 omega)
                              | (suffices hj0 : j = 8 by (subst hj0; exact M.eqH (by simp [bareM, bareW, h14]))
                                 omega)
                              | (suffices hj0 : j = 9 by (subst hj0; exact M.eqH (by simp [bareM, bareW, h14]))
                                 omega)
                          · clear S; intro h45 S
                            first | replace h45 := nrmA h45 | replace h45 := nrmB h45 | skip
                            first | replace h45 := nrm1 h45 | replace h45 := nrm2 h45 | replace h45 := nrm3 h45 | replace h45 := nrm4 h45 | replace h45 := nrm5 h45 | replace h45 := nrm6 h45 | replace h45 := of_decide_eq_true h45 | replace h45 := of_decide_eq_false h45 | skip
                            refine st_condF S rfl ?_
                            refine wp_skip ?_
                            refine block_normal ?_
                            refine block_normal ?_
                            refine then_normal ?_
                            -- region 27 wire.go:97
                            refine wp_region_lit ?_
                            (first | refine st_y S rfl rfl rfl (y_addN S rfl rfl (by omega)) ?_ | refine st_y S rfl rfl rfl (y_int S rfl rfl rfl) ?_); clear S a; intro a S
                            refine st_y S rfl rfl rfl (y_move S rfl) ?_; clear S a; intro a S
                            refine wpList_nil ?_
                            replace S := S.sub [(3, _), (4, _), (5, _), (9, _), (6, _), (14, _), (15, _), (16, _), (20, _), (23, _), (26, _), (29, _), (33, _), (36, _), (39, _), (42, _), (45, _), (8, _)] rfl
                            refine then_normal ?_
                            refine ⟨10 - (j + 1), by omega, j + 1, by omega, rfl, S.sub _ rfl, ?_⟩
                            first
                              | (rw [bareM_same h14, bareW_same h14]; exact M)
                              | (exfalso; omega)
                              | (suffices hj0 : j = 0 by (subst hj0; exact M.eqH (by simp [bareM, bareW, h14]))
                                 omega)
                              | (suffices hj0 : j = 1 by (subst hj0; exact M.eqH (by simp [bareM, bareW, h14]))
                                 omega)
                              | (suffices hj0 : j = 2 by (subst hj0; exact M.eqH (by simp [bareM, bareW, h14]))
                                 omega)
                              | (suffices hj0 : j = 3 by (subst hj0; exact M.eqH (by simp [bareM, bareW, h14]))
                                 omega)
                              | (suffices hj0 : j = 4 by (subst hj0; exact M.eqH (by simp [bareM, bareW, h14]))
                                 omega)
                              | (suffices hj0 : j = 5 by (subst hj0; exact M.eqH (by simp [bareM, bareW, h14]))
                                 omega)
                              | (suffices hj0 : j = 6 by (subst hj0; exact M.eqH (by simp [bareM, bareW, h14]))
                                 omega)
                              | (suffices hj0 : j = 7 by (subst hj0; exact M.eqH (by simp [bareM, bareW, h14]))
                                 omega)
                              | (suffices hj0 : j = 8 by (subst hj0; exact M.eqH (by simp [bareM, bareW, h14]))
                                 omega)
                              | (suffices hj0 : j = 9 by (subst hj0; exact M.eqH (by simp [bareM, bareW, h14]))
                                 omega)
    · clear S; intro h9 S
      first | replace h9 := nrmA h9 | replace h9 := nrmB h9 | skip
      first | replace h9 := nrm1 h9 | replace h9 := nrm2 h9 | replace h9 := nrm3 h9 | replace h9 := nrm4 h9 | replace h9 := nrm5 h9 | replace h9 := nrm6 h9 | replace h9 := of_decide_eq_true h9 | replace h9 := of_decide_eq_false h9 | skip
      refine st_condF S rfl ?_
      refine wp_exit ?_
      refine then_exit ?_
      refine then_exit ?_
      refine block_hit ?_
      refine then_normal ?_
      refine wp_seq ?_
      -- region 28 wire.go:124
      obtain rfl : j = 10 := by omega
      obtain ⟨ad, l, c, hbw, hbx⟩ : ∃ ad l c, bareW h 10 (.slice va vn vc) = .slice ad l c ∧ ((ad = none ∧ l = 0 ∧ c = 0 ∧ bareX h x = []) ∨ (ad = va ∧ l = vn ∧ c = vc ∧ bareX h x = x)) := by
        cases h9 : h 9 with
        | true => exact ⟨va, vn, vc, by simp [bareW, h9], .inr ⟨rfl, rfl, rfl, by simp [bareX, h9]⟩⟩
        | false => exact ⟨none, 0, 0, by simp [bareW, h9], .inl ⟨rfl, rfl, rfl, by simp [bareX, h9]⟩⟩
      rw [hbw] at M
      refine wp_region_lit ?_
      refine st_y S rfl rfl rfl (y_loadAgg (cs := [_, _, _, _, _, _, _, _, _, _, _, _, _, _, _, _, _, _, _, _, _, _, _, _]) S (by kernel_rfl) rfl rfl (M.cellsAt (k := 24) 0 rfl rfl)) ?_; clear S a; intro a S
      refine st_store (sz := 24) (us := [_, _, _, _, _, _, _, _, _, _, _, _, _, _, _, _, _, _, _, _, _, _, _, _]) S M 1 rfl (by kernel_rfl) rfl rfl rfl rfl rfl rfl (by first | decide | (simp; done) | (simp; omega)) ?_; clear M; intro w16 M
      simp only [putL, List.set_cons_zero, List.set_cons_succ, Nat.reduceAdd] at M
      refine wpList_nil ?_
      replace S := S.sub [(3, _), (4, _), (5, _), (8, _), (9, _)] rfl
      refine then_normal ?_
      refine wp_ret ?_
      refine end_one S rfl (res_agg (cs := [_, _, _, _, _, _, _, _, _, _, _, _, _, _, _, _, _, _, _, _, _, _, _, _]) (by kernel_rfl) rfl rfl (M.cellsAt (k := 24) 1 rfl rfl)) ?_
      exact ⟨ad, l, c, rfl, M.below, hbx⟩

end Go.Proofs.Ytcpobgjoicadjaa
