/-
  Package wire: bare.
-/
import Derived.Test.YtidpeojkkfmgeaaWa
namespace Go.Proofs.Ytidpeojkkfmgeaa
open Go.RowKit Go.Sort

/-- a message with the fields of its kind alone, up to the j-th -/
def bareM (h : Nat → Bool) (j : Nat) (m : Msg) : Msg :=
  { m with
    name := if (decide (0 < j) && !h 0) = true then ⟨0, 0, 0⟩ else m.name
    n := if (decide (1 < j) && !h 1) = true then 0 else m.n
    op := if (decide (2 < j) && !h 2) = true then 0 else m.op
    block := if (decide (3 < j) && !h 3) = true then 0 else m.block
    val := if (decide (4 < j) && !h 4) = true then ⟨0, 0, 0, 0, 0, 0, 0, 0⟩ else m.val
    e := if (decide (5 < j) && !h 5) = true then 0 else m.e
    yes := if (decide (6 < j) && !h 6) = true then false else m.yes
    give := if (decide (7 < j) && !h 7) = true then 0 else m.give
    take := if (decide (8 < j) && !h 8) = true then 0 else m.take }
def bareW (h : Nat → Bool) (j : Nat) (v : Value) : Value := if (decide (9 < j) && !h 9) = true then .slice none 0 0 else v
def bareX (h : Nat → Bool) (x : List Wr) : List Wr := if h 9 then x else []
abbrev zMsg : Msg := ⟨0, 0, 0, 0, 0, ⟨0, 0, 0⟩, 0, 0, 0, ⟨0, 0, 0, 0, 0, 0, 0, 0⟩, 0, false, 0, 0⟩
theorem bareM_same {h : Nat → Bool} {j : Nat} (hj : h j = true) (m : Msg) : bareM h (j + 1) m = bareM h j m := by
  have e : ∀ i, (decide (i < j + 1) && !h i) = (decide (i < j) && !h i) := fun i => by
    by_cases hi : i = j
    · subst hi; simp [hj]
    · have : (i < j + 1) = (i < j) := by simp only [eq_iff_iff]; omega
      simp only [this]
  unfold bareM; simp only [e]
theorem bareW_same {h : Nat → Bool} {j : Nat} (hj : h j = true) (v : Value) : bareW h (j + 1) v = bareW h j v := by
  have e : (decide (9 < j + 1) && !h 9) = (decide (9 < j) && !h 9) := by
    by_cases hi : 9 = j
    · subst hi; simp [hj]
    · have : (9 < j + 1) = (9 < j) := by simp only [eq_iff_iff]; omega
      simp only [this]
  unfold bareW; simp only [e]
def BarePost (h : Nat → Bool) (m : Msg) (va : Option Addr) (vn vc : Nat) (x : List Wr) (w : World) (e : Ending) (w' : World) : Prop :=
  ∃ ad l c, e = .returned (.agg ((bareM h 10 m).cells (.slice ad l c))) ∧ Below w.heap.size w w' ∧ ((ad = none ∧ l = 0 ∧ c = 0 ∧ bareX h x = []) ∨ (ad = va ∧ l = vn ∧ c = vc ∧ bareX h x = x))
theorem bare_any (m : Msg) (va : Option Addr) (vn vc : Nat) (x : List Wr) (d : Bool) (h : Nat → Bool) (w : World) :
    Calls Try.prog 54 #[.agg (m.cells (.slice va vn vc)), .agg (kdL d h).toArray] w (BarePost h m va vn vc x w) := by
  have M := Mem.start w
  refine calls_enter Try.func54 rfl 50 rfl rfl ?_; intro a S
  refine nxD ?_
  refine st_box S M rfl rfl rfl #[_, _, _, _, _, _, _, _, _, _, _, _, _, _, _, _, _, _, _, _, _, _, _, _] rfl ?_; clear S M a; intro a w1 bA S M hB
  refine st_box S M rfl rfl rfl #[_, _, _, _, _, _, _, _, _, _, _] rfl ?_; clear S M a; intro a w2 bK S M hB
  refine st_alloc S M rfl rfl #[.int .i8 0, .int .i64 0, .int .i64 0, .int .i64 0, .int .i64 0, .int .i64 0, .int .i64 0, .int .i64 0, .int .i64 0, .int .i8 0, .int .i64 0, .int .u8 0, .int .u8 0, .int .u8 0, .int .u8 0, .int .u8 0, .int .u8 0, .int .u8 0, .int .u8 0, .int .i64 0, .bool false, .int .i64 0, .int .i64 0, .slice none 0 0] (by kernel_rfl) ?_; clear S M a; intro a w3 bO S M hB
  refine nxA ?_
  refine st_y S rfl rfl rfl (y_loadAgg (cs := [_, _, _, _, _, _, _, _, _, _, _, _, _, _, _, _, _, _, _, _, _, _, _, _]) S (by kernel_rfl) rfl rfl (M.cellsAt (k := 24) 2 rfl rfl)) ?_; clear S a; intro a S
  refine st_alloc S M rfl rfl #[.int .i8 0, .int .i64 0, .int .i64 0, .int .i64 0, .int .i64 0, .int .i64 0, .int .i64 0, .int .i64 0, .int .i64 0, .int .i8 0, .int .i64 0, .int .u8 0, .int .u8 0, .int .u8 0, .int .u8 0, .int .u8 0, .int .u8 0, .int .u8 0, .int .u8 0, .int .i64 0, .bool false, .int .i64 0, .int .i64 0, .slice none 0 0] (by kernel_rfl) ?_; clear S M a; intro a w4 bB S M hB
  refine st_store (sz := 24) (us := [_, _, _, _, _, _, _, _, _, _, _, _, _, _, _, _, _, _, _, _, _, _, _, _]) S M 0 rfl (by kernel_rfl) rfl rfl rfl rfl rfl rfl (by first | decide | (simp; done) | (simp; omega)) ?_; clear M; intro w5 M
  simp only [putL, List.set_cons_zero, List.set_cons_succ, Nat.reduceAdd] at M
  refine nxC ?_
  refine wp_seq ?_
  refine nxD ?_
  refine st_go [1] S rfl (by kernel_rfl) ?_; clear S a; intro a S
  refine nxC ?_
  refine wp_block ?_
  refine wp_loop_g (fun q a w' => ∃ (j : Nat), j ≤ 10 ∧ q = 10 - j ∧ Sees 50 a [(3, .pointer (some ⟨bK, 0, none⟩)), (4, .pointer (some ⟨bO, 0, none⟩)), (5, .pointer (some ⟨bB, 0, none⟩)), (8, .int .i64 (j : Int))] ∧ Mem w w' [.blk bB ((bareM h j m).cells (bareW h j (.slice va vn vc))) 36, .blk bO (zMsg.cells (.slice none 0 0)) 36, .blk bK (kdL d h).toArray 102]) (10) ?_ ?_
  · skip
    exact ⟨0, by omega, rfl, S.sub _ rfl, M.drop 3⟩
  clear S M a; intro m a wl
  rintro ⟨j, hj, rfl, S, M⟩
  refine nxD ?_
  refine st_go [1] S rfl (by kernel_rfl) ?_; clear S a; intro a S
  refine nxC ?_
  refine wp_seq ?_
  refine st_fi (t := 9) S rfl ?_ ?_
  · clear S; intro h9 S
    refine st_condF S rfl ?_
    refine wp_exit ?_
    refine then_exit ?_
    refine then_exit ?_
    refine block_hit ?_
    refine then_normal ?_
    refine wp_seq ?_
    obtain rfl : j = 10 := by omega
    obtain ⟨ad, l, c, hbw, hbx⟩ : ∃ ad l c, bareW h 10 (.slice va vn vc) = .slice ad l c ∧ ((ad = none ∧ l = 0 ∧ c = 0 ∧ bareX h x = []) ∨ (ad = va ∧ l = vn ∧ c = vc ∧ bareX h x = x)) := by
      cases h9 : h 9 with
      | true => exact ⟨va, vn, vc, by simp [bareW, h9], .inr ⟨rfl, rfl, rfl, by simp [bareX, h9]⟩⟩
      | false => exact ⟨none, 0, 0, by simp [bareW, h9], .inl ⟨rfl, rfl, rfl, by simp [bareX, h9]⟩⟩
    rw [hbw] at M
    refine wp_region_lit ?_
    refine st_y S rfl rfl rfl (y_loadAgg (cs := [_, _, _, _, _, _, _, _, _, _, _, _, _, _, _, _, _, _, _, _, _, _, _, _]) S (by kernel_rfl) rfl rfl (M.cellsAt (k := 24) 0 rfl rfl)) ?_; clear S a; intro a S
    refine st_store (sz := 24) (us := [_, _, _, _, _, _, _, _, _, _, _, _, _, _, _, _, _, _, _, _, _, _, _, _]) S M 1 rfl (by kernel_rfl) rfl rfl rfl rfl rfl rfl (by first | decide | (simp; done) | (simp; omega)) ?_; clear M; intro w16 M
    simp only [putL, List.set_cons_zero, List.set_cons_succ, Nat.reduceAdd] at M
    refine nxC ?_
    refine wp_ret ?_
    refine end_one S rfl (res_agg (cs := [_, _, _, _, _, _, _, _, _, _, _, _, _, _, _, _, _, _, _, _, _, _, _, _]) (by kernel_rfl) rfl rfl (M.cellsAt (k := 24) 1 rfl rfl)) ?_
    exact ⟨ad, l, c, rfl, M.below, hbx⟩
  clear S; intro h9 S
  refine st_condT S rfl ?_
  refine wp_skip ?_
  refine then_normal ?_
  refine wp_seq ?_
  refine wp_block ?_
  refine nxD ?_
  refine st_go [1, 1] S rfl (by kernel_rfl) ?_; clear S a; intro a S
  refine nxC ?_
  refine wp_seq ?_
  refine nxD ?_
  refine st_go [1, 2] S rfl (by kernel_rfl) ?_; clear S a; intro a S
  refine st_y S rfl rfl rfl (y_indexA (m := 10) (sz := 1) S (by kernel_rfl) rfl rfl (by first | omega | (simp; done) | (simp; omega))) ?_; clear S a; intro a S
  try simp only [Int.toNat_natCast, Nat.mul_one, Nat.zero_add] at S
  refine st_y S rfl rfl rfl (y_load S (by kernel_rfl) rfl (M.cell 2 rfl (kd_get (by omega)))) ?_; clear S a; intro a S
  refine nxC ?_
  refine st_split (t := 14) S rfl ?_ ?_
  · clear S; intro h14 S
    refine st_condT S rfl ?_
    refine wp_exit ?_
    refine then_exit ?_
    refine block_hit ?_
    refine nxF ?_
    (first | refine st_y S rfl rfl rfl (y_addN S rfl rfl (by omega)) ?_ | refine st_y S rfl rfl rfl (y_int S rfl rfl rfl) ?_); clear S a; intro a S
    refine st_go [1] S rfl (by kernel_rfl) ?_; clear S a; intro a S
    refine nxC ?_
    refine ⟨10 - (j + 1), by omega, j + 1, by omega, rfl, S.sub _ rfl, ?_⟩
    first
      | (rw [bareM_same h14, bareW_same h14]; exact M)
      | (exfalso; omega)
      | (suffices hj0 : j = 0 by (subst hj0; exact M.eqH (by simp [bareM, bareW, h14]))
         omega)
      | (suffices hj0 : j = 1 by (subst hj0; exact M.eqH (by simp [bareM, bareW, h14]))
         omega)
      | (suffices hj0 : j = 2 by (subst hj0; exact M.eqH (by simp [bareM, bareW, h14]))
         omega)
      | (suffices hj0 : j = 3 by (subst hj0; exact M.eqH (by simp [bareM, bareW, h14]))
         omega)
      | (suffices hj0 : j = 4 by (subst hj0; exact M.eqH (by simp [bareM, bareW, h14]))
         omega)
      | (suffices hj0 : j = 5 by (subst hj0; exact M.eqH (by simp [bareM, bareW, h14]))
         omega)
      | (suffices hj0 : j = 6 by (subst hj0; exact M.eqH (by simp [bareM, bareW, h14]))
         omega)
      | (suffices hj0 : j = 7 by (subst hj0; exact M.eqH (by simp [bareM, bareW, h14]))
         omega)
      | (suffices hj0 : j = 8 by (subst hj0; exact M.eqH (by simp [bareM, bareW, h14]))
         omega)
      | (suffices hj0 : j = 9 by (subst hj0; exact M.eqH (by simp [bareM, bareW, h14]))
         omega)
  clear S; intro h14 S
  refine st_condF S rfl ?_
  refine wp_skip ?_
  refine nxE ?_
  refine st_go [1] S rfl (by kernel_rfl) ?_; clear S a; intro a S
  refine nxC ?_
  refine wp_block ?_
  refine nxD ?_
  refine st_go [1, 1] S rfl (by kernel_rfl) ?_; clear S a; intro a S
  refine nxC ?_
  refine st_if (t := 16) S rfl ?_ ?_
  · clear S; intro h16 S
    refine st_condT S rfl ?_
    refine wp_region_lit ?_
    refine st_y S rfl rfl rfl (y_build (ps := []) (pl := [(0, 1), (1, 1), (2, 1)]) (z := [.int .i64 0, .int .i64 0, .int .i64 0]) (cs := [_, _, _]) S (by kernel_rfl) rfl (rfl)) ?_; clear S a; intro a S
    refine st_go [6] S rfl (by kernel_rfl) ?_; clear S a; intro a S
    refine st_store (sz := 3) (us := [_, _, _]) S M 0 rfl (by kernel_rfl) rfl rfl rfl rfl rfl rfl (by first | decide | (simp; done) | (simp; omega)) ?_; clear M; intro w6 M
    simp only [putL, List.set_cons_zero, List.set_cons_succ, Nat.reduceAdd] at M
    refine wpList_nil ?_
    refine block_normal ?_
    refine block_normal ?_
    refine nxF ?_
    (first | refine st_y S rfl rfl rfl (y_addN S rfl rfl (by omega)) ?_ | refine st_y S rfl rfl rfl (y_int S rfl rfl rfl) ?_); clear S a; intro a S
    refine st_go [1] S rfl (by kernel_rfl) ?_; clear S a; intro a S
    refine nxC ?_
    refine ⟨10 - (j + 1), by omega, j + 1, by omega, rfl, S.sub _ rfl, ?_⟩
    first
      | (rw [bareM_same h14, bareW_same h14]; exact M)
      | (exfalso; omega)
      | (suffices hj0 : j = 0 by (subst hj0; exact M.eqH (by simp [bareM, bareW, h14]))
         omega)
      | (suffices hj0 : j = 1 by (subst hj0; exact M.eqH (by simp [bareM, bareW, h14]))
         omega)
      | (suffices hj0 : j = 2 by (subst hj0; exact M.eqH (by simp [bareM, bareW, h14]))
         omega)
      | (suffices hj0 : j = 3 by (subst hj0; exact M.eqH (by simp [bareM, bareW, h14]))
         omega)
      | (suffices hj0 : j = 4 by (subst hj0; exact M.eqH (by simp [bareM, bareW, h14]))
         omega)
      | (suffices hj0 : j = 5 by (subst hj0; exact M.eqH (by simp [bareM, bareW, h14]))
         omega)
      | (suffices hj0 : j = 6 by (subst hj0; exact M.eqH (by simp [bareM, bareW, h14]))
         omega)
      | (suffices hj0 : j = 7 by (subst hj0; exact M.eqH (by simp [bareM, bareW, h14]))
         omega)
      | (suffices hj0 : j = 8 by (subst hj0; exact M.eqH (by simp [bareM, bareW, h14]))
         omega)
      | (suffices hj0 : j = 9 by (subst hj0; exact M.eqH (by simp [bareM, bareW, h14]))
         omega)
  clear S; intro h16 S
  refine st_condF S rfl ?_
  refine nxD ?_
  refine st_go [1, 1] S rfl (by kernel_rfl) ?_; clear S a; intro a S
  refine nxC ?_
  refine st_if (t := 20) S rfl ?_ ?_
  · clear S; intro h20 S
    refine st_condT S rfl ?_
    refine wp_region_lit ?_
    refine st_go [9] S rfl (by kernel_rfl) ?_; clear S a; intro a S
    refine st_store (sz := 1) (us := [_]) S M 0 rfl (by kernel_rfl) rfl rfl rfl rfl rfl rfl (by first | decide | (simp; done) | (simp; omega)) ?_; clear M; intro w7 M
    simp only [putL, List.set_cons_zero, List.set_cons_succ, Nat.reduceAdd] at M
    refine wpList_nil ?_
    refine block_normal ?_
    refine block_normal ?_
    refine nxF ?_
    (first | refine st_y S rfl rfl rfl (y_addN S rfl rfl (by omega)) ?_ | refine st_y S rfl rfl rfl (y_int S rfl rfl rfl) ?_); clear S a; intro a S
    refine st_go [1] S rfl (by kernel_rfl) ?_; clear S a; intro a S
    refine nxC ?_
    refine ⟨10 - (j + 1), by omega, j + 1, by omega, rfl, S.sub _ rfl, ?_⟩
    first
      | (rw [bareM_same h14, bareW_same h14]; exact M)
      | (exfalso; omega)
      | (suffices hj0 : j = 0 by (subst hj0; exact M.eqH (by simp [bareM, bareW, h14]))
         omega)
      | (suffices hj0 : j = 1 by (subst hj0; exact M.eqH (by simp [bareM, bareW, h14]))
         omega)
      | (suffices hj0 : j = 2 by (subst hj0; exact M.eqH (by simp [bareM, bareW, h14]))
         omega)
      | (suffices hj0 : j = 3 by (subst hj0; exact M.eqH (by simp [bareM, bareW, h14]))
         omega)
      | (suffices hj0 : j = 4 by (subst hj0; exact M.eqH (by simp [bareM, bareW, h14]))
         omega)
      | (suffices hj0 : j = 5 by (subst hj0; exact M.eqH (by simp [bareM, bareW, h14]))
         omega)
      | (suffices hj0 : j = 6 by (subst hj0; exact M.eqH (by simp [bareM, bareW, h14]))
         omega)
      | (suffices hj0 : j = 7 by (subst hj0; exact M.eqH (by simp [bareM, bareW, h14]))
         omega)
      | (suffices hj0 : j = 8 by (subst hj0; exact M.eqH (by simp [bareM, bareW, h14]))
         omega)
      | (suffices hj0 : j = 9 by (subst hj0; exact M.eqH (by simp [bareM, bareW, h14]))
         omega)
  clear S; intro h20 S
  refine st_condF S rfl ?_
  refine nxD ?_
  refine st_go [1, 1] S rfl (by kernel_rfl) ?_; clear S a; intro a S
  refine nxC ?_
  refine st_if (t := 23) S rfl ?_ ?_
  · clear S; intro h23 S
    refine st_condT S rfl ?_
    refine wp_region_lit ?_
    refine st_go [10] S rfl (by kernel_rfl) ?_; clear S a; intro a S
    refine st_store (sz := 1) (us := [_]) S M 0 rfl (by kernel_rfl) rfl rfl rfl rfl rfl rfl (by first | decide | (simp; done) | (simp; omega)) ?_; clear M; intro w8 M
    simp only [putL, List.set_cons_zero, List.set_cons_succ, Nat.reduceAdd] at M
    refine wpList_nil ?_
    refine block_normal ?_
    refine block_normal ?_
    refine nxF ?_
    (first | refine st_y S rfl rfl rfl (y_addN S rfl rfl (by omega)) ?_ | refine st_y S rfl rfl rfl (y_int S rfl rfl rfl) ?_); clear S a; intro a S
    refine st_go [1] S rfl (by kernel_rfl) ?_; clear S a; intro a S
    refine nxC ?_
    refine ⟨10 - (j + 1), by omega, j + 1, by omega, rfl, S.sub _ rfl, ?_⟩
    first
      | (rw [bareM_same h14, bareW_same h14]; exact M)
      | (exfalso; omega)
      | (suffices hj0 : j = 0 by (subst hj0; exact M.eqH (by simp [bareM, bareW, h14]))
         omega)
      | (suffices hj0 : j = 1 by (subst hj0; exact M.eqH (by simp [bareM, bareW, h14]))
         omega)
      | (suffices hj0 : j = 2 by (subst hj0; exact M.eqH (by simp [bareM, bareW, h14]))
         omega)
      | (suffices hj0 : j = 3 by (subst hj0; exact M.eqH (by simp [bareM, bareW, h14]))
         omega)
      | (suffices hj0 : j = 4 by (subst hj0; exact M.eqH (by simp [bareM, bareW, h14]))
         omega)
      | (suffices hj0 : j = 5 by (subst hj0; exact M.eqH (by simp [bareM, bareW, h14]))
         omega)
      | (suffices hj0 : j = 6 by (subst hj0; exact M.eqH (by simp [bareM, bareW, h14]))
         omega)
      | (suffices hj0 : j = 7 by (subst hj0; exact M.eqH (by simp [bareM, bareW, h14]))
         omega)
      | (suffices hj0 : j = 8 by (subst hj0; exact M.eqH (by simp [bareM, bareW, h14]))
         omega)
      | (suffices hj0 : j = 9 by (subst hj0; exact M.eqH (by simp [bareM, bareW, h14]))
         omega)
  clear S; intro h23 S
  refine st_condF S rfl ?_
  refine nxD ?_
  refine st_go [1, 1] S rfl (by kernel_rfl) ?_; clear S a; intro a S
  refine nxC ?_
  refine st_if (t := 26) S rfl ?_ ?_
  · clear S; intro h26 S
    refine st_condT S rfl ?_
    refine wp_region_lit ?_
    refine st_go [11] S rfl (by kernel_rfl) ?_; clear S a; intro a S
    refine st_store (sz := 1) (us := [_]) S M 0 rfl (by kernel_rfl) rfl rfl rfl rfl rfl rfl (by first | decide | (simp; done) | (simp; omega)) ?_; clear M; intro w9 M
    simp only [putL, List.set_cons_zero, List.set_cons_succ, Nat.reduceAdd] at M
    refine wpList_nil ?_
    refine block_normal ?_
    refine block_normal ?_
    refine nxF ?_
    (first | refine st_y S rfl rfl rfl (y_addN S rfl rfl (by omega)) ?_ | refine st_y S rfl rfl rfl (y_int S rfl rfl rfl) ?_); clear S a; intro a S
    refine st_go [1] S rfl (by kernel_rfl) ?_; clear S a; intro a S
    refine nxC ?_
    refine ⟨10 - (j + 1), by omega, j + 1, by omega, rfl, S.sub _ rfl, ?_⟩
    first
      | (rw [bareM_same h14, bareW_same h14]; exact M)
      | (exfalso; omega)
      | (suffices hj0 : j = 0 by (subst hj0; exact M.eqH (by simp [bareM, bareW, h14]))
         omega)
      | (suffices hj0 : j = 1 by (subst hj0; exact M.eqH (by simp [bareM, bareW, h14]))
         omega)
      | (suffices hj0 : j = 2 by (subst hj0; exact M.eqH (by simp [bareM, bareW, h14]))
         omega)
      | (suffices hj0 : j = 3 by (subst hj0; exact M.eqH (by simp [bareM, bareW, h14]))
         omega)
      | (suffices hj0 : j = 4 by (subst hj0; exact M.eqH (by simp [bareM, bareW, h14]))
         omega)
      | (suffices hj0 : j = 5 by (subst hj0; exact M.eqH (by simp [bareM, bareW, h14]))
         omega)
      | (suffices hj0 : j = 6 by (subst hj0; exact M.eqH (by simp [bareM, bareW, h14]))
         omega)
      | (suffices hj0 : j = 7 by (subst hj0; exact M.eqH (by simp [bareM, bareW, h14]))
         omega)
      | (suffices hj0 : j = 8 by (subst hj0; exact M.eqH (by simp [bareM, bareW, h14]))
         omega)
      | (suffices hj0 : j = 9 by (subst hj0; exact M.eqH (by simp [bareM, bareW, h14]))
         omega)
  clear S; intro h26 S
  refine st_condF S rfl ?_
  refine nxD ?_
  refine st_go [1, 1] S rfl (by kernel_rfl) ?_; clear S a; intro a S
  refine nxC ?_
  refine st_if (t := 29) S rfl ?_ ?_
  · clear S; intro h29 S
    refine st_condT S rfl ?_
    refine wp_region_lit ?_
    refine st_y S rfl rfl rfl (y_buildA (ps := []) (sz := 1) (z := [.int .u8 0, .int .u8 0, .int .u8 0, .int .u8 0, .int .u8 0, .int .u8 0, .int .u8 0, .int .u8 0]) (cs := [_, _, _, _, _, _, _, _]) S (by kernel_rfl) rfl rfl) ?_; clear S a; intro a S
    refine st_go [12] S rfl (by kernel_rfl) ?_; clear S a; intro a S
    refine st_store (sz := 8) (us := [_, _, _, _, _, _, _, _]) S M 0 rfl (by kernel_rfl) rfl rfl rfl rfl rfl rfl (by first | decide | (simp; done) | (simp; omega)) ?_; clear M; intro w10 M
    simp only [putL, List.set_cons_zero, List.set_cons_succ, Nat.reduceAdd] at M
    refine wpList_nil ?_
    refine block_normal ?_
    refine block_normal ?_
    refine nxF ?_
    (first | refine st_y S rfl rfl rfl (y_addN S rfl rfl (by omega)) ?_ | refine st_y S rfl rfl rfl (y_int S rfl rfl rfl) ?_); clear S a; intro a S
    refine st_go [1] S rfl (by kernel_rfl) ?_; clear S a; intro a S
    refine nxC ?_
    refine ⟨10 - (j + 1), by omega, j + 1, by omega, rfl, S.sub _ rfl, ?_⟩
    first
      | (rw [bareM_same h14, bareW_same h14]; exact M)
      | (exfalso; omega)
      | (suffices hj0 : j = 0 by (subst hj0; exact M.eqH (by simp [bareM, bareW, h14]))
         omega)
      | (suffices hj0 : j = 1 by (subst hj0; exact M.eqH (by simp [bareM, bareW, h14]))
         omega)
      | (suffices hj0 : j = 2 by (subst hj0; exact M.eqH (by simp [bareM, bareW, h14]))
         omega)
      | (suffices hj0 : j = 3 by (subst hj0; exact M.eqH (by simp [bareM, bareW, h14]))
         omega)
      | (suffices hj0 : j = 4 by (subst hj0; exact M.eqH (by simp [bareM, bareW, h14]))
         omega)
      | (suffices hj0 : j = 5 by (subst hj0; exact M.eqH (by simp [bareM, bareW, h14]))
         omega)
      | (suffices hj0 : j = 6 by (subst hj0; exact M.eqH (by simp [bareM, bareW, h14]))
         omega)
      | (suffices hj0 : j = 7 by (subst hj0; exact M.eqH (by simp [bareM, bareW, h14]))
         omega)
      | (suffices hj0 : j = 8 by (subst hj0; exact M.eqH (by simp [bareM, bareW, h14]))
         omega)
      | (suffices hj0 : j = 9 by (subst hj0; exact M.eqH (by simp [bareM, bareW, h14]))
         omega)
  clear S; intro h29 S
  refine st_condF S rfl ?_
  refine nxD ?_
  refine st_go [1, 1] S rfl (by kernel_rfl) ?_; clear S a; intro a S
  refine nxC ?_
  refine st_if (t := 33) S rfl ?_ ?_
  · clear S; intro h33 S
    refine st_condT S rfl ?_
    refine wp_region_lit ?_
    refine st_go [20] S rfl (by kernel_rfl) ?_; clear S a; intro a S
    refine st_store (sz := 1) (us := [_]) S M 0 rfl (by kernel_rfl) rfl rfl rfl rfl rfl rfl (by first | decide | (simp; done) | (simp; omega)) ?_; clear M; intro w11 M
    simp only [putL, List.set_cons_zero, List.set_cons_succ, Nat.reduceAdd] at M
    refine wpList_nil ?_
    refine block_normal ?_
    refine block_normal ?_
    refine nxF ?_
    (first | refine st_y S rfl rfl rfl (y_addN S rfl rfl (by omega)) ?_ | refine st_y S rfl rfl rfl (y_int S rfl rfl rfl) ?_); clear S a; intro a S
    refine st_go [1] S rfl (by kernel_rfl) ?_; clear S a; intro a S
    refine nxC ?_
    refine ⟨10 - (j + 1), by omega, j + 1, by omega, rfl, S.sub _ rfl, ?_⟩
    first
      | (rw [bareM_same h14, bareW_same h14]; exact M)
      | (exfalso; omega)
      | (suffices hj0 : j = 0 by (subst hj0; exact M.eqH (by simp [bareM, bareW, h14]))
         omega)
      | (suffices hj0 : j = 1 by (subst hj0; exact M.eqH (by simp [bareM, bareW, h14]))
         omega)
      | (suffices hj0 : j = 2 by (subst hj0; exact M.eqH (by simp [bareM, bareW, h14]))
         omega)
      | (suffices hj0 : j = 3 by (subst hj0; exact M.eqH (by simp [bareM, bareW, h14]))
         omega)
      | (suffices hj0 : j = 4 by (subst hj0; exact M.eqH (by simp [bareM, bareW, h14]))
         omega)
      | (suffices hj0 : j = 5 by (subst hj0; exact M.eqH (by simp [bareM, bareW, h14]))
         omega)
      | (suffices hj0 : j = 6 by (subst hj0; exact M.eqH (by simp [bareM, bareW, h14]))
         omega)
      | (suffices hj0 : j = 7 by (subst hj0; exact M.eqH (by simp [bareM, bareW, h14]))
         omega)
      | (suffices hj0 : j = 8 by (subst hj0; exact M.eqH (by simp [bareM, bareW, h14]))
         omega)
      | (suffices hj0 : j = 9 by (subst hj0; exact M.eqH (by simp [bareM, bareW, h14]))
         omega)
  clear S; intro h33 S
  refine st_condF S rfl ?_
  refine nxD ?_
  refine st_go [1, 1] S rfl (by kernel_rfl) ?_; clear S a; intro a S
  refine nxC ?_
  refine st_if (t := 36) S rfl ?_ ?_
  · clear S; intro h36 S
    refine st_condT S rfl ?_
    refine wp_region_lit ?_
    refine st_go [21] S rfl (by kernel_rfl) ?_; clear S a; intro a S
    refine st_store (sz := 1) (us := [_]) S M 0 rfl (by kernel_rfl) rfl rfl rfl rfl rfl rfl (by first | decide | (simp; done) | (simp; omega)) ?_; clear M; intro w12 M
    simp only [putL, List.set_cons_zero, List.set_cons_succ, Nat.reduceAdd] at M
    refine wpList_nil ?_
    refine block_normal ?_
    refine block_normal ?_
    refine nxF ?_
    (first | refine st_y S rfl rfl rfl (y_addN S rfl rfl (by omega)) ?_ | refine st_y S rfl rfl rfl (y_int S rfl rfl rfl) ?_); clear S a; intro a S
    refine st_go [1] S rfl (by kernel_rfl) ?_; clear S a; intro a S
    replace S := S.sub [(3, _), (4, _), (5, _), (9, _), (6, _), (14, _), (15, _), (16, _), (20, _), (23, _), (26, _), (29, _), (33, _), (36, _), (8, _)] rfl
    refine nxC ?_
    refine ⟨10 - (j + 1), by omega, j + 1, by omega, rfl, S.sub _ rfl, ?_⟩
    first
      | (rw [bareM_same h14, bareW_same h14]; exact M)
      | (exfalso; omega)
      | (suffices hj0 : j = 0 by (subst hj0; exact M.eqH (by simp [bareM, bareW, h14]))
         omega)
      | (suffices hj0 : j = 1 by (subst hj0; exact M.eqH (by simp [bareM, bareW, h14]))
         omega)
      | (suffices hj0 : j = 2 by (subst hj0; exact M.eqH (by simp [bareM, bareW, h14]))
         omega)
      | (suffices hj0 : j = 3 by (subst hj0; exact M.eqH (by simp [bareM, bareW, h14]))
         omega)
      | (suffices hj0 : j = 4 by (subst hj0; exact M.eqH (by simp [bareM, bareW, h14]))
         omega)
      | (suffices hj0 : j = 5 by (subst hj0; exact M.eqH (by simp [bareM, bareW, h14]))
         omega)
      | (suffices hj0 : j = 6 by (subst hj0; exact M.eqH (by simp [bareM, bareW, h14]))
         omega)
      | (suffices hj0 : j = 7 by (subst hj0; exact M.eqH (by simp [bareM, bareW, h14]))
         omega)
      | (suffices hj0 : j = 8 by (subst hj0; exact M.eqH (by simp [bareM, bareW, h14]))
         omega)
      | (suffices hj0 : j = 9 by (subst hj0; exact M.eqH (by simp [bareM, bareW, h14]))
         omega)
  clear S; intro h36 S
  refine st_condF S rfl ?_
  refine nxD ?_
  refine st_go [1, 1] S rfl (by kernel_rfl) ?_; clear S a; intro a S
  refine nxC ?_
  refine st_if (t := 39) S rfl ?_ ?_
  · clear S; intro h39 S
    refine st_condT S rfl ?_
    refine wp_region_lit ?_
    refine st_go [22] S rfl (by kernel_rfl) ?_; clear S a; intro a S
    refine st_store (sz := 1) (us := [_]) S M 0 rfl (by kernel_rfl) rfl rfl rfl rfl rfl rfl (by first | decide | (simp; done) | (simp; omega)) ?_; clear M; intro w13 M
    simp only [putL, List.set_cons_zero, List.set_cons_succ, Nat.reduceAdd] at M
    refine wpList_nil ?_
    refine block_normal ?_
    refine block_normal ?_
    refine nxF ?_
    (first | refine st_y S rfl rfl rfl (y_addN S rfl rfl (by omega)) ?_ | refine st_y S rfl rfl rfl (y_int S rfl rfl rfl) ?_); clear S a; intro a S
    refine st_go [1] S rfl (by kernel_rfl) ?_; clear S a; intro a S
    replace S := S.sub [(3, _), (4, _), (5, _), (9, _), (6, _), (14, _), (15, _), (16, _), (20, _), (23, _), (26, _), (29, _), (33, _), (36, _), (39, _), (8, _)] rfl
    refine nxC ?_
    refine ⟨10 - (j + 1), by omega, j + 1, by omega, rfl, S.sub _ rfl, ?_⟩
    first
      | (rw [bareM_same h14, bareW_same h14]; exact M)
      | (exfalso; omega)
      | (suffices hj0 : j = 0 by (subst hj0; exact M.eqH (by simp [bareM, bareW, h14]))
         omega)
      | (suffices hj0 : j = 1 by (subst hj0; exact M.eqH (by simp [bareM, bareW, h14]))
         omega)
      | (suffices hj0 : j = 2 by (subst hj0; exact M.eqH (by simp [bareM, bareW, h14]))
         omega)
      | (suffices hj0 : j = 3 by (subst hj0; exact M.eqH (by simp [bareM, bareW, h14]))
         omega)
      | (suffices hj0 : j = 4 by (subst hj0; exact M.eqH (by simp [bareM, bareW, h14]))
         omega)
      | (suffices hj0 : j = 5 by (subst hj0; exact M.eqH (by simp [bareM, bareW, h14]))
         omega)
      | (suffices hj0 : j = 6 by (subst hj0; exact M.eqH (by simp [bareM, bareW, h14]))
         omega)
      | (suffices hj0 : j = 7 by (subst hj0; exact M.eqH (by simp [bareM, bareW, h14]))
         omega)
      | (suffices hj0 : j = 8 by (subst hj0; exact M.eqH (by simp [bareM, bareW, h14]))
         omega)
      | (suffices hj0 : j = 9 by (subst hj0; exact M.eqH (by simp [bareM, bareW, h14]))
         omega)
  clear S; intro h39 S
  refine st_condF S rfl ?_
  refine nxD ?_
  refine st_go [1, 1] S rfl (by kernel_rfl) ?_; clear S a; intro a S
  refine nxC ?_
  refine st_if (t := 42) S rfl ?_ ?_
  · clear S; intro h42 S
    refine st_condT S rfl ?_
    refine wp_region_lit ?_
    refine st_go [23] S rfl (by kernel_rfl) ?_; clear S a; intro a S
    refine st_store (sz := 1) (us := [_]) S M 0 rfl (by kernel_rfl) rfl rfl rfl rfl rfl rfl (by first | decide | (simp; done) | (simp; omega)) ?_; clear M; intro w14 M
    simp only [putL, List.set_cons_zero, List.set_cons_succ, Nat.reduceAdd] at M
    replace S := S.sub [(3, _), (4, _), (5, _), (8, _), (9, _), (6, _), (14, _), (15, _), (16, _), (20, _), (23, _), (26, _), (29, _), (33, _), (36, _), (39, _), (42, _)] rfl
    refine wpList_nil ?_
    refine block_normal ?_
    refine block_normal ?_
    refine nxF ?_
    (first | refine st_y S rfl rfl rfl (y_addN S rfl rfl (by omega)) ?_ | refine st_y S rfl rfl rfl (y_int S rfl rfl rfl) ?_); clear S a; intro a S
    refine st_go [1] S rfl (by kernel_rfl) ?_; clear S a; intro a S
    refine nxC ?_
    refine ⟨10 - (j + 1), by omega, j + 1, by omega, rfl, S.sub _ rfl, ?_⟩
    first
      | (rw [bareM_same h14, bareW_same h14]; exact M)
      | (exfalso; omega)
      | (suffices hj0 : j = 0 by (subst hj0; exact M.eqH (by simp [bareM, bareW, h14]))
         omega)
      | (suffices hj0 : j = 1 by (subst hj0; exact M.eqH (by simp [bareM, bareW, h14]))
         omega)
      | (suffices hj0 : j = 2 by (subst hj0; exact M.eqH (by simp [bareM, bareW, h14]))
         omega)
      | (suffices hj0 : j = 3 by (subst hj0; exact M.eqH (by simp [bareM, bareW, h14]))
         omega)
      | (suffices hj0 : j = 4 by (subst hj0; exact M.eqH (by simp [bareM, bareW, h14]))
         omega)
      | (suffices hj0 : j = 5 by (subst hj0; exact M.eqH (by simp [bareM, bareW, h14]))
         omega)
      | (suffices hj0 : j = 6 by (subst hj0; exact M.eqH (by simp [bareM, bareW, h14]))
         omega)
      | (suffices hj0 : j = 7 by (subst hj0; exact M.eqH (by simp [bareM, bareW, h14]))
         omega)
      | (suffices hj0 : j = 8 by (subst hj0; exact M.eqH (by simp [bareM, bareW, h14]))
         omega)
      | (suffices hj0 : j = 9 by (subst hj0; exact M.eqH (by simp [bareM, bareW, h14]))
         omega)
  clear S; intro h42 S
  refine st_condF S rfl ?_
  refine nxD ?_
  refine st_go [1, 1] S rfl (by kernel_rfl) ?_; clear S a; intro a S
  replace S := S.sub [(3, _), (4, _), (5, _), (8, _), (9, _), (6, _), (14, _), (15, _), (16, _), (20, _), (23, _), (26, _), (29, _), (33, _), (36, _), (39, _), (42, _), (45, _)] rfl
  refine nxC ?_
  refine st_fi (t := 45) S rfl ?_ ?_
  · clear S; intro h45 S
    refine st_condF S rfl ?_
    refine wp_skip ?_
    refine block_normal ?_
    refine block_normal ?_
    refine nxF ?_
    (first | refine st_y S rfl rfl rfl (y_addN S rfl rfl (by omega)) ?_ | refine st_y S rfl rfl rfl (y_int S rfl rfl rfl) ?_); clear S a; intro a S
    refine st_go [1] S rfl (by kernel_rfl) ?_; clear S a; intro a S
    refine nxC ?_
    refine ⟨10 - (j + 1), by omega, j + 1, by omega, rfl, S.sub _ rfl, ?_⟩
    first
      | (rw [bareM_same h14, bareW_same h14]; exact M)
      | (exfalso; omega)
      | (suffices hj0 : j = 0 by (subst hj0; exact M.eqH (by simp [bareM, bareW, h14]))
         omega)
      | (suffices hj0 : j = 1 by (subst hj0; exact M.eqH (by simp [bareM, bareW, h14]))
         omega)
      | (suffices hj0 : j = 2 by (subst hj0; exact M.eqH (by simp [bareM, bareW, h14]))
         omega)
      | (suffices hj0 : j = 3 by (subst hj0; exact M.eqH (by simp [bareM, bareW, h14]))
         omega)
      | (suffices hj0 : j = 4 by (subst hj0; exact M.eqH (by simp [bareM, bareW, h14]))
         omega)
      | (suffices hj0 : j = 5 by (subst hj0; exact M.eqH (by simp [bareM, bareW, h14]))
         omega)
      | (suffices hj0 : j = 6 by (subst hj0; exact M.eqH (by simp [bareM, bareW, h14]))
         omega)
      | (suffices hj0 : j = 7 by (subst hj0; exact M.eqH (by simp [bareM, bareW, h14]))
         omega)
      | (suffices hj0 : j = 8 by (subst hj0; exact M.eqH (by simp [bareM, bareW, h14]))
         omega)
      | (suffices hj0 : j = 9 by (subst hj0; exact M.eqH (by simp [bareM, bareW, h14]))
         omega)
  clear S; intro h45 S
  refine st_condT S rfl ?_
  refine wp_region_lit ?_
  refine st_go [24] S rfl (by kernel_rfl) ?_; clear S a; intro a S
  refine st_store (sz := 1) (us := [_]) S M 0 rfl (by kernel_rfl) rfl rfl rfl rfl rfl rfl (by first | decide | (simp; done) | (simp; omega)) ?_; clear M; intro w15 M
  simp only [putL, List.set_cons_zero, List.set_cons_succ, Nat.reduceAdd] at M
  refine wpList_nil ?_
  refine block_normal ?_
  refine block_normal ?_
  refine nxF ?_
  (first | refine st_y S rfl rfl rfl (y_addN S rfl rfl (by omega)) ?_ | refine st_y S rfl rfl rfl (y_int S rfl rfl rfl) ?_); clear S a; intro a S
  refine st_go [1] S rfl (by kernel_rfl) ?_; clear S a; intro a S
  refine nxC ?_
  refine ⟨10 - (j + 1), by omega, j + 1, by omega, rfl, S.sub _ rfl, ?_⟩
  first
    | (rw [bareM_same h14, bareW_same h14]; exact M)
    | (exfalso; omega)
    | (suffices hj0 : j = 0 by (subst hj0; exact M.eqH (by simp [bareM, bareW, h14]))
       omega)
    | (suffices hj0 : j = 1 by (subst hj0; exact M.eqH (by simp [bareM, bareW, h14]))
       omega)
    | (suffices hj0 : j = 2 by (subst hj0; exact M.eqH (by simp [bareM, bareW, h14]))
       omega)
    | (suffices hj0 : j = 3 by (subst hj0; exact M.eqH (by simp [bareM, bareW, h14]))
       omega)
    | (suffices hj0 : j = 4 by (subst hj0; exact M.eqH (by simp [bareM, bareW, h14]))
       omega)
    | (suffices hj0 : j = 5 by (subst hj0; exact M.eqH (by simp [bareM, bareW, h14]))
       omega)
    | (suffices hj0 : j = 6 by (subst hj0; exact M.eqH (by simp [bareM, bareW, h14]))
       omega)
    | (suffices hj0 : j = 7 by (subst hj0; exact M.eqH (by simp [bareM, bareW, h14]))
       omega)
    | (suffices hj0 : j = 8 by (subst hj0; exact M.eqH (by simp [bareM, bareW, h14]))
       omega)
    | (suffices hj0 : j = 9 by (subst hj0; exact M.eqH (by simp [bareM, bareW, h14]))
       omega)

end Go.Proofs.Ytidpeojkkfmgeaa
