/-
  Package move: Check, Same, exec, copied.
-/
import Derived.Test.YtgocjpcmjljeoaaWc
namespace Go.Proofs.Ytgocjpcmjljeoaa
open Go.RowKit Go.Sort

theorem Mem.join {w0 w w' : World} {H H' : List Ent} (M : Mem w0 w H) (M' : Mem w w' H') : Mem w0 w' (H' ++ H) := by
  have g := M.grow M'.below
  refine ⟨g.below, fun e he => ?_, fun e he => ?_, ?_⟩
  · rcases List.mem_append.1 he with h | h
    · exact M'.ok e h
    · exact g.ok e h
  · rcases List.mem_append.1 he with h | h
    · exact ⟨Nat.le_trans M.below.size (M'.fits e h).1, (M'.fits e h).2⟩
    · exact g.fits e h
  · refine List.pairwise_append.2 ⟨M'.apart, M.apart, fun e he f hf => ?_⟩
    exact .inr (Nat.le_trans (M.fits f hf).2 (M'.fits e he).1)

def vcells (vs : List V8) : List Value := vs.flatMap V8.cellsL
theorem vcells_length : ∀ vs, (vcells vs).length = vs.length * 8
  | [] => rfl
  | x :: vs => by
    show (x.cellsL ++ vcells vs).length = _
    rw [List.length_append, vcells_length vs]; simp; omega
theorem allOne_vcells : ∀ vs, allOne (vcells vs) = true
  | [] => rfl
  | x :: vs => by
    show allOne (x.cellsL ++ vcells vs) = true
    rw [allOne_append, allOne_vcells vs]; rfl
theorem vcells_get : ∀ {vs : List V8} {i : Nat} {x : V8}, vs[i]? = some x → ((vcells vs).drop (i * 8)).take 8 = x.cellsL
  | [], i, x, h => by simp at h
  | y :: vs, 0, x, h => by
    obtain rfl : y = x := by simpa using h
    simp [vcells]
  | y :: vs, i + 1, x, h => by
    have := vcells_get (vs := vs) (i := i) (x := x) (by simpa using h)
    rw [← this, vcells, List.flatMap_cons, show (i + 1) * 8 = y.cellsL.length + i * 8 by simp; omega, ← List.drop_drop, List.drop_left]
    rfl
theorem vcells_append (x y : List V8) : vcells (x ++ y) = vcells x ++ vcells y := by simp [vcells]
abbrev Vs (lo hi : Nat) (w : World) (v : Value) (vs : List V8) : Prop := Rd lo hi w 8 v vs.length (vcells vs)
open Classical in
noncomputable def eqVs (x y : List V8) : Bool := decide (x = y)
theorem eqVs_iff {x y : List V8} : eqVs x y = true ↔ x = y := by simp [eqVs]
theorem equalVs_any (va vb : Value) (x y : List V8) (w : World) (hx : Vs 0 w.heap.size w va x) (hy : Vs 0 w.heap.size w vb y) :
    Calls Try.prog 19 #[va, vb] w fun e w' => e = .returned (.bool (eqVs x y)) ∧ Below w.heap.size w w' := by
  have M := Mem.start w
  have hl := hx.2.1
  unfold maxLen at hl
  have hne : x ≠ y → false = eqVs x y := fun h => by
    cases e : eqVs x y with
    | false => rfl
    | true => exact absurd (eqVs_iff.1 e) h
  refine calls_enter Try.func19 rfl 26 rfl rfl ?_; intro a S
  refine wp_seq ?_
  -- region 0 slices.go:20
  refine wp_region_lit ?_
  refine st_y S rfl rfl rfl (y_assign S rfl) ?_; clear S a; intro a S
  refine wpList_nil ?_
  replace S := S.sub [(0, _), (1, _), (4, _)] rfl
  refine then_normal ?_
  refine wp_seq ?_
  refine wp_seq ?_
  -- region 1 slices.go:21
  refine wp_region_lit ?_
  refine st_y S rfl rfl rfl (y_move S rfl) ?_; clear S a; intro a S
  refine st_y S rfl rfl rfl (y_lenR (E := 36) S rfl (M.arg hx) (by kernel_rfl)) ?_; clear S a; intro a S
  refine st_y S rfl rfl rfl (y_move S rfl) ?_; clear S a; intro a S
  refine st_y S rfl rfl rfl (y_lenR (E := 36) S rfl (M.arg hy) (by kernel_rfl)) ?_; clear S a; intro a S
  refine st_y S rfl rfl rfl (y_int S rfl rfl rfl) ?_; clear S a; intro a S
  refine wpList_nil ?_
  replace S := S.sub [(0, _), (1, _), (4, _), (10, _)] rfl
  refine then_normal ?_
  refine st_split (t := 10) S rfl ?_ ?_
  · clear S; intro h10 S
    first | replace h10 := nrmA h10 | replace h10 := nrmB h10 | skip
    first | replace h10 := nrm1 h10 | replace h10 := nrm2 h10 | replace h10 := nrm3 h10 | replace h10 := nrm4 h10 | replace h10 := nrm5 h10 | replace h10 := nrm6 h10 | replace h10 := of_decide_eq_true h10 | replace h10 := of_decide_eq_false h10 | skip
    refine st_condT S rfl ?_
    refine wp_seq ?_
    -- region 2 slices.go:22
    refine wp_region_lit ?_
    refine st_y S rfl rfl rfl (y_assign S rfl) ?_; clear S a; intro a S
    refine wpList_nil ?_
    replace S := S.sub [(0, _), (1, _), (10, _), (4, _)] rfl
    refine then_normal ?_
    refine wp_ret ?_
    refine then_ret ?_
    refine end_one S rfl (res_tmp rfl) ?_
    exact ⟨ret_bool (hne fun e => by rw [e] at h10; omega), M.below⟩
  · clear S; intro h10 S
    first | replace h10 := nrmA h10 | replace h10 := nrmB h10 | skip
    first | replace h10 := nrm1 h10 | replace h10 := nrm2 h10 | replace h10 := nrm3 h10 | replace h10 := nrm4 h10 | replace h10 := nrm5 h10 | replace h10 := nrm6 h10 | replace h10 := of_decide_eq_true h10 | replace h10 := of_decide_eq_false h10 | skip
    refine st_condF S rfl ?_
    refine wp_skip ?_
    refine then_normal ?_
    refine wp_seq ?_
    refine wp_seq ?_
    -- region 3 slices.go:24
    refine wp_region_lit ?_
    refine st_y S rfl rfl rfl (y_move S rfl) ?_; clear S a; intro a S
    refine st_y S rfl rfl rfl (y_lenR (E := 36) S rfl (M.arg hx) (by kernel_rfl)) ?_; clear S a; intro a S
    refine st_y S rfl rfl rfl (y_move S rfl) ?_; clear S a; intro a S
    refine wpList_nil ?_
    replace S := S.sub [(0, _), (1, _), (4, _), (10, _), (12, _), (13, _)] rfl
    refine then_normal ?_
    refine wp_block ?_
    refine wp_loop_g (fun m a w' => ∃ (k : Nat), k ≤ x.length ∧ m = x.length - k ∧ Sees 26 a [(0, va), (1, vb), (12, .int .i64 (x.length : Int)), (13, .int .i64 (k : Int))] ∧ Mem w w' [] ∧ ∀ j, j < k → x[j]? = y[j]?) (x.length) ?_ ?_
    · skip
      exact ⟨0, Nat.zero_le _, rfl, S.sub _ rfl, M, fun j h => by omega⟩
    · clear S M a; intro m a wl
      rintro ⟨k, hk, rfl, S, M, hpre⟩
      refine wp_seq ?_
      -- region 4 slices.go:24
      refine wp_region_lit ?_
      refine st_y S rfl rfl rfl (y_int S rfl rfl rfl) ?_; clear S a; intro a S
      refine wpList_nil ?_
      replace S := S.sub [(0, _), (1, _), (12, _), (13, _), (14, _)] rfl
      refine then_normal ?_
      refine wp_seq ?_
      refine st_split (t := 14) S rfl ?_ ?_
      · clear S; intro h14 S
        first | replace h14 := nrmA h14 | replace h14 := nrmB h14 | skip
        first | replace h14 := nrm1 h14 | replace h14 := nrm2 h14 | replace h14 := nrm3 h14 | replace h14 := nrm4 h14 | replace h14 := nrm5 h14 | replace h14 := nrm6 h14 | replace h14 := of_decide_eq_true h14 | replace h14 := of_decide_eq_false h14 | skip
        refine st_condT S rfl ?_
        refine wp_skip ?_
        refine then_normal ?_
        refine wp_seq ?_
        refine wp_block ?_
        refine wp_seq ?_
        -- region 5 slices.go:24
        refine wp_region_lit ?_
        refine st_y S rfl rfl rfl (y_move S rfl) ?_; clear S a; intro a S
        refine st_y S rfl rfl rfl (y_assign S rfl) ?_; clear S a; intro a S
        refine wpList_nil ?_
        replace S := S.sub [(0, _), (1, _), (12, _), (13, _), (14, _), (5, _)] rfl
        refine then_normal ?_
        refine wp_seq ?_
        -- region 6 slices.go:25
        obtain ⟨p, hp⟩ : ∃ p, x[k]? = some p := ⟨_, List.getElem?_eq_getElem (by omega)⟩
        obtain ⟨q, hq⟩ : ∃ q, y[k]? = some q := ⟨_, List.getElem?_eq_getElem (by omega)⟩
        refine wp_quiet M (by kernel_rfl) (by kernel_rfl) ?_
        refine qt_y S rfl rfl rfl (fun w M => y_move S rfl) ?_; clear S a; intro a S
        refine qt_y S rfl rfl rfl (fun w M => y_move S rfl) ?_; clear S a; intro a S
        refine qt_y S rfl rfl rfl (fun w M => y_indexR (e := 36) (sz := 8) S (by kernel_rfl) rfl ((M.arg hx)) rfl (by first | omega | (simp; done) | (simp; omega))) ?_; clear S a; intro a S
        try simp only [Int.toNat_natCast, Nat.mul_one, Nat.zero_add] at S
        refine qt_y S rfl rfl rfl (fun w M => y_loadAgg S (by kernel_rfl) rfl rfl ((M.arg hx).at_.row (i := k) (vcells_get hp) rfl)) ?_; clear S a; intro a S
        refine qt_y S rfl rfl rfl (fun w M => y_move S rfl) ?_; clear S a; intro a S
        refine qt_y S rfl rfl rfl (fun w M => y_move S rfl) ?_; clear S a; intro a S
        refine qt_y S rfl rfl rfl (fun w M => y_indexR (e := 36) (sz := 8) S (by kernel_rfl) rfl ((M.arg hy)) rfl (by first | omega | (simp; done) | (simp; omega))) ?_; clear S a; intro a S
        try simp only [Int.toNat_natCast, Nat.mul_one, Nat.zero_add] at S
        refine qt_y S rfl rfl rfl (fun w M => y_loadAgg S (by kernel_rfl) rfl rfl ((M.arg hy).at_.row (i := k) (vcells_get hq) rfl)) ?_; clear S a; intro a S
        refine qt_y S rfl rfl rfl (fun w M => y_neqG (by kernel_rfl) S rfl rfl (fun w => equalV8 9998 p q w)) ?_; clear S a; intro a S
        refine wpQuiet_nil ?_; clear M; intro w1 M
        replace S := S.sub [(0, _), (1, _), (12, _), (13, _), (14, _), (5, _), (24, _)] rfl
        refine then_normal ?_
        refine st_split (t := 24) S rfl ?_ ?_
        · clear S; intro h24 S
          refine st_condT S rfl ?_
          refine wp_seq ?_
          -- region 7 slices.go:26
          refine wp_region_lit ?_
          refine st_y S rfl rfl rfl (y_assign S rfl) ?_; clear S a; intro a S
          refine wpList_nil ?_
          replace S := S.sub [(0, _), (1, _), (12, _), (13, _), (14, _), (5, _), (24, _), (4, _)] rfl
          refine then_normal ?_
          refine wp_ret ?_
          refine block_ret ?_
          refine then_ret ?_
          refine then_ret ?_
          refine block_ret ?_
          refine then_ret ?_
          refine end_one S rfl (res_tmp rfl) ?_
          refine ⟨ret_bool (hne fun e => ?_), M.below⟩
          rw [e, hq] at hp
          cases hp
          rw [V8.eqb_iff.2 rfl] at h24
          cases h24
        · clear S; intro h24 S
          refine st_condF S rfl ?_
          refine wp_skip ?_
          refine block_normal ?_
          refine then_normal ?_
          -- region 8 slices.go:24
          refine wp_region_lit ?_
          (first | refine st_y S rfl rfl rfl (y_addN S rfl rfl (by omega)) ?_ | refine st_y S rfl rfl rfl (y_int S rfl rfl rfl) ?_); clear S a; intro a S
          refine st_y S rfl rfl rfl (y_move S rfl) ?_; clear S a; intro a S
          refine wpList_nil ?_
          replace S := S.sub [(0, _), (1, _), (12, _), (14, _), (5, _), (24, _), (13, _)] rfl
          refine then_normal ?_
          refine ⟨x.length - (k + 1), by omega, k + 1, by omega, rfl, S.sub _ rfl, M, fun j hj => ?_⟩
          rcases Nat.lt_or_ge j k with h | h
          · exact hpre j h
          · obtain rfl : j = k := by omega
            rw [hp, hq, (V8.eqb_iff (a := p) (b := q)).1 (by simpa using h24)]
      · clear S; intro h14 S
        first | replace h14 := nrmA h14 | replace h14 := nrmB h14 | skip
        first | replace h14 := nrm1 h14 | replace h14 := nrm2 h14 | replace h14 := nrm3 h14 | replace h14 := nrm4 h14 | replace h14 := nrm5 h14 | replace h14 := nrm6 h14 | replace h14 := of_decide_eq_true h14 | replace h14 := of_decide_eq_false h14 | skip
        refine st_condF S rfl ?_
        refine wp_exit ?_
        refine then_exit ?_
        refine then_exit ?_
        refine block_hit ?_
        refine then_normal ?_
        refine wp_seq ?_
        -- region 9 slices.go:29
        refine wp_region_lit ?_
        refine st_y S rfl rfl rfl (y_assign S rfl) ?_; clear S a; intro a S
        refine wpList_nil ?_
        replace S := S.sub [(0, _), (1, _), (12, _), (13, _), (14, _), (4, _)] rfl
        refine then_normal ?_
        refine wp_ret ?_
        refine end_one S rfl (res_tmp rfl) ?_
        obtain rfl : k = x.length := by omega
        refine ⟨ret_bool (eqVs_iff.2 (List.ext_getElem? fun j => ?_)).symm, M.below⟩
        by_cases hj : j < x.length
        · exact hpre j hj
        · rw [List.getElem?_eq_none (by omega), List.getElem?_eq_none (by omega)]

/-- a move but for its values -/
structure Mv where
  phase : Int
  name : Nm
  cs : Int
  ct : Int
  frm : Int
  n : Int
abbrev Mv.cells (m : Mv) (v : Value) : Array Value := #[.int .i8 m.phase, .int .i64 m.name.stamp, .int .i64 m.name.inc, .int .i64 m.name.try_, .int .i64 m.cs, .int .i64 m.ct, .int .i64 m.frm, .int .i64 m.n, v]
def Mv.zero : Mv := ⟨0, ⟨0, 0, 0⟩, 0, 0, 0, 0⟩
noncomputable def Mv.same (p q : Mv) (x y : List V8) : Bool := p.phase == q.phase && p.name.eqb q.name && (p.cs == q.cs && p.ct == q.ct) && p.frm == q.frm && p.n == q.n && eqVs x y
theorem Mv.same_iff {p q : Mv} {x y : List V8} : p.same q x y = true ↔ p = q ∧ x = y := by
  cases p; cases q
  simp [Mv.same, Nm.eqb_iff, eqVs_iff, and_assoc]
theorem sameV_any (p q : Mv) (va vb : Value) (x y : List V8) (w : World) (hx : Vs 0 w.heap.size w va x) (hy : Vs 0 w.heap.size w vb y) :
    Calls Try.prog 9 #[.agg (p.cells va), .agg (q.cells vb)] w fun e w' => e = .returned (.bool (p.same q x y)) ∧ Below w.heap.size w w' := by
  obtain ⟨aa, ca, rfl, -, -⟩ := hx.form
  obtain ⟨ab, cb, rfl, -, -⟩ := hy.form
  have M := Mem.start w
  generalize hr : p.same q x y = R
  refine calls_enter Try.func9 rfl 45 rfl rfl ?_; intro a S
  refine wp_seq ?_
  -- region 0 move.go:135
  refine wp_region_lit ?_
  refine st_box S M rfl rfl rfl #[_, _, _, _, _, _, _, _, _] rfl ?_; clear S M a; intro a w1 b1 S M hB
  refine st_box S M rfl rfl rfl #[_, _, _, _, _, _, _, _, _] rfl ?_; clear S M a; intro a w2 b2 S M hB
  refine st_y S rfl rfl rfl (y_assign S rfl) ?_; clear S a; intro a S
  refine wpList_nil ?_
  replace S := S.sub [(0, _), (1, _), (2, _), (3, _), (4, _)] rfl
  refine then_normal ?_
  refine wp_seq ?_
  -- region 1 move.go:136
  refine wp_region_lit ?_
  refine st_y S rfl rfl rfl (y_fieldAddr (k := 0) S (by kernel_rfl) rfl) ?_; clear S a; intro a S
  refine st_y S rfl rfl rfl (y_load S (by kernel_rfl) rfl (M.cell 1 rfl rfl)) ?_; clear S a; intro a S
  refine st_y S rfl rfl rfl (y_fieldAddr (k := 0) S (by kernel_rfl) rfl) ?_; clear S a; intro a S
  refine st_y S rfl rfl rfl (y_load S (by kernel_rfl) rfl (M.cell 0 rfl rfl)) ?_; clear S a; intro a S
  refine st_y S rfl rfl rfl (y_int S rfl rfl rfl) ?_; clear S a; intro a S
  refine st_y S rfl rfl rfl (y_move S rfl) ?_; clear S a; intro a S
  refine st_split (t := 10) S rfl ?_ ?_
  · clear S; intro h10 S
    refine st_y S rfl rfl rfl (y_fieldAddr (k := 1) S (by kernel_rfl) rfl) ?_; clear S a; intro a S
    refine st_y S rfl rfl rfl (y_loadAgg (cs := [_, _, _]) S (by kernel_rfl) rfl rfl (M.cellsAt (k := 3) 1 rfl rfl)) ?_; clear S a; intro a S
    refine st_y S rfl rfl rfl (y_fieldAddr (k := 1) S (by kernel_rfl) rfl) ?_; clear S a; intro a S
    refine st_y S rfl rfl rfl (y_loadAgg (cs := [_, _, _]) S (by kernel_rfl) rfl rfl (M.cellsAt (k := 3) 0 rfl rfl)) ?_; clear S a; intro a S
    refine st_y S rfl rfl rfl (y_eqlG (by kernel_rfl) S rfl rfl (fun w => equalNm 9998 ⟨_, _, _⟩ ⟨_, _, _⟩ w)) ?_; clear S a; intro a S
    refine st_y S rfl rfl rfl (y_pickT S rfl rfl) ?_; clear S a; intro a S
    refine st_y S rfl rfl rfl (y_move S rfl) ?_; clear S a; intro a S
    refine st_split (t := 17) S rfl ?_ ?_
    · clear S; intro h17 S
      refine st_y S rfl rfl rfl (y_fieldAddr (k := 4) S (by kernel_rfl) rfl) ?_; clear S a; intro a S
      refine st_y S rfl rfl rfl (y_loadAgg (cs := [_, _]) S (by kernel_rfl) rfl rfl (M.cellsAt (k := 2) 1 rfl rfl)) ?_; clear S a; intro a S
      refine st_y S rfl rfl rfl (y_fieldAddr (k := 4) S (by kernel_rfl) rfl) ?_; clear S a; intro a S
      refine st_y S rfl rfl rfl (y_loadAgg (cs := [_, _]) S (by kernel_rfl) rfl rfl (M.cellsAt (k := 2) 0 rfl rfl)) ?_; clear S a; intro a S
      refine st_y S rfl rfl rfl (y_eqlG (by kernel_rfl) S rfl rfl (fun w => equalCh 9998 _ _ _ _ w)) ?_; clear S a; intro a S
      refine st_y S rfl rfl rfl (y_pickT S rfl rfl) ?_; clear S a; intro a S
      refine st_y S rfl rfl rfl (y_move S rfl) ?_; clear S a; intro a S
      refine st_split (t := 24) S rfl ?_ ?_
      · clear S; intro h24 S
        refine st_y S rfl rfl rfl (y_fieldAddr (k := 6) S (by kernel_rfl) rfl) ?_; clear S a; intro a S
        refine st_y S rfl rfl rfl (y_load S (by kernel_rfl) rfl (M.cell 1 rfl rfl)) ?_; clear S a; intro a S
        refine st_y S rfl rfl rfl (y_fieldAddr (k := 6) S (by kernel_rfl) rfl) ?_; clear S a; intro a S
        refine st_y S rfl rfl rfl (y_load S (by kernel_rfl) rfl (M.cell 0 rfl rfl)) ?_; clear S a; intro a S
        refine st_y S rfl rfl rfl (y_int S rfl rfl rfl) ?_; clear S a; intro a S
        refine st_y S rfl rfl rfl (y_pickT S rfl rfl) ?_; clear S a; intro a S
        refine st_y S rfl rfl rfl (y_move S rfl) ?_; clear S a; intro a S
        refine st_split (t := 31) S rfl ?_ ?_
        · clear S; intro h31 S
          refine st_y S rfl rfl rfl (y_fieldAddr (k := 7) S (by kernel_rfl) rfl) ?_; clear S a; intro a S
          refine st_y S rfl rfl rfl (y_load S (by kernel_rfl) rfl (M.cell 1 rfl rfl)) ?_; clear S a; intro a S
          refine st_y S rfl rfl rfl (y_fieldAddr (k := 7) S (by kernel_rfl) rfl) ?_; clear S a; intro a S
          refine st_y S rfl rfl rfl (y_load S (by kernel_rfl) rfl (M.cell 0 rfl rfl)) ?_; clear S a; intro a S
          refine st_y S rfl rfl rfl (y_int S rfl rfl rfl) ?_; clear S a; intro a S
          refine st_y S rfl rfl rfl (y_pickT S rfl rfl) ?_; clear S a; intro a S
          refine st_y S rfl rfl rfl (y_move S rfl) ?_; clear S a; intro a S
          refine st_split (t := 38) S rfl ?_ ?_
          · clear S; intro h38 S
            refine st_y S rfl rfl rfl (y_fieldAddr (k := 8) S (by kernel_rfl) rfl) ?_; clear S a; intro a S
            refine st_y S rfl rfl rfl (y_load S (by kernel_rfl) rfl (M.cell 1 rfl rfl)) ?_; clear S a; intro a S
            refine st_y S rfl rfl rfl (y_fieldAddr (k := 8) S (by kernel_rfl) rfl) ?_; clear S a; intro a S
            refine st_y S rfl rfl rfl (y_load S (by kernel_rfl) rfl (M.cell 0 rfl rfl)) ?_; clear S a; intro a S
            refine st_call (xs := [(Operand.tmp 40), (Operand.tmp 42)]) S (enters_of Try.func19 (by decide) rfl) rfl rfl rfl (equalVs_any _ _ x y _ (M.argW hx) (M.argW hy)) ?_
            rintro _ w3 ⟨rfl, hK⟩; refine ⟨_, rfl, ?_⟩; clear S a; intro a S; replace M := M.grow hK
            refine st_y S rfl rfl rfl (y_pickT S rfl rfl) ?_; clear S a; intro a S
            refine st_y S rfl rfl rfl (y_assign S rfl) ?_; clear S a; intro a S
            refine wpList_nil ?_
            replace S := S.sub [(0, _), (1, _), (2, _), (3, _), (4, _)] rfl
            refine then_normal ?_
            refine wp_ret ?_
            refine end_one S rfl (res_tmp rfl) ?_
            refine ⟨ret_bool ?_, M.below⟩; rw [← hr]; clear S M; simp [Mv.same, *]
          · clear S; intro h38 S
            refine st_skip 5 S rfl ?_; clear S a; intro a S
            refine st_y S rfl rfl rfl (y_pickF S rfl rfl) ?_; clear S a; intro a S
            refine st_y S rfl rfl rfl (y_assign S rfl) ?_; clear S a; intro a S
            refine wpList_nil ?_
            replace S := S.sub [(0, _), (1, _), (2, _), (3, _), (4, _)] rfl
            refine then_normal ?_
            refine wp_ret ?_
            refine end_one S rfl (res_tmp rfl) ?_
            refine ⟨ret_bool ?_, M.below⟩; rw [← hr]; clear S M; simp [Mv.same, *]
        · clear S; intro h31 S
          refine st_skip 5 S rfl ?_; clear S a; intro a S
          refine st_y S rfl rfl rfl (y_pickF S rfl rfl) ?_; clear S a; intro a S
          refine st_y S rfl rfl rfl (y_move S rfl) ?_; clear S a; intro a S
          refine st_skip 5 S rfl ?_; clear S a; intro a S
          refine st_y S rfl rfl rfl (y_pickF S rfl rfl) ?_; clear S a; intro a S
          refine st_y S rfl rfl rfl (y_assign S rfl) ?_; clear S a; intro a S
          refine wpList_nil ?_
          replace S := S.sub [(0, _), (1, _), (2, _), (3, _), (4, _)] rfl
          refine then_normal ?_
          refine wp_ret ?_
          refine end_one S rfl (res_tmp rfl) ?_
          refine ⟨ret_bool ?_, M.below⟩; rw [← hr]; clear S M; simp [Mv.same, *]
      · clear S; intro h24 S
        refine st_skip 5 S rfl ?_; clear S a; intro a S
        refine st_y S rfl rfl rfl (y_pickF S rfl rfl) ?_; clear S a; intro a S
        refine st_y S rfl rfl rfl (y_move S rfl) ?_; clear S a; intro a S
        refine st_skip 5 S rfl ?_; clear S a; intro a S
        refine st_y S rfl rfl rfl (y_pickF S rfl rfl) ?_; clear S a; intro a S
        refine st_y S rfl rfl rfl (y_move S rfl) ?_; clear S a; intro a S
        refine st_skip 5 S rfl ?_; clear S a; intro a S
        refine st_y S rfl rfl rfl (y_pickF S rfl rfl) ?_; clear S a; intro a S
        refine st_y S rfl rfl rfl (y_assign S rfl) ?_; clear S a; intro a S
        refine wpList_nil ?_
        replace S := S.sub [(0, _), (1, _), (2, _), (3, _), (4, _)] rfl
        refine then_normal ?_
        refine wp_ret ?_
        refine end_one S rfl (res_tmp rfl) ?_
        refine ⟨ret_bool ?_, M.below⟩; rw [← hr]; clear S M; simp [Mv.same, *]
    · clear S; intro h17 S
      refine st_skip 5 S rfl ?_; clear S a; intro a S
      refine st_y S rfl rfl rfl (y_pickF S rfl rfl) ?_; clear S a; intro a S
      refine st_y S rfl rfl rfl (y_move S rfl) ?_; clear S a; intro a S
      refine st_skip 5 S rfl ?_; clear S a; intro a S
      refine st_y S rfl rfl rfl (y_pickF S rfl rfl) ?_; clear S a; intro a S
      refine st_y S rfl rfl rfl (y_move S rfl) ?_; clear S a; intro a S
      refine st_skip 5 S rfl ?_; clear S a; intro a S
      refine st_y S rfl rfl rfl (y_pickF S rfl rfl) ?_; clear S a; intro a S
      refine st_y S rfl rfl rfl (y_move S rfl) ?_; clear S a; intro a S
      refine st_skip 5 S rfl ?_; clear S a; intro a S
      refine st_y S rfl rfl rfl (y_pickF S rfl rfl) ?_; clear S a; intro a S
      refine st_y S rfl rfl rfl (y_assign S rfl) ?_; clear S a; intro a S
      refine wpList_nil ?_
      replace S := S.sub [(0, _), (1, _), (2, _), (3, _), (4, _)] rfl
      refine then_normal ?_
      refine wp_ret ?_
      refine end_one S rfl (res_tmp rfl) ?_
      refine ⟨ret_bool ?_, M.below⟩; rw [← hr]; clear S M; simp [Mv.same, *]
  · clear S; intro h10 S
    refine st_skip 5 S rfl ?_; clear S a; intro a S
    refine st_y S rfl rfl rfl (y_pickF S rfl rfl) ?_; clear S a; intro a S
    refine st_y S rfl rfl rfl (y_move S rfl) ?_; clear S a; intro a S
    refine st_skip 5 S rfl ?_; clear S a; intro a S
    refine st_y S rfl rfl rfl (y_pickF S rfl rfl) ?_; clear S a; intro a S
    refine st_y S rfl rfl rfl (y_move S rfl) ?_; clear S a; intro a S
    refine st_skip 5 S rfl ?_; clear S a; intro a S
    refine st_y S rfl rfl rfl (y_pickF S rfl rfl) ?_; clear S a; intro a S
    refine st_y S rfl rfl rfl (y_move S rfl) ?_; clear S a; intro a S
    refine st_skip 5 S rfl ?_; clear S a; intro a S
    refine st_y S rfl rfl rfl (y_pickF S rfl rfl) ?_; clear S a; intro a S
    refine st_y S rfl rfl rfl (y_move S rfl) ?_; clear S a; intro a S
    refine st_skip 5 S rfl ?_; clear S a; intro a S
    refine st_y S rfl rfl rfl (y_pickF S rfl rfl) ?_; clear S a; intro a S
    refine st_y S rfl rfl rfl (y_assign S rfl) ?_; clear S a; intro a S
    refine wpList_nil ?_
    replace S := S.sub [(0, _), (1, _), (2, _), (3, _), (4, _)] rfl
    refine then_normal ?_
    refine wp_ret ?_
    refine end_one S rfl (res_tmp rfl) ?_
    refine ⟨ret_bool ?_, M.below⟩; rw [← hr]; clear S M; simp [Mv.same, *]
theorem shardIs_any (n : Int) (w : World) : Calls Try.prog 21 #[.int .i64 n] w fun e w' => e = .returned (.bool (decide (1 ≤ n ∧ n ≤ 4))) ∧ Below w.heap.size w w' := by
  have M := Mem.start w
  refine calls_enter Try.func21 rfl 9 rfl rfl ?_; intro a S
  refine wp_seq ?_
  -- region 0 move.go:27
  refine wp_region_lit ?_
  refine st_y S rfl rfl rfl (y_assign S rfl) ?_; clear S a; intro a S
  refine wpList_nil ?_
  replace S := S.sub [(0, _), (2, _)] rfl
  refine then_normal ?_
  refine wp_seq ?_
  -- region 1 move.go:27
  refine wp_region_lit ?_
  refine st_y S rfl rfl rfl (y_move S rfl) ?_; clear S a; intro a S
  refine st_y S rfl rfl rfl (y_int S rfl rfl rfl) ?_; clear S a; intro a S
  refine st_y S rfl rfl rfl (y_move S rfl) ?_; clear S a; intro a S
  refine st_split (t := 5) S rfl ?_ ?_
  · clear S; intro h5 S
    first | replace h5 := nrmA h5 | replace h5 := nrmB h5 | skip
    first | replace h5 := nrm1 h5 | replace h5 := nrm2 h5 | replace h5 := nrm3 h5 | replace h5 := nrm4 h5 | replace h5 := nrm5 h5 | replace h5 := nrm6 h5 | replace h5 := of_decide_eq_true h5 | replace h5 := of_decide_eq_false h5 | skip
    refine st_y S rfl rfl rfl (y_move S rfl) ?_; clear S a; intro a S
    refine st_y S rfl rfl rfl (y_int S rfl rfl rfl) ?_; clear S a; intro a S
    refine st_y S rfl rfl rfl (y_pickT S rfl rfl) ?_; clear S a; intro a S
    refine st_y S rfl rfl rfl (y_assign S rfl) ?_; clear S a; intro a S
    refine wpList_nil ?_
    replace S := S.sub [(0, _), (2, _)] rfl
    refine then_normal ?_
    refine wp_ret ?_
    refine end_one S rfl (res_tmp rfl) ?_
    refine ⟨ret_bool ?_, M.below⟩; rw [Bool.eq_iff_iff]; (first | (simp; done) | (simp; omega))
  · clear S; intro h5 S
    first | replace h5 := nrmA h5 | replace h5 := nrmB h5 | skip
    first | replace h5 := nrm1 h5 | replace h5 := nrm2 h5 | replace h5 := nrm3 h5 | replace h5 := nrm4 h5 | replace h5 := nrm5 h5 | replace h5 := nrm6 h5 | replace h5 := of_decide_eq_true h5 | replace h5 := of_decide_eq_false h5 | skip
    refine st_skip 2 S rfl ?_; clear S a; intro a S
    refine st_y S rfl rfl rfl (y_pickF S rfl rfl) ?_; clear S a; intro a S
    refine st_y S rfl rfl rfl (y_assign S rfl) ?_; clear S a; intro a S
    refine wpList_nil ?_
    replace S := S.sub [(0, _), (2, _)] rfl
    refine then_normal ?_
    refine wp_ret ?_
    refine end_one S rfl (res_tmp rfl) ?_
    refine ⟨ret_bool ?_, M.below⟩; rw [Bool.eq_iff_iff]; (first | (simp; done) | (simp; omega))
def wayB (s t f : Int) (n : Nm) : Bool := decide ((0 ≤ s ∧ s < 8) ∧ (1 ≤ t ∧ t ≤ 4) ∧ (1 ≤ f ∧ f ≤ 4) ∧ f ≠ t) && n.named
theorem wayMay_any (s t f : Int) (n : Nm) (w : World) : Calls Try.prog 16 #[.agg #[.int .i64 s, .int .i64 t], .int .i64 f, .agg n.cells] w fun e w' => e = .returned (.bool (wayB s t f n)) ∧ Below w.heap.size w w' := by
  have M := Mem.start w
  refine calls_enter Try.func16 rfl 34 rfl rfl ?_; intro a S
  refine wp_seq ?_
  -- region 0 move.go:30
  refine wp_region_lit ?_
  refine st_box S M rfl rfl rfl #[_, _] rfl ?_; clear S M a; intro a w1 b1 S M hB
  refine st_box S M rfl rfl rfl #[_, _, _] rfl ?_; clear S M a; intro a w2 b2 S M hB
  refine st_y S rfl rfl rfl (y_assign S rfl) ?_; clear S a; intro a S
  refine wpList_nil ?_
  replace S := S.sub [(0, _), (1, _), (2, _), (3, _), (5, _), (6, _)] rfl
  refine then_normal ?_
  refine wp_seq ?_
  -- region 1 move.go:31
  refine wp_region_lit ?_
  refine st_y S rfl rfl rfl (y_fieldAddr (k := 0) S (by kernel_rfl) rfl) ?_; clear S a; intro a S
  refine st_y S rfl rfl rfl (y_load S (by kernel_rfl) rfl (M.cell 1 rfl rfl)) ?_; clear S a; intro a S
  refine st_y S rfl rfl rfl (y_int S rfl rfl rfl) ?_; clear S a; intro a S
  refine st_y S rfl rfl rfl (y_move S rfl) ?_; clear S a; intro a S
  refine st_split (t := 10) S rfl ?_ ?_
  · clear S; intro h10 S
    first | replace h10 := nrmA h10 | replace h10 := nrmB h10 | skip
    first | replace h10 := nrm1 h10 | replace h10 := nrm2 h10 | replace h10 := nrm3 h10 | replace h10 := nrm4 h10 | replace h10 := nrm5 h10 | replace h10 := nrm6 h10 | replace h10 := of_decide_eq_true h10 | replace h10 := of_decide_eq_false h10 | skip
    refine st_y S rfl rfl rfl (y_fieldAddr (k := 0) S (by kernel_rfl) rfl) ?_; clear S a; intro a S
    refine st_y S rfl rfl rfl (y_load S (by kernel_rfl) rfl (M.cell 1 rfl rfl)) ?_; clear S a; intro a S
    refine st_y S rfl rfl rfl (y_int S rfl rfl rfl) ?_; clear S a; intro a S
    refine st_y S rfl rfl rfl (y_pickT S rfl rfl) ?_; clear S a; intro a S
    refine st_y S rfl rfl rfl (y_move S rfl) ?_; clear S a; intro a S
    refine st_split (t := 15) S rfl ?_ ?_
    · clear S; intro h15 S
      first | replace h15 := nrmA h15 | replace h15 := nrmB h15 | skip
      first | replace h15 := nrm1 h15 | replace h15 := nrm2 h15 | replace h15 := nrm3 h15 | replace h15 := nrm4 h15 | replace h15 := nrm5 h15 | replace h15 := nrm6 h15 | replace h15 := of_decide_eq_true h15 | replace h15 := of_decide_eq_false h15 | skip
      refine st_y S rfl rfl rfl (y_fieldAddr (k := 1) S (by kernel_rfl) rfl) ?_; clear S a; intro a S
      refine st_y S rfl rfl rfl (y_load S (by kernel_rfl) rfl (M.cell 1 rfl rfl)) ?_; clear S a; intro a S
      refine st_call (xs := [(Operand.tmp 17)]) S (enters_of Try.func21 (by decide) rfl) rfl rfl rfl (shardIs_any _ _) ?_
      rintro _ w3 ⟨rfl, hK⟩; refine ⟨_, rfl, ?_⟩; clear S a; intro a S; replace M := M.grow hK
      refine st_y S rfl rfl rfl (y_pickT S rfl rfl) ?_; clear S a; intro a S
      refine st_y S rfl rfl rfl (y_move S rfl) ?_; clear S a; intro a S
      refine st_split (t := 20) S rfl ?_ ?_
      · clear S; intro h20 S
        first | replace h20 := nrmA h20 | replace h20 := nrmB h20 | skip
        first | replace h20 := nrm1 h20 | replace h20 := nrm2 h20 | replace h20 := nrm3 h20 | replace h20 := nrm4 h20 | replace h20 := nrm5 h20 | replace h20 := nrm6 h20 | replace h20 := of_decide_eq_true h20 | replace h20 := of_decide_eq_false h20 | skip
        refine st_y S rfl rfl rfl (y_move S rfl) ?_; clear S a; intro a S
        refine st_call (xs := [(Operand.tmp 21)]) S (enters_of Try.func21 (by decide) rfl) rfl rfl rfl (shardIs_any _ _) ?_
        rintro _ w4 ⟨rfl, hK⟩; refine ⟨_, rfl, ?_⟩; clear S a; intro a S; replace M := M.grow hK
        refine st_y S rfl rfl rfl (y_pickT S rfl rfl) ?_; clear S a; intro a S
        refine st_y S rfl rfl rfl (y_move S rfl) ?_; clear S a; intro a S
        refine st_split (t := 24) S rfl ?_ ?_
        · clear S; intro h24 S
          first | replace h24 := nrmA h24 | replace h24 := nrmB h24 | skip
          first | replace h24 := nrm1 h24 | replace h24 := nrm2 h24 | replace h24 := nrm3 h24 | replace h24 := nrm4 h24 | replace h24 := nrm5 h24 | replace h24 := nrm6 h24 | replace h24 := of_decide_eq_true h24 | replace h24 := of_decide_eq_false h24 | skip
          refine st_y S rfl rfl rfl (y_move S rfl) ?_; clear S a; intro a S
          refine st_y S rfl rfl rfl (y_fieldAddr (k := 1) S (by kernel_rfl) rfl) ?_; clear S a; intro a S
          refine st_y S rfl rfl rfl (y_load S (by kernel_rfl) rfl (M.cell 1 rfl rfl)) ?_; clear S a; intro a S
          refine st_y S rfl rfl rfl (y_int S rfl rfl rfl) ?_; clear S a; intro a S
          refine st_y S rfl rfl rfl (y_pickT S rfl rfl) ?_; clear S a; intro a S
          refine st_y S rfl rfl rfl (y_move S rfl) ?_; clear S a; intro a S
          refine st_split (t := 30) S rfl ?_ ?_
          · clear S; intro h30 S
            first | replace h30 := nrmA h30 | replace h30 := nrmB h30 | skip
            first | replace h30 := nrm1 h30 | replace h30 := nrm2 h30 | replace h30 := nrm3 h30 | replace h30 := nrm4 h30 | replace h30 := nrm5 h30 | replace h30 := nrm6 h30 | replace h30 := of_decide_eq_true h30 | replace h30 := of_decide_eq_false h30 | skip
            refine st_y S rfl rfl rfl (y_loadAgg (cs := [_, _, _]) S (by kernel_rfl) rfl rfl (M.cellsAt (k := 3) 0 rfl rfl)) ?_; clear S a; intro a S
            refine st_call (xs := [(Operand.tmp 31)]) S (enters_of Try.func22 (by decide) rfl) rfl rfl rfl (named_any n _) ?_
            rintro _ w5 ⟨rfl, hK⟩; refine ⟨_, rfl, ?_⟩; clear S a; intro a S; replace M := M.grow hK
            refine st_y S rfl rfl rfl (y_pickT S rfl rfl) ?_; clear S a; intro a S
            refine st_y S rfl rfl rfl (y_assign S rfl) ?_; clear S a; intro a S
            refine wpList_nil ?_
            replace S := S.sub [(0, _), (1, _), (2, _), (3, _), (5, _), (6, _)] rfl
            refine then_normal ?_
            refine wp_ret ?_
            refine end_one S rfl (res_tmp rfl) ?_
            refine ⟨ret_bool ?_, M.below⟩; clear S M; unfold wayB
            first
              | (rw [decide_eq_true (p := (0 ≤ s ∧ s < 8) ∧ (1 ≤ t ∧ t ≤ 4) ∧ (1 ≤ f ∧ f ≤ 4) ∧ f ≠ t) (by omega)]; simp; done)
              | (rw [decide_eq_false (p := (0 ≤ s ∧ s < 8) ∧ (1 ≤ t ∧ t ≤ 4) ∧ (1 ≤ f ∧ f ≤ 4) ∧ f ≠ t) (by omega)]; simp; done)
          · clear S; intro h30 S
            first | replace h30 := nrmA h30 | replace h30 := nrmB h30 | skip
            first | replace h30 := nrm1 h30 | replace h30 := nrm2 h30 | replace h30 := nrm3 h30 | replace h30 := nrm4 h30 | replace h30 := nrm5 h30 | replace h30 := nrm6 h30 | replace h30 := of_decide_eq_true h30 | replace h30 := of_decide_eq_false h30 | skip
            refine st_skip 2 S rfl ?_; clear S a; intro a S
            refine st_y S rfl rfl rfl (y_pickF S rfl rfl) ?_; clear S a; intro a S
            refine st_y S rfl rfl rfl (y_assign S rfl) ?_; clear S a; intro a S
            refine wpList_nil ?_
            replace S := S.sub [(0, _), (1, _), (2, _), (3, _), (5, _), (6, _)] rfl
            refine then_normal ?_
            refine wp_ret ?_
            refine end_one S rfl (res_tmp rfl) ?_
            refine ⟨ret_bool ?_, M.below⟩; clear S M; unfold wayB
            first
              | (rw [decide_eq_true (p := (0 ≤ s ∧ s < 8) ∧ (1 ≤ t ∧ t ≤ 4) ∧ (1 ≤ f ∧ f ≤ 4) ∧ f ≠ t) (by omega)]; simp; done)
              | (rw [decide_eq_false (p := (0 ≤ s ∧ s < 8) ∧ (1 ≤ t ∧ t ≤ 4) ∧ (1 ≤ f ∧ f ≤ 4) ∧ f ≠ t) (by omega)]; simp; done)
        · clear S; intro h24 S
          first | replace h24 := nrmA h24 | replace h24 := nrmB h24 | skip
          first | replace h24 := nrm1 h24 | replace h24 := nrm2 h24 | replace h24 := nrm3 h24 | replace h24 := nrm4 h24 | replace h24 := nrm5 h24 | replace h24 := nrm6 h24 | replace h24 := of_decide_eq_true h24 | replace h24 := of_decide_eq_false h24 | skip
          refine st_skip 4 S rfl ?_; clear S a; intro a S
          refine st_y S rfl rfl rfl (y_pickF S rfl rfl) ?_; clear S a; intro a S
          refine st_y S rfl rfl rfl (y_move S rfl) ?_; clear S a; intro a S
          refine st_skip 2 S rfl ?_; clear S a; intro a S
          refine st_y S rfl rfl rfl (y_pickF S rfl rfl) ?_; clear S a; intro a S
          refine st_y S rfl rfl rfl (y_assign S rfl) ?_; clear S a; intro a S
          refine wpList_nil ?_
          replace S := S.sub [(0, _), (1, _), (2, _), (3, _), (5, _), (6, _)] rfl
          refine then_normal ?_
          refine wp_ret ?_
          refine end_one S rfl (res_tmp rfl) ?_
          refine ⟨ret_bool ?_, M.below⟩; clear S M; unfold wayB
          first
            | (rw [decide_eq_true (p := (0 ≤ s ∧ s < 8) ∧ (1 ≤ t ∧ t ≤ 4) ∧ (1 ≤ f ∧ f ≤ 4) ∧ f ≠ t) (by omega)]; simp; done)
            | (rw [decide_eq_false (p := (0 ≤ s ∧ s < 8) ∧ (1 ≤ t ∧ t ≤ 4) ∧ (1 ≤ f ∧ f ≤ 4) ∧ f ≠ t) (by omega)]; simp; done)
      · clear S; intro h20 S
        first | replace h20 := nrmA h20 | replace h20 := nrmB h20 | skip
        first | replace h20 := nrm1 h20 | replace h20 := nrm2 h20 | replace h20 := nrm3 h20 | replace h20 := nrm4 h20 | replace h20 := nrm5 h20 | replace h20 := nrm6 h20 | replace h20 := of_decide_eq_true h20 | replace h20 := of_decide_eq_false h20 | skip
        refine st_skip 2 S rfl ?_; clear S a; intro a S
        refine st_y S rfl rfl rfl (y_pickF S rfl rfl) ?_; clear S a; intro a S
        refine st_y S rfl rfl rfl (y_move S rfl) ?_; clear S a; intro a S
        refine st_skip 4 S rfl ?_; clear S a; intro a S
        refine st_y S rfl rfl rfl (y_pickF S rfl rfl) ?_; clear S a; intro a S
        refine st_y S rfl rfl rfl (y_move S rfl) ?_; clear S a; intro a S
        refine st_skip 2 S rfl ?_; clear S a; intro a S
        refine st_y S rfl rfl rfl (y_pickF S rfl rfl) ?_; clear S a; intro a S
        refine st_y S rfl rfl rfl (y_assign S rfl) ?_; clear S a; intro a S
        refine wpList_nil ?_
        replace S := S.sub [(0, _), (1, _), (2, _), (3, _), (5, _), (6, _)] rfl
        refine then_normal ?_
        refine wp_ret ?_
        refine end_one S rfl (res_tmp rfl) ?_
        refine ⟨ret_bool ?_, M.below⟩; clear S M; unfold wayB
        first
          | (rw [decide_eq_true (p := (0 ≤ s ∧ s < 8) ∧ (1 ≤ t ∧ t ≤ 4) ∧ (1 ≤ f ∧ f ≤ 4) ∧ f ≠ t) (by omega)]; simp; done)
          | (rw [decide_eq_false (p := (0 ≤ s ∧ s < 8) ∧ (1 ≤ t ∧ t ≤ 4) ∧ (1 ≤ f ∧ f ≤ 4) ∧ f ≠ t) (by omega)]; simp; done)
    · clear S; intro h15 S
      first | replace h15 := nrmA h15 | replace h15 := nrmB h15 | skip
      first | replace h15 := nrm1 h15 | replace h15 := nrm2 h15 | replace h15 := nrm3 h15 | replace h15 := nrm4 h15 | replace h15 := nrm5 h15 | replace h15 := nrm6 h15 | replace h15 := of_decide_eq_true h15 | replace h15 := of_decide_eq_false h15 | skip
      refine st_skip 3 S rfl ?_; clear S a; intro a S
      refine st_y S rfl rfl rfl (y_pickF S rfl rfl) ?_; clear S a; intro a S
      refine st_y S rfl rfl rfl (y_move S rfl) ?_; clear S a; intro a S
      refine st_skip 2 S rfl ?_; clear S a; intro a S
      refine st_y S rfl rfl rfl (y_pickF S rfl rfl) ?_; clear S a; intro a S
      refine st_y S rfl rfl rfl (y_move S rfl) ?_; clear S a; intro a S
      refine st_skip 4 S rfl ?_; clear S a; intro a S
      refine st_y S rfl rfl rfl (y_pickF S rfl rfl) ?_; clear S a; intro a S
      refine st_y S rfl rfl rfl (y_move S rfl) ?_; clear S a; intro a S
      refine st_skip 2 S rfl ?_; clear S a; intro a S
      refine st_y S rfl rfl rfl (y_pickF S rfl rfl) ?_; clear S a; intro a S
      refine st_y S rfl rfl rfl (y_assign S rfl) ?_; clear S a; intro a S
      refine wpList_nil ?_
      replace S := S.sub [(0, _), (1, _), (2, _), (3, _), (5, _), (6, _)] rfl
      refine then_normal ?_
      refine wp_ret ?_
      refine end_one S rfl (res_tmp rfl) ?_
      refine ⟨ret_bool ?_, M.below⟩; clear S M; unfold wayB
      first
        | (rw [decide_eq_true (p := (0 ≤ s ∧ s < 8) ∧ (1 ≤ t ∧ t ≤ 4) ∧ (1 ≤ f ∧ f ≤ 4) ∧ f ≠ t) (by omega)]; simp; done)
        | (rw [decide_eq_false (p := (0 ≤ s ∧ s < 8) ∧ (1 ≤ t ∧ t ≤ 4) ∧ (1 ≤ f ∧ f ≤ 4) ∧ f ≠ t) (by omega)]; simp; done)
  · clear S; intro h10 S
    first | replace h10 := nrmA h10 | replace h10 := nrmB h10 | skip
    first | replace h10 := nrm1 h10 | replace h10 := nrm2 h10 | replace h10 := nrm3 h10 | replace h10 := nrm4 h10 | replace h10 := nrm5 h10 | replace h10 := nrm6 h10 | replace h10 := of_decide_eq_true h10 | replace h10 := of_decide_eq_false h10 | skip
    refine st_skip 3 S rfl ?_; clear S a; intro a S
    refine st_y S rfl rfl rfl (y_pickF S rfl rfl) ?_; clear S a; intro a S
    refine st_y S rfl rfl rfl (y_move S rfl) ?_; clear S a; intro a S
    refine st_skip 3 S rfl ?_; clear S a; intro a S
    refine st_y S rfl rfl rfl (y_pickF S rfl rfl) ?_; clear S a; intro a S
    refine st_y S rfl rfl rfl (y_move S rfl) ?_; clear S a; intro a S
    refine st_skip 2 S rfl ?_; clear S a; intro a S
    refine st_y S rfl rfl rfl (y_pickF S rfl rfl) ?_; clear S a; intro a S
    refine st_y S rfl rfl rfl (y_move S rfl) ?_; clear S a; intro a S
    refine st_skip 4 S rfl ?_; clear S a; intro a S
    refine st_y S rfl rfl rfl (y_pickF S rfl rfl) ?_; clear S a; intro a S
    refine st_y S rfl rfl rfl (y_move S rfl) ?_; clear S a; intro a S
    refine st_skip 2 S rfl ?_; clear S a; intro a S
    refine st_y S rfl rfl rfl (y_pickF S rfl rfl) ?_; clear S a; intro a S
    refine st_y S rfl rfl rfl (y_assign S rfl) ?_; clear S a; intro a S
    refine wpList_nil ?_
    replace S := S.sub [(0, _), (1, _), (2, _), (3, _), (5, _), (6, _)] rfl
    refine then_normal ?_
    refine wp_ret ?_
    refine end_one S rfl (res_tmp rfl) ?_
    refine ⟨ret_bool ?_, M.below⟩; clear S M; unfold wayB
    first
      | (rw [decide_eq_true (p := (0 ≤ s ∧ s < 8) ∧ (1 ≤ t ∧ t ≤ 4) ∧ (1 ≤ f ∧ f ≤ 4) ∧ f ≠ t) (by omega)]; simp; done)
      | (rw [decide_eq_false (p := (0 ≤ s ∧ s < 8) ∧ (1 ≤ t ∧ t ≤ 4) ∧ (1 ≤ f ∧ f ≤ 4) ∧ f ≠ t) (by omega)]; simp; done)
/-- may a move be? -/
noncomputable def Mv.ok (m : Mv) (k : List V8) : Bool :=
  if m.phase = 0 then m.same Mv.zero k []
  else if m.phase = 1 then decide ((1 ≤ m.n ∧ m.n ≤ 4) ∧ (k.length : Int) = m.n - 1) && wayB m.cs m.ct m.frm m.name
  else if m.phase = 2 then decide (m.n = 4 ∧ (k.length : Int) = m.n) && wayB m.cs m.ct m.frm m.name
  else false
noncomputable def Mv.chk (m : Mv) (k : List V8) : Int := if m.ok k = true then 0 else 2
theorem check_any (m : Mv) (va : Option Addr) (vn vc : Nat) (x : List V8) (w : World) (hv : Vs 0 w.heap.size w (.slice va vn vc) x) :
    Calls Try.prog 11 #[.agg (m.cells (.slice va vn vc))] w fun e w' => e = .returned (.int .i64 (m.chk x)) ∧ Below w.heap.size w w' := by
  have M := Mem.start w
  have hvn : vn = x.length := by obtain ⟨ad, cp, e, -, -⟩ := hv.form; cases e; rfl
  have hl := hv.2.1
  unfold maxLen at hl
  refine calls_enter Try.func11 rfl 63 rfl rfl ?_; intro a S
  refine wp_seq ?_
  -- region 0 move.go:35
  refine wp_region_lit ?_
  refine st_box S M rfl rfl rfl #[_, _, _, _, _, _, _, _, _] rfl ?_; clear S M a; intro a w1 bA S M hB
  refine st_y S rfl rfl rfl (y_assign S rfl) ?_; clear S a; intro a S
  refine wpList_nil ?_
  replace S := S.sub [(0, _), (1, _), (2, _)] rfl
  refine then_normal ?_
  refine wp_seq ?_
  -- region 1 move.go:36
  refine wp_region_lit ?_
  refine st_y S rfl rfl rfl (y_assign S rfl) ?_; clear S a; intro a S
  refine wpList_nil ?_
  replace S := S.sub [(0, _), (1, _), (2, _), (3, _)] rfl
  refine then_normal ?_
  refine wp_cut (fun a w' => Sees 63 a [(3, .bool (m.ok x))] ∧ Mem w w' []) ?_ ?_
  · skip
    refine wp_seq ?_
    -- region 2 move.go:37
    refine wp_region_lit ?_
    refine st_y S rfl rfl rfl (y_fieldAddr (k := 0) S (by kernel_rfl) rfl) ?_; clear S a; intro a S
    refine st_y S rfl rfl rfl (y_load S (by kernel_rfl) rfl (M.cell 0 rfl rfl)) ?_; clear S a; intro a S
    refine wpList_nil ?_
    replace S := S.sub [(0, _), (1, _), (2, _), (3, _), (5, _)] rfl
    refine then_normal ?_
    refine wp_block ?_
    refine wp_seq ?_
    -- region 3 move.go:38
    refine wp_region_lit ?_
    refine st_y S rfl rfl rfl (y_int S rfl rfl rfl) ?_; clear S a; intro a S
    refine st_y S rfl rfl rfl (y_assign S rfl) ?_; clear S a; intro a S
    refine wpList_nil ?_
    replace S := S.sub [(0, _), (1, _), (2, _), (3, _), (5, _), (6, _)] rfl
    refine then_normal ?_
    refine st_split (t := 6) S rfl ?_ ?_
    · clear S; intro h6 S
      first | replace h6 := nrmA h6 | replace h6 := nrmB h6 | skip
      first | replace h6 := nrm1 h6 | replace h6 := nrm2 h6 | replace h6 := nrm3 h6 | replace h6 := nrm4 h6 | replace h6 := nrm5 h6 | replace h6 := nrm6 h6 | replace h6 := of_decide_eq_true h6 | replace h6 := of_decide_eq_false h6 | skip
      refine st_condT S rfl ?_
      -- region 4 move.go:39
      refine wp_region_lit ?_
      refine st_y S rfl rfl rfl (y_loadAgg (cs := [_, _, _, _, _, _, _, _, _]) S (by kernel_rfl) rfl rfl (M.cellsAt (k := 9) 0 rfl rfl)) ?_; clear S a; intro a S
      refine st_y S rfl rfl rfl (y_build (ps := []) (pl := [(0, 1), (1, 3), (4, 2), (6, 1), (7, 1), (8, 1)]) (z := [.int .i8 0, .int .i64 0, .int .i64 0, .int .i64 0, .int .i64 0, .int .i64 0, .int .i64 0, .int .i64 0, .slice none 0 0]) (cs := [_, _, _, _, _, _, _, _, _]) S (by kernel_rfl) rfl rfl) ?_; clear S a; intro a S
      refine st_call (xs := [(Operand.tmp 8), (Operand.tmp 9)]) S (enters_of Try.func9 (by decide) rfl) rfl rfl rfl (sameV_any m Mv.zero _ _ x [] _ (M.argW hv) (Rd.nil _ _ _ _)) ?_
      rintro _ w2 ⟨rfl, hK⟩; refine ⟨_, rfl, ?_⟩; clear S a; intro a S; replace M := M.grow hK
      refine st_y S rfl rfl rfl (y_assign S rfl) ?_; clear S a; intro a S
      refine wpList_nil ?_
      replace S := S.sub [(0, _), (1, _), (2, _), (5, _), (6, _), (3, _)] rfl
      refine block_normal ?_
      refine then_normal ?_
      have eo : ∀ b, b = m.ok x → Sees 63 a [(3, .bool b)] → Sees 63 a [(3, .bool (m.ok x))] := fun b h S => h ▸ S
      refine ⟨eo _ ?_ (S.sub [(3, _)] rfl), M.drop 0⟩
      clear eo S M
      unfold Mv.ok
      first
        | (rw [if_pos (by assumption)]; done)
        | (rw [if_neg (by omega), if_pos (by assumption), decide_eq_true (p := (1 ≤ m.n ∧ m.n ≤ 4) ∧ (x.length : Int) = m.n - 1) (by omega)]; simp; done)
        | (rw [if_neg (by omega), if_pos (by assumption), decide_eq_false (p := (1 ≤ m.n ∧ m.n ≤ 4) ∧ (x.length : Int) = m.n - 1) (by omega)]; simp; done)
        | (rw [if_neg (by omega), if_neg (by omega), if_pos (by assumption), decide_eq_true (p := m.n = 4 ∧ (x.length : Int) = m.n) (by omega)]; simp; done)
        | (rw [if_neg (by omega), if_neg (by omega), if_pos (by assumption), decide_eq_false (p := m.n = 4 ∧ (x.length : Int) = m.n) (by omega)]; simp; done)
        | (rw [if_neg (by omega), if_neg (by omega), if_neg (by omega)]; done)
    · clear S; intro h6 S
      first | replace h6 := nrmA h6 | replace h6 := nrmB h6 | skip
      first | replace h6 := nrm1 h6 | replace h6 := nrm2 h6 | replace h6 := nrm3 h6 | replace h6 := nrm4 h6 | replace h6 := nrm5 h6 | replace h6 := nrm6 h6 | replace h6 := of_decide_eq_true h6 | replace h6 := of_decide_eq_false h6 | skip
      refine st_condF S rfl ?_
      refine wp_seq ?_
      -- region 5 move.go:40
      refine wp_region_lit ?_
      refine st_y S rfl rfl rfl (y_int S rfl rfl rfl) ?_; clear S a; intro a S
      refine st_y S rfl rfl rfl (y_assign S rfl) ?_; clear S a; intro a S
      refine wpList_nil ?_
      replace S := S.sub [(0, _), (1, _), (2, _), (3, _), (5, _), (6, _), (11, _)] rfl
      refine then_normal ?_
      refine st_split (t := 11) S rfl ?_ ?_
      · clear S; intro h11 S
        first | replace h11 := nrmA h11 | replace h11 := nrmB h11 | skip
        first | replace h11 := nrm1 h11 | replace h11 := nrm2 h11 | replace h11 := nrm3 h11 | replace h11 := nrm4 h11 | replace h11 := nrm5 h11 | replace h11 := nrm6 h11 | replace h11 := of_decide_eq_true h11 | replace h11 := of_decide_eq_false h11 | skip
        refine st_condT S rfl ?_
        -- region 6 move.go:41
        refine wp_region_lit ?_
        refine st_y S rfl rfl rfl (y_fieldAddr (k := 7) S (by kernel_rfl) rfl) ?_; clear S a; intro a S
        refine st_y S rfl rfl rfl (y_load S (by kernel_rfl) rfl (M.cell 0 rfl rfl)) ?_; clear S a; intro a S
        refine st_y S rfl rfl rfl (y_int S rfl rfl rfl) ?_; clear S a; intro a S
        refine st_y S rfl rfl rfl (y_move S rfl) ?_; clear S a; intro a S
        refine st_split (t := 16) S rfl ?_ ?_
        · clear S; intro h16 S
          first | replace h16 := nrmA h16 | replace h16 := nrmB h16 | skip
          first | replace h16 := nrm1 h16 | replace h16 := nrm2 h16 | replace h16 := nrm3 h16 | replace h16 := nrm4 h16 | replace h16 := nrm5 h16 | replace h16 := nrm6 h16 | replace h16 := of_decide_eq_true h16 | replace h16 := of_decide_eq_false h16 | skip
          refine st_y S rfl rfl rfl (y_fieldAddr (k := 7) S (by kernel_rfl) rfl) ?_; clear S a; intro a S
          refine st_y S rfl rfl rfl (y_load S (by kernel_rfl) rfl (M.cell 0 rfl rfl)) ?_; clear S a; intro a S
          refine st_y S rfl rfl rfl (y_int S rfl rfl rfl) ?_; clear S a; intro a S
          refine st_y S rfl rfl rfl (y_pickT S rfl rfl) ?_; clear S a; intro a S
          refine st_y S rfl rfl rfl (y_move S rfl) ?_; clear S a; intro a S
          refine st_split (t := 21) S rfl ?_ ?_
          · clear S; intro h21 S
            first | replace h21 := nrmA h21 | replace h21 := nrmB h21 | skip
            first | replace h21 := nrm1 h21 | replace h21 := nrm2 h21 | replace h21 := nrm3 h21 | replace h21 := nrm4 h21 | replace h21 := nrm5 h21 | replace h21 := nrm6 h21 | replace h21 := of_decide_eq_true h21 | replace h21 := of_decide_eq_false h21 | skip
            refine st_y S rfl rfl rfl (y_fieldAddr (k := 8) S (by kernel_rfl) rfl) ?_; clear S a; intro a S
            refine st_y S rfl rfl rfl (y_load S (by kernel_rfl) rfl (M.cell 0 rfl rfl)) ?_; clear S a; intro a S
            refine st_y S rfl rfl rfl (y_lenS (E := 36) S rfl (by kernel_rfl)) ?_; clear S a; intro a S
            refine st_y S rfl rfl rfl (y_fieldAddr (k := 7) S (by kernel_rfl) rfl) ?_; clear S a; intro a S
            refine st_y S rfl rfl rfl (y_load S (by kernel_rfl) rfl (M.cell 0 rfl rfl)) ?_; clear S a; intro a S
            (first | refine st_y S rfl rfl rfl (y_subN S rfl rfl (by omega)) ?_ | refine st_y S rfl rfl rfl (y_int S rfl rfl rfl) ?_); clear S a; intro a S
            refine st_y S rfl rfl rfl (y_int S rfl rfl rfl) ?_; clear S a; intro a S
            refine st_y S rfl rfl rfl (y_pickT S rfl rfl) ?_; clear S a; intro a S
            refine st_y S rfl rfl rfl (y_move S rfl) ?_; clear S a; intro a S
            refine st_split (t := 30) S rfl ?_ ?_
            · clear S; intro h30 S
              first | replace h30 := nrmA h30 | replace h30 := nrmB h30 | skip
              first | replace h30 := nrm1 h30 | replace h30 := nrm2 h30 | replace h30 := nrm3 h30 | replace h30 := nrm4 h30 | replace h30 := nrm5 h30 | replace h30 := nrm6 h30 | replace h30 := of_decide_eq_true h30 | replace h30 := of_decide_eq_false h30 | skip
              refine st_y S rfl rfl rfl (y_fieldAddr (k := 4) S (by kernel_rfl) rfl) ?_; clear S a; intro a S
              refine st_y S rfl rfl rfl (y_loadAgg (cs := [_, _]) S (by kernel_rfl) rfl rfl (M.cellsAt (k := 2) 0 rfl rfl)) ?_; clear S a; intro a S
              refine st_y S rfl rfl rfl (y_fieldAddr (k := 6) S (by kernel_rfl) rfl) ?_; clear S a; intro a S
              refine st_y S rfl rfl rfl (y_load S (by kernel_rfl) rfl (M.cell 0 rfl rfl)) ?_; clear S a; intro a S
              refine st_y S rfl rfl rfl (y_fieldAddr (k := 1) S (by kernel_rfl) rfl) ?_; clear S a; intro a S
              refine st_y S rfl rfl rfl (y_loadAgg (cs := [_, _, _]) S (by kernel_rfl) rfl rfl (M.cellsAt (k := 3) 0 rfl rfl)) ?_; clear S a; intro a S
              refine st_call (xs := [(Operand.tmp 32), (Operand.tmp 34), (Operand.tmp 36)]) S (enters_of Try.func16 (by decide) rfl) rfl rfl rfl (wayMay_any _ _ _ m.name _) ?_
              rintro _ w3 ⟨rfl, hK⟩; refine ⟨_, rfl, ?_⟩; clear S a; intro a S; replace M := M.grow hK
              refine st_y S rfl rfl rfl (y_pickT S rfl rfl) ?_; clear S a; intro a S
              refine st_y S rfl rfl rfl (y_assign S rfl) ?_; clear S a; intro a S
              refine wpList_nil ?_
              replace S := S.sub [(0, _), (1, _), (2, _), (5, _), (6, _), (11, _), (3, _)] rfl
              refine block_normal ?_
              refine then_normal ?_
              have eo : ∀ b, b = m.ok x → Sees 63 a [(3, .bool b)] → Sees 63 a [(3, .bool (m.ok x))] := fun b h S => h ▸ S
              refine ⟨eo _ ?_ (S.sub [(3, _)] rfl), M.drop 0⟩
              clear eo S M
              unfold Mv.ok
              first
                | (rw [if_pos (by assumption)]; done)
                | (rw [if_neg (by omega), if_pos (by assumption), decide_eq_true (p := (1 ≤ m.n ∧ m.n ≤ 4) ∧ (x.length : Int) = m.n - 1) (by omega)]; simp; done)
                | (rw [if_neg (by omega), if_pos (by assumption), decide_eq_false (p := (1 ≤ m.n ∧ m.n ≤ 4) ∧ (x.length : Int) = m.n - 1) (by omega)]; simp; done)
                | (rw [if_neg (by omega), if_neg (by omega), if_pos (by assumption), decide_eq_true (p := m.n = 4 ∧ (x.length : Int) = m.n) (by omega)]; simp; done)
                | (rw [if_neg (by omega), if_neg (by omega), if_pos (by assumption), decide_eq_false (p := m.n = 4 ∧ (x.length : Int) = m.n) (by omega)]; simp; done)
                | (rw [if_neg (by omega), if_neg (by omega), if_neg (by omega)]; done)
            · clear S; intro h30 S
              first | replace h30 := nrmA h30 | replace h30 := nrmB h30 | skip
              first | replace h30 := nrm1 h30 | replace h30 := nrm2 h30 | replace h30 := nrm3 h30 | replace h30 := nrm4 h30 | replace h30 := nrm5 h30 | replace h30 := nrm6 h30 | replace h30 := of_decide_eq_true h30 | replace h30 := of_decide_eq_false h30 | skip
              refine st_skip 7 S rfl ?_; clear S a; intro a S
              refine st_y S rfl rfl rfl (y_pickF S rfl rfl) ?_; clear S a; intro a S
              refine st_y S rfl rfl rfl (y_assign S rfl) ?_; clear S a; intro a S
              refine wpList_nil ?_
              replace S := S.sub [(0, _), (1, _), (2, _), (5, _), (6, _), (11, _), (3, _)] rfl
              refine block_normal ?_
              refine then_normal ?_
              have eo : ∀ b, b = m.ok x → Sees 63 a [(3, .bool b)] → Sees 63 a [(3, .bool (m.ok x))] := fun b h S => h ▸ S
              refine ⟨eo _ ?_ (S.sub [(3, _)] rfl), M.drop 0⟩
              clear eo S M
              unfold Mv.ok
              first
                | (rw [if_pos (by assumption)]; done)
                | (rw [if_neg (by omega), if_pos (by assumption), decide_eq_true (p := (1 ≤ m.n ∧ m.n ≤ 4) ∧ (x.length : Int) = m.n - 1) (by omega)]; simp; done)
                | (rw [if_neg (by omega), if_pos (by assumption), decide_eq_false (p := (1 ≤ m.n ∧ m.n ≤ 4) ∧ (x.length : Int) = m.n - 1) (by omega)]; simp; done)
                | (rw [if_neg (by omega), if_neg (by omega), if_pos (by assumption), decide_eq_true (p := m.n = 4 ∧ (x.length : Int) = m.n) (by omega)]; simp; done)
                | (rw [if_neg (by omega), if_neg (by omega), if_pos (by assumption), decide_eq_false (p := m.n = 4 ∧ (x.length : Int) = m.n) (by omega)]; simp; done)
                | (rw [if_neg (by omega), if_neg (by omega), if_neg (by omega)]; done)
          · clear S; intro h21 S
            first | replace h21 := nrmA h21 | replace h21 := nrmB h21 | skip
            first | replace h21 := nrm1 h21 | replace h21 := nrm2 h21 | replace h21 := nrm3 h21 | replace h21 := nrm4 h21 | replace h21 := nrm5 h21 | replace h21 := nrm6 h21 | replace h21 := of_decide_eq_true h21 | replace h21 := of_decide_eq_false h21 | skip
            refine st_skip 7 S rfl ?_; clear S a; intro a S
            refine st_y S rfl rfl rfl (y_pickF S rfl rfl) ?_; clear S a; intro a S
            refine st_y S rfl rfl rfl (y_move S rfl) ?_; clear S a; intro a S
            refine st_skip 7 S rfl ?_; clear S a; intro a S
            refine st_y S rfl rfl rfl (y_pickF S rfl rfl) ?_; clear S a; intro a S
            refine st_y S rfl rfl rfl (y_assign S rfl) ?_; clear S a; intro a S
            refine wpList_nil ?_
            replace S := S.sub [(0, _), (1, _), (2, _), (5, _), (6, _), (11, _), (3, _)] rfl
            refine block_normal ?_
            refine then_normal ?_
            have eo : ∀ b, b = m.ok x → Sees 63 a [(3, .bool b)] → Sees 63 a [(3, .bool (m.ok x))] := fun b h S => h ▸ S
            refine ⟨eo _ ?_ (S.sub [(3, _)] rfl), M.drop 0⟩
            clear eo S M
            unfold Mv.ok
            first
              | (rw [if_pos (by assumption)]; done)
              | (rw [if_neg (by omega), if_pos (by assumption), decide_eq_true (p := (1 ≤ m.n ∧ m.n ≤ 4) ∧ (x.length : Int) = m.n - 1) (by omega)]; simp; done)
              | (rw [if_neg (by omega), if_pos (by assumption), decide_eq_false (p := (1 ≤ m.n ∧ m.n ≤ 4) ∧ (x.length : Int) = m.n - 1) (by omega)]; simp; done)
              | (rw [if_neg (by omega), if_neg (by omega), if_pos (by assumption), decide_eq_true (p := m.n = 4 ∧ (x.length : Int) = m.n) (by omega)]; simp; done)
              | (rw [if_neg (by omega), if_neg (by omega), if_pos (by assumption), decide_eq_false (p := m.n = 4 ∧ (x.length : Int) = m.n) (by omega)]; simp; done)
              | (rw [if_neg (by omega), if_neg (by omega), if_neg (by omega)]; done)
        · clear S; intro h16 S
          first | replace h16 := nrmA h16 | replace h16 := nrmB h16 | skip
          first | replace h16 := nrm1 h16 | replace h16 := nrm2 h16 | replace h16 := nrm3 h16 | replace h16 := nrm4 h16 | replace h16 := nrm5 h16 | replace h16 := nrm6 h16 | replace h16 := of_decide_eq_true h16 | replace h16 := of_decide_eq_false h16 | skip
          refine st_skip 3 S rfl ?_; clear S a; intro a S
          refine st_y S rfl rfl rfl (y_pickF S rfl rfl) ?_; clear S a; intro a S
          refine st_y S rfl rfl rfl (y_move S rfl) ?_; clear S a; intro a S
          refine st_skip 7 S rfl ?_; clear S a; intro a S
          refine st_y S rfl rfl rfl (y_pickF S rfl rfl) ?_; clear S a; intro a S
          refine st_y S rfl rfl rfl (y_move S rfl) ?_; clear S a; intro a S
          refine st_skip 7 S rfl ?_; clear S a; intro a S
          refine st_y S rfl rfl rfl (y_pickF S rfl rfl) ?_; clear S a; intro a S
          refine st_y S rfl rfl rfl (y_assign S rfl) ?_; clear S a; intro a S
          refine wpList_nil ?_
          replace S := S.sub [(0, _), (1, _), (2, _), (5, _), (6, _), (11, _), (3, _)] rfl
          refine block_normal ?_
          refine then_normal ?_
          have eo : ∀ b, b = m.ok x → Sees 63 a [(3, .bool b)] → Sees 63 a [(3, .bool (m.ok x))] := fun b h S => h ▸ S
          refine ⟨eo _ ?_ (S.sub [(3, _)] rfl), M.drop 0⟩
          clear eo S M
          unfold Mv.ok
          first
            | (rw [if_pos (by assumption)]; done)
            | (rw [if_neg (by omega), if_pos (by assumption), decide_eq_true (p := (1 ≤ m.n ∧ m.n ≤ 4) ∧ (x.length : Int) = m.n - 1) (by omega)]; simp; done)
            | (rw [if_neg (by omega), if_pos (by assumption), decide_eq_false (p := (1 ≤ m.n ∧ m.n ≤ 4) ∧ (x.length : Int) = m.n - 1) (by omega)]; simp; done)
            | (rw [if_neg (by omega), if_neg (by omega), if_pos (by assumption), decide_eq_true (p := m.n = 4 ∧ (x.length : Int) = m.n) (by omega)]; simp; done)
            | (rw [if_neg (by omega), if_neg (by omega), if_pos (by assumption), decide_eq_false (p := m.n = 4 ∧ (x.length : Int) = m.n) (by omega)]; simp; done)
            | (rw [if_neg (by omega), if_neg (by omega), if_neg (by omega)]; done)
      · clear S; intro h11 S
        first | replace h11 := nrmA h11 | replace h11 := nrmB h11 | skip
        first | replace h11 := nrm1 h11 | replace h11 := nrm2 h11 | replace h11 := nrm3 h11 | replace h11 := nrm4 h11 | replace h11 := nrm5 h11 | replace h11 := nrm6 h11 | replace h11 := of_decide_eq_true h11 | replace h11 := of_decide_eq_false h11 | skip
        refine st_condF S rfl ?_
        refine wp_seq ?_
        -- region 7 move.go:42
        refine wp_region_lit ?_
        refine st_y S rfl rfl rfl (y_int S rfl rfl rfl) ?_; clear S a; intro a S
        refine st_y S rfl rfl rfl (y_assign S rfl) ?_; clear S a; intro a S
        refine wpList_nil ?_
        replace S := S.sub [(0, _), (1, _), (2, _), (3, _), (5, _), (6, _), (11, _), (39, _)] rfl
        refine then_normal ?_
        refine st_split (t := 39) S rfl ?_ ?_
        · clear S; intro h39 S
          first | replace h39 := nrmA h39 | replace h39 := nrmB h39 | skip
          first | replace h39 := nrm1 h39 | replace h39 := nrm2 h39 | replace h39 := nrm3 h39 | replace h39 := nrm4 h39 | replace h39 := nrm5 h39 | replace h39 := nrm6 h39 | replace h39 := of_decide_eq_true h39 | replace h39 := of_decide_eq_false h39 | skip
          refine st_condT S rfl ?_
          -- region 8 move.go:43
          refine wp_region_lit ?_
          refine st_y S rfl rfl rfl (y_fieldAddr (k := 7) S (by kernel_rfl) rfl) ?_; clear S a; intro a S
          refine st_y S rfl rfl rfl (y_load S (by kernel_rfl) rfl (M.cell 0 rfl rfl)) ?_; clear S a; intro a S
          refine st_y S rfl rfl rfl (y_int S rfl rfl rfl) ?_; clear S a; intro a S
          refine st_y S rfl rfl rfl (y_move S rfl) ?_; clear S a; intro a S
          refine st_split (t := 44) S rfl ?_ ?_
          · clear S; intro h44 S
            first | replace h44 := nrmA h44 | replace h44 := nrmB h44 | skip
            first | replace h44 := nrm1 h44 | replace h44 := nrm2 h44 | replace h44 := nrm3 h44 | replace h44 := nrm4 h44 | replace h44 := nrm5 h44 | replace h44 := nrm6 h44 | replace h44 := of_decide_eq_true h44 | replace h44 := of_decide_eq_false h44 | skip
            refine st_y S rfl rfl rfl (y_fieldAddr (k := 8) S (by kernel_rfl) rfl) ?_; clear S a; intro a S
            refine st_y S rfl rfl rfl (y_load S (by kernel_rfl) rfl (M.cell 0 rfl rfl)) ?_; clear S a; intro a S
            refine st_y S rfl rfl rfl (y_lenS (E := 36) S rfl (by kernel_rfl)) ?_; clear S a; intro a S
            refine st_y S rfl rfl rfl (y_fieldAddr (k := 7) S (by kernel_rfl) rfl) ?_; clear S a; intro a S
            refine st_y S rfl rfl rfl (y_load S (by kernel_rfl) rfl (M.cell 0 rfl rfl)) ?_; clear S a; intro a S
            refine st_y S rfl rfl rfl (y_int S rfl rfl rfl) ?_; clear S a; intro a S
            refine st_y S rfl rfl rfl (y_pickT S rfl rfl) ?_; clear S a; intro a S
            refine st_y S rfl rfl rfl (y_move S rfl) ?_; clear S a; intro a S
            refine st_split (t := 52) S rfl ?_ ?_
            · clear S; intro h52 S
              first | replace h52 := nrmA h52 | replace h52 := nrmB h52 | skip
              first | replace h52 := nrm1 h52 | replace h52 := nrm2 h52 | replace h52 := nrm3 h52 | replace h52 := nrm4 h52 | replace h52 := nrm5 h52 | replace h52 := nrm6 h52 | replace h52 := of_decide_eq_true h52 | replace h52 := of_decide_eq_false h52 | skip
              refine st_y S rfl rfl rfl (y_fieldAddr (k := 4) S (by kernel_rfl) rfl) ?_; clear S a; intro a S
              refine st_y S rfl rfl rfl (y_loadAgg (cs := [_, _]) S (by kernel_rfl) rfl rfl (M.cellsAt (k := 2) 0 rfl rfl)) ?_; clear S a; intro a S
              refine st_y S rfl rfl rfl (y_fieldAddr (k := 6) S (by kernel_rfl) rfl) ?_; clear S a; intro a S
              refine st_y S rfl rfl rfl (y_load S (by kernel_rfl) rfl (M.cell 0 rfl rfl)) ?_; clear S a; intro a S
              refine st_y S rfl rfl rfl (y_fieldAddr (k := 1) S (by kernel_rfl) rfl) ?_; clear S a; intro a S
              refine st_y S rfl rfl rfl (y_loadAgg (cs := [_, _, _]) S (by kernel_rfl) rfl rfl (M.cellsAt (k := 3) 0 rfl rfl)) ?_; clear S a; intro a S
              refine st_call (xs := [(Operand.tmp 54), (Operand.tmp 56), (Operand.tmp 58)]) S (enters_of Try.func16 (by decide) rfl) rfl rfl rfl (wayMay_any _ _ _ m.name _) ?_
              rintro _ w4 ⟨rfl, hK⟩; refine ⟨_, rfl, ?_⟩; clear S a; intro a S; replace M := M.grow hK
              refine st_y S rfl rfl rfl (y_pickT S rfl rfl) ?_; clear S a; intro a S
              refine st_y S rfl rfl rfl (y_assign S rfl) ?_; clear S a; intro a S
              refine wpList_nil ?_
              replace S := S.sub [(0, _), (1, _), (2, _), (5, _), (6, _), (11, _), (39, _), (3, _)] rfl
              refine block_normal ?_
              refine then_normal ?_
              have eo : ∀ b, b = m.ok x → Sees 63 a [(3, .bool b)] → Sees 63 a [(3, .bool (m.ok x))] := fun b h S => h ▸ S
              refine ⟨eo _ ?_ (S.sub [(3, _)] rfl), M.drop 0⟩
              clear eo S M
              unfold Mv.ok
              first
                | (rw [if_pos (by assumption)]; done)
                | (rw [if_neg (by omega), if_pos (by assumption), decide_eq_true (p := (1 ≤ m.n ∧ m.n ≤ 4) ∧ (x.length : Int) = m.n - 1) (by omega)]; simp; done)
                | (rw [if_neg (by omega), if_pos (by assumption), decide_eq_false (p := (1 ≤ m.n ∧ m.n ≤ 4) ∧ (x.length : Int) = m.n - 1) (by omega)]; simp; done)
                | (rw [if_neg (by omega), if_neg (by omega), if_pos (by assumption), decide_eq_true (p := m.n = 4 ∧ (x.length : Int) = m.n) (by omega)]; simp; done)
                | (rw [if_neg (by omega), if_neg (by omega), if_pos (by assumption), decide_eq_false (p := m.n = 4 ∧ (x.length : Int) = m.n) (by omega)]; simp; done)
                | (rw [if_neg (by omega), if_neg (by omega), if_neg (by omega)]; done)
            · clear S; intro h52 S
              first | replace h52 := nrmA h52 | replace h52 := nrmB h52 | skip
              first | replace h52 := nrm1 h52 | replace h52 := nrm2 h52 | replace h52 := nrm3 h52 | replace h52 := nrm4 h52 | replace h52 := nrm5 h52 | replace h52 := nrm6 h52 | replace h52 := of_decide_eq_true h52 | replace h52 := of_decide_eq_false h52 | skip
              refine st_skip 7 S rfl ?_; clear S a; intro a S
              refine st_y S rfl rfl rfl (y_pickF S rfl rfl) ?_; clear S a; intro a S
              refine st_y S rfl rfl rfl (y_assign S rfl) ?_; clear S a; intro a S
              refine wpList_nil ?_
              replace S := S.sub [(0, _), (1, _), (2, _), (5, _), (6, _), (11, _), (39, _), (3, _)] rfl
              refine block_normal ?_
              refine then_normal ?_
              have eo : ∀ b, b = m.ok x → Sees 63 a [(3, .bool b)] → Sees 63 a [(3, .bool (m.ok x))] := fun b h S => h ▸ S
              refine ⟨eo _ ?_ (S.sub [(3, _)] rfl), M.drop 0⟩
              clear eo S M
              unfold Mv.ok
              first
                | (rw [if_pos (by assumption)]; done)
                | (rw [if_neg (by omega), if_pos (by assumption), decide_eq_true (p := (1 ≤ m.n ∧ m.n ≤ 4) ∧ (x.length : Int) = m.n - 1) (by omega)]; simp; done)
                | (rw [if_neg (by omega), if_pos (by assumption), decide_eq_false (p := (1 ≤ m.n ∧ m.n ≤ 4) ∧ (x.length : Int) = m.n - 1) (by omega)]; simp; done)
                | (rw [if_neg (by omega), if_neg (by omega), if_pos (by assumption), decide_eq_true (p := m.n = 4 ∧ (x.length : Int) = m.n) (by omega)]; simp; done)
                | (rw [if_neg (by omega), if_neg (by omega), if_pos (by assumption), decide_eq_false (p := m.n = 4 ∧ (x.length : Int) = m.n) (by omega)]; simp; done)
                | (rw [if_neg (by omega), if_neg (by omega), if_neg (by omega)]; done)
          · clear S; intro h44 S
            first | replace h44 := nrmA h44 | replace h44 := nrmB h44 | skip
            first | replace h44 := nrm1 h44 | replace h44 := nrm2 h44 | replace h44 := nrm3 h44 | replace h44 := nrm4 h44 | replace h44 := nrm5 h44 | replace h44 := nrm6 h44 | replace h44 := of_decide_eq_true h44 | replace h44 := of_decide_eq_false h44 | skip
            refine st_skip 6 S rfl ?_; clear S a; intro a S
            refine st_y S rfl rfl rfl (y_pickF S rfl rfl) ?_; clear S a; intro a S
            refine st_y S rfl rfl rfl (y_move S rfl) ?_; clear S a; intro a S
            refine st_skip 7 S rfl ?_; clear S a; intro a S
            refine st_y S rfl rfl rfl (y_pickF S rfl rfl) ?_; clear S a; intro a S
            refine st_y S rfl rfl rfl (y_assign S rfl) ?_; clear S a; intro a S
            refine wpList_nil ?_
            replace S := S.sub [(0, _), (1, _), (2, _), (5, _), (6, _), (11, _), (39, _), (3, _)] rfl
            refine block_normal ?_
            refine then_normal ?_
            have eo : ∀ b, b = m.ok x → Sees 63 a [(3, .bool b)] → Sees 63 a [(3, .bool (m.ok x))] := fun b h S => h ▸ S
            refine ⟨eo _ ?_ (S.sub [(3, _)] rfl), M.drop 0⟩
            clear eo S M
            unfold Mv.ok
            first
              | (rw [if_pos (by assumption)]; done)
              | (rw [if_neg (by omega), if_pos (by assumption), decide_eq_true (p := (1 ≤ m.n ∧ m.n ≤ 4) ∧ (x.length : Int) = m.n - 1) (by omega)]; simp; done)
              | (rw [if_neg (by omega), if_pos (by assumption), decide_eq_false (p := (1 ≤ m.n ∧ m.n ≤ 4) ∧ (x.length : Int) = m.n - 1) (by omega)]; simp; done)
              | (rw [if_neg (by omega), if_neg (by omega), if_pos (by assumption), decide_eq_true (p := m.n = 4 ∧ (x.length : Int) = m.n) (by omega)]; simp; done)
              | (rw [if_neg (by omega), if_neg (by omega), if_pos (by assumption), decide_eq_false (p := m.n = 4 ∧ (x.length : Int) = m.n) (by omega)]; simp; done)
              | (rw [if_neg (by omega), if_neg (by omega), if_neg (by omega)]; done)
        · clear S; intro h39 S
          first | replace h39 := nrmA h39 | replace h39 := nrmB h39 | skip
          first | replace h39 := nrm1 h39 | replace h39 := nrm2 h39 | replace h39 := nrm3 h39 | replace h39 := nrm4 h39 | replace h39 := nrm5 h39 | replace h39 := nrm6 h39 | replace h39 := of_decide_eq_true h39 | replace h39 := of_decide_eq_false h39 | skip
          refine st_condF S rfl ?_
          refine wp_skip ?_
          refine block_normal ?_
          refine then_normal ?_
          have eo : ∀ b, b = m.ok x → Sees 63 a [(3, .bool b)] → Sees 63 a [(3, .bool (m.ok x))] := fun b h S => h ▸ S
          refine ⟨eo _ ?_ (S.sub [(3, _)] rfl), M.drop 0⟩
          clear eo S M
          unfold Mv.ok
          first
            | (rw [if_pos (by assumption)]; done)
            | (rw [if_neg (by omega), if_pos (by assumption), decide_eq_true (p := (1 ≤ m.n ∧ m.n ≤ 4) ∧ (x.length : Int) = m.n - 1) (by omega)]; simp; done)
            | (rw [if_neg (by omega), if_pos (by assumption), decide_eq_false (p := (1 ≤ m.n ∧ m.n ≤ 4) ∧ (x.length : Int) = m.n - 1) (by omega)]; simp; done)
            | (rw [if_neg (by omega), if_neg (by omega), if_pos (by assumption), decide_eq_true (p := m.n = 4 ∧ (x.length : Int) = m.n) (by omega)]; simp; done)
            | (rw [if_neg (by omega), if_neg (by omega), if_pos (by assumption), decide_eq_false (p := m.n = 4 ∧ (x.length : Int) = m.n) (by omega)]; simp; done)
            | (rw [if_neg (by omega), if_neg (by omega), if_neg (by omega)]; done)
  · clear S a M; intro a wc
    rintro ⟨S, M⟩
    refine wp_seq ?_
    refine wp_seq ?_
    -- region 9 move.go:45
    refine wp_region_lit ?_
    refine st_y S rfl rfl rfl (y_move S rfl) ?_; clear S a; intro a S
    refine st_y S rfl rfl rfl (y_not S rfl) ?_; clear S a; intro a S
    refine wpList_nil ?_
    replace S := S.sub [(3, _), (62, _)] rfl
    refine then_normal ?_
    refine st_split (t := 62) S rfl ?_ ?_
    · clear S; intro h62 S
      refine st_condT S rfl ?_
      refine wp_seq ?_
      -- region 10 move.go:46
      refine wp_region_lit ?_
      refine st_y S rfl rfl rfl (y_assign S rfl) ?_; clear S a; intro a S
      refine wpList_nil ?_
      replace S := S.sub [(3, _), (62, _), (2, _)] rfl
      refine then_normal ?_
      refine wp_ret ?_
      refine then_ret ?_
      refine end_one S rfl (res_tmp rfl) ?_
      refine ⟨?_, M.below⟩; unfold Mv.chk
      first
        | (rw [if_neg (by simpa using h62)]; done)
        | (rw [if_pos (by simpa using h62)]; done)
    · clear S; intro h62 S
      refine st_condF S rfl ?_
      refine wp_skip ?_
      refine then_normal ?_
      refine wp_seq ?_
      -- region 11 move.go:48
      refine wp_region_lit ?_
      refine st_y S rfl rfl rfl (y_assign S rfl) ?_; clear S a; intro a S
      refine wpList_nil ?_
      replace S := S.sub [(3, _), (62, _), (2, _)] rfl
      refine then_normal ?_
      refine wp_ret ?_
      refine end_one S rfl (res_tmp rfl) ?_
      refine ⟨?_, M.below⟩; unfold Mv.chk
      first
        | (rw [if_neg (by simpa using h62)]; done)
        | (rw [if_pos (by simpa using h62)]; done)
/-- the exec of a move under way -/
def execM (m : Mv) : Msg := ⟨2, 0, m.frm, 0, 0, m.name, m.n, 2, m.cs * 4 + m.n - 1, ⟨0, 0, 0, 0, 0, 0, 0, 0⟩, 0, false, 0, 0⟩
theorem exec_any (m : Mv) (va : Option Addr) (vn vc : Nat) (w : World) (h : (0 ≤ m.cs ∧ m.cs < 8) ∧ (1 ≤ m.n ∧ m.n ≤ 4)) : Calls Try.prog 17 #[.agg (m.cells (.slice va vn vc))] w fun e w' => e = .returned (.agg ((execM m).cells (.slice none 0 0))) ∧ Below w.heap.size w w' := by
  have M := Mem.start w
  refine calls_enter Try.func17 rfl 18 rfl rfl ?_; intro a S
  refine wp_seq ?_
  -- region 0 move.go:52
  refine wp_region_lit ?_
  refine st_box S M rfl rfl rfl #[_, _, _, _, _, _, _, _, _] rfl ?_; clear S M a; intro a w1 b1 S M hB
  refine st_alloc S M rfl rfl #[.int .i8 0, .int .i64 0, .int .i64 0, .int .i64 0, .int .i64 0, .int .i64 0, .int .i64 0, .int .i64 0, .int .i64 0, .int .i8 0, .int .i64 0, .int .u8 0, .int .u8 0, .int .u8 0, .int .u8 0, .int .u8 0, .int .u8 0, .int .u8 0, .int .u8 0, .int .i64 0, .bool false, .int .i64 0, .int .i64 0, .slice none 0 0] (by kernel_rfl) ?_; clear S M a; intro a w2 b2 S M hB
  refine wpList_nil ?_
  replace S := S.sub [(0, _), (1, _), (2, _)] rfl
  refine then_normal ?_
  refine wp_seq ?_
  -- region 1 move.go:53
  refine wp_region_lit ?_
  refine st_y S rfl rfl rfl (y_fieldAddr (k := 6) S (by kernel_rfl) rfl) ?_; clear S a; intro a S
  refine st_y S rfl rfl rfl (y_load S (by kernel_rfl) rfl (M.cell 1 rfl rfl)) ?_; clear S a; intro a S
  refine st_y S rfl rfl rfl (y_fieldAddr (k := 1) S (by kernel_rfl) rfl) ?_; clear S a; intro a S
  refine st_y S rfl rfl rfl (y_loadAgg (cs := [_, _, _]) S (by kernel_rfl) rfl rfl (M.cellsAt (k := 3) 1 rfl rfl)) ?_; clear S a; intro a S
  refine st_y S rfl rfl rfl (y_fieldAddr (k := 7) S (by kernel_rfl) rfl) ?_; clear S a; intro a S
  refine st_y S rfl rfl rfl (y_load S (by kernel_rfl) rfl (M.cell 1 rfl rfl)) ?_; clear S a; intro a S
  refine st_y S rfl rfl rfl (y_fieldAddr (k := 4) S (by kernel_rfl) rfl) ?_; clear S a; intro a S
  refine st_y S rfl rfl rfl (y_fieldAddr (k := 0) S (by kernel_rfl) rfl) ?_; clear S a; intro a S
  refine st_y S rfl rfl rfl (y_load S (by kernel_rfl) rfl (M.cell 1 rfl rfl)) ?_; clear S a; intro a S
  (first | refine st_y S rfl rfl rfl (y_mulN S rfl rfl (by omega)) ?_ | refine st_y S rfl rfl rfl (y_int S rfl rfl rfl) ?_); clear S a; intro a S
  refine st_y S rfl rfl rfl (y_fieldAddr (k := 7) S (by kernel_rfl) rfl) ?_; clear S a; intro a S
  refine st_y S rfl rfl rfl (y_load S (by kernel_rfl) rfl (M.cell 1 rfl rfl)) ?_; clear S a; intro a S
  (first | refine st_y S rfl rfl rfl (y_addN S rfl rfl (by omega)) ?_ | refine st_y S rfl rfl rfl (y_int S rfl rfl rfl) ?_); clear S a; intro a S
  (first | refine st_y S rfl rfl rfl (y_subN S rfl rfl (by omega)) ?_ | refine st_y S rfl rfl rfl (y_int S rfl rfl rfl) ?_); clear S a; intro a S
  refine st_y S rfl rfl rfl (y_build (ps := [(0, (Operand.const (Value.int IntKind.i8 2))), (2, (Operand.tmp 4)), (5, (Operand.tmp 6)), (6, (Operand.tmp 8)), (7, (Operand.const (Value.int IntKind.i8 2))), (8, (Operand.tmp 16))]) (pl := [(0, 1), (1, 1), (2, 1), (3, 1), (4, 1), (5, 3), (8, 1), (9, 1), (10, 1), (11, 8), (19, 1), (20, 1), (21, 1), (22, 1), (23, 1)]) (z := [.int .i8 0, .int .i64 0, .int .i64 0, .int .i64 0, .int .i64 0, .int .i64 0, .int .i64 0, .int .i64 0, .int .i64 0, .int .i8 0, .int .i64 0, .int .u8 0, .int .u8 0, .int .u8 0, .int .u8 0, .int .u8 0, .int .u8 0, .int .u8 0, .int .u8 0, .int .i64 0, .bool false, .int .i64 0, .int .i64 0, .slice none 0 0]) (cs := [_, _, _, _, _, _, _, _, _, _, _, _, _, _, _, _, _, _, _, _, _, _, _, _]) S (by kernel_rfl) rfl rfl) ?_; clear S a; intro a S
  refine st_store (sz := 24) (us := [_, _, _, _, _, _, _, _, _, _, _, _, _, _, _, _, _, _, _, _, _, _, _, _]) S M 0 rfl (by kernel_rfl) rfl rfl rfl rfl rfl rfl (by first | decide | (simp; done) | (simp; omega)) ?_; clear M; intro w3 M
  simp only [putL, List.set_cons_zero, List.set_cons_succ, Nat.reduceAdd] at M
  refine wpList_nil ?_
  replace S := S.sub [(0, _), (1, _), (2, _)] rfl
  refine then_normal ?_
  refine wp_ret ?_
  refine end_one S rfl (res_agg (cs := [_, _, _, _, _, _, _, _, _, _, _, _, _, _, _, _, _, _, _, _, _, _, _, _]) (by kernel_rfl) rfl rfl (M.cellsAt (k := 24) 0 rfl rfl)) ?_
  exact ⟨rfl, M.below⟩
theorem copied_any (m : Mv) (va : Option Addr) (vn vc : Nat) (x : List V8) (w : World) (hv : Vs 0 w.heap.size w (.slice va vn vc) x) (hx : x.length ≤ 1000) : Calls Try.prog 18 #[.agg (m.cells (.slice va vn vc))] w fun e w' => ∃ ad cp, e = .returned (.agg (m.cells (.slice ad x.length cp))) ∧ Fresh w w' 36 8 (.slice ad x.length cp) x.length (vcells x) := by
  have M := Mem.start w
  refine calls_enter Try.func18 rfl 8 rfl rfl ?_; intro a S
  refine wp_seq ?_
  -- region 0 move.go:60
  refine wp_region_lit ?_
  refine st_box S M rfl rfl rfl #[_, _, _, _, _, _, _, _, _] rfl ?_; clear S M a; intro a w1 bA S M hB
  refine st_alloc S M rfl rfl #[.int .i8 0, .int .i64 0, .int .i64 0, .int .i64 0, .int .i64 0, .int .i64 0, .int .i64 0, .int .i64 0, .slice none 0 0] (by kernel_rfl) ?_; clear S M a; intro a w2 bO S M hB
  refine wpList_nil ?_
  replace S := S.sub [(0, _), (1, _), (2, _)] rfl
  refine then_normal ?_
  refine wp_seq ?_
  -- region 1 move.go:61
  refine wp_region_lit ?_
  refine st_y S rfl rfl rfl (y_fieldAddr (k := 8) S (by kernel_rfl) rfl) ?_; clear S a; intro a S
  refine st_y S rfl rfl rfl (y_load S (by kernel_rfl) rfl (M.cell 1 rfl rfl)) ?_; clear S a; intro a S
  replace M := M.rowNil 36 8
  refine st_append (e := 36) (sz := 8) (by_ := 8) (zc := [.int .u8 0, .int .u8 0, .int .u8 0, .int .u8 0, .int .u8 0, .int .u8 0, .int .u8 0, .int .u8 0]) S M 0 rfl rfl (by kernel_rfl) rfl (by decide) rfl rfl rfl (M.arg hv) (allOne_vcells _) (by omega) (by unfold maxLen; omega) ?_; clear S M a; intro a w3 vA loA hiA S M
  rw [Nat.zero_add, List.nil_append] at M
  obtain ⟨ad, cp, hE, -, -⟩ := (M.readRow 0 rfl (by unfold maxLen; omega)).form
  subst hE
  refine st_y S rfl rfl rfl (y_fieldAddr (k := 8) S (by kernel_rfl) rfl) ?_; clear S a; intro a S
  refine st_store (sz := 1) (us := [_]) S M 2 rfl (by kernel_rfl) rfl rfl rfl rfl rfl rfl (by first | decide | (simp; done) | (simp; omega)) ?_; clear M; intro w4 M
  simp only [putL, List.set_cons_zero, List.set_cons_succ, Nat.reduceAdd] at M
  refine wpList_nil ?_
  replace S := S.sub [(0, _), (1, _), (2, _)] rfl
  refine then_normal ?_
  refine wp_seq ?_
  -- region 2 move.go:62
  refine wp_region_lit ?_
  refine st_y S rfl rfl rfl (y_loadAgg (cs := [_, _, _, _, _, _, _, _, _]) S (by kernel_rfl) rfl rfl (M.cellsAt (k := 9) 2 rfl rfl)) ?_; clear S a; intro a S
  refine st_store (sz := 9) (us := [_, _, _, _, _, _, _, _, _]) S M 1 rfl (by kernel_rfl) rfl rfl rfl rfl rfl rfl (by first | decide | (simp; done) | (simp; omega)) ?_; clear M; intro w5 M
  simp only [putL, List.set_cons_zero, List.set_cons_succ, Nat.reduceAdd] at M
  refine wpList_nil ?_
  replace S := S.sub [(0, _), (1, _), (2, _)] rfl
  refine then_normal ?_
  refine wp_ret ?_
  refine end_one S rfl (res_agg (cs := [_, _, _, _, _, _, _, _, _]) (by kernel_rfl) rfl rfl (M.cellsAt (k := 9) 1 rfl rfl)) ?_
  exact ⟨ad, cp, rfl, M.fresh 0 rfl⟩
theorem greatV_any (m : Mv) (ad : Option Addr) (l c : Nat) (w : World) : Calls Try.prog 13 #[.agg (m.cells (.slice ad l c))] w fun e w' => e = .returned (.bool (decide ((40 : Int) < (l : Int)))) ∧ Below w.heap.size w w' := by
  have M := Mem.start w
  refine calls_enter Try.func13 rfl 7 rfl rfl ?_; intro a S
  refine wp_seq ?_
  -- region 0 law.go:39
  refine wp_region_lit ?_
  refine st_box S M rfl rfl rfl #[_, _, _, _, _, _, _, _, _] rfl ?_; clear S M a; intro a w1 b1 S M hB
  refine st_y S rfl rfl rfl (y_assign S rfl) ?_; clear S a; intro a S
  refine wpList_nil ?_
  replace S := S.sub [(0, _), (1, _), (2, _)] rfl
  refine then_normal ?_
  refine wp_seq ?_
  -- region 1 law.go:39
  refine wp_region_lit ?_
  refine st_y S rfl rfl rfl (y_fieldAddr (k := 8) S (by kernel_rfl) rfl) ?_; clear S a; intro a S
  refine st_y S rfl rfl rfl (y_load S (by kernel_rfl) rfl (M.cell 0 rfl rfl)) ?_; clear S a; intro a S
  refine st_y S rfl rfl rfl (y_lenS (E := 36) S rfl (by kernel_rfl)) ?_; clear S a; intro a S
  refine st_y S rfl rfl rfl (y_int S rfl rfl rfl) ?_; clear S a; intro a S
  refine st_y S rfl rfl rfl (y_assign S rfl) ?_; clear S a; intro a S
  refine wpList_nil ?_
  replace S := S.sub [(0, _), (1, _), (2, _)] rfl
  refine then_normal ?_
  refine wp_ret ?_
  refine end_one S rfl (res_tmp rfl) ?_
  exact ⟨rfl, M.below⟩

end Go.Proofs.Ytgocjpcmjljeoaa
