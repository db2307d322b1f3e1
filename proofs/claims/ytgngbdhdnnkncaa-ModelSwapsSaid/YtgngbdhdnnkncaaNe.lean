/-
  Package model: Writes. law26: wakes.
-/
import Derived.Test.YtgngbdhdnnkncaaNb
import Derived.Test.YtgngbdhdnnkncaaNd
namespace Go.Proofs.Ytgngbdhdnnkncaa
open Go.RowKit Go.Sort

def WritesP (l : List Sn) (w : World) (e : Ending) (w' : World) : Prop :=
  ∃ wa wc ws lo hi, e = .returned (.slice wa ws.length wc) ∧ Mem w w' [rowE lo hi 3 1 (.slice wa ws.length wc) ws.length (icells ws)] ∧ (∀ k, k ∈ ws ↔ WrsP (stepsP l l.length) k) ∧ ws.length ≤ l.length
theorem writes_any (va : Option Addr) (vc : Nat) (l : List Sn) (w : World) (hv : Ss 0 w.heap.size w (.slice va l.length vc) l) (hl : l.length ≤ 1000) :
    Calls Try.prog 7 #[.slice va l.length vc] w (WritesP l w) := by
  have M := Mem.start w
  refine calls_enter Try.func7 rfl 11 rfl rfl ?_; intro a S
  refine nxD ?_
  refine st_go [1] S rfl (by kernel_rfl) ?_; clear S a; intro a S
  refine nxA ?_
  refine st_go [1] S rfl (by kernel_rfl) ?_; clear S a; intro a S
  refine st_call (xs := [(Operand.tmp 6)]) S (enters_of Try.func13 (by decide) rfl) rfl rfl rfl (touched_any va vc l _ (M.argW hv) hl) ?_
  rintro _ w1 ⟨ra, rc, wa, wc, rs, ws, lo1, hi1, lo2, hi2, rfl, M1, -, hws, -, hwl⟩; refine ⟨_, rfl, ?_⟩; clear S a; intro a S; replace M := M.join M1; clear M1
  simp only [List.cons_append, List.nil_append] at M
  refine st_go [1, 1, 1, 1, 1] S rfl (by kernel_rfl) ?_; clear S a; intro a S
  refine nxA ?_
  refine st_go [1, 1] S rfl (by kernel_rfl) ?_; clear S a; intro a S
  refine nxC ?_
  refine wp_ret ?_
  refine end_one S rfl (res_tmp rfl) ?_
  skip
  replace M := M.drop 0
  simp only [List.eraseIdx_cons_succ, List.eraseIdx_cons_zero] at M
  exact ⟨wa, wc, ws, lo2, hi2, rfl, M, hws, hwl⟩
abbrev wkW : Sn := ⟨2, ⟨0, 0, 0⟩, 3, ⟨1, 0, 0, 0, 0, 0, 0, 0⟩, 0⟩
abbrev wkR : Sn := ⟨1, ⟨0, 0, 0⟩, 3, ⟨1, 0, 0, 0, 0, 0, 0, 0⟩, 0⟩
theorem wake_wr : (doR zHome [wkW, wkR]).2 = true := by decide
theorem wake_rw : (doR zHome [wkR, wkW]).2 = false := by decide
theorem wake_ok1 : ∀ x ∈ [wkW, wkR], okS x := by decide
theorem wake_ok2 : ∀ x ∈ [wkR, wkW], okS x := by decide
set_option maxHeartbeats 1000000 in
set_option maxRecDepth 10000 in
theorem wakes26_any (w : World) : Calls Try.prog 5 #[] w fun e w' => e = .returned (.bool true) ∧ Below w.heap.size w w' := by
  have M := Mem.start w
  refine calls_enter Try.func5 rfl 45 rfl rfl ?_; intro a S
  refine nxD ?_
  refine st_go [1] S rfl (by kernel_rfl) ?_; clear S a; intro a S
  refine nxA ?_
  refine st_alloc S M rfl rfl (hcells zHome).toArray (by kernel_rfl) ?_; clear S M a; intro a w1 bB S M hB
  refine nxA ?_
  refine st_y S rfl rfl rfl (y_buildA (ps := [(0, (Operand.const (Value.int IntKind.u8 1)))]) (sz := 1) (z := [.int .u8 0, .int .u8 0, .int .u8 0, .int .u8 0, .int .u8 0, .int .u8 0, .int .u8 0, .int .u8 0]) (cs := [_, _, _, _, _, _, _, _]) S (by kernel_rfl) rfl rfl) ?_; clear S a; intro a S
  refine st_y S rfl rfl rfl (y_build (ps := [(0, (Operand.const (Value.int IntKind.i8 2))), (2, (Operand.const (Value.int IntKind.i64 3))), (3, (Operand.tmp 10))]) (pl := [(0, 1), (1, 3), (4, 1), (5, 8), (13, 1)]) (z := [.int .i8 0, .int .i64 0, .int .i64 0, .int .i64 0, .int .i64 0, .int .u8 0, .int .u8 0, .int .u8 0, .int .u8 0, .int .u8 0, .int .u8 0, .int .u8 0, .int .u8 0, .int .i64 0]) (cs := [_, _, _, _, _, _, _, _, _, _, _, _, _, _]) S (by kernel_rfl) rfl (rfl)) ?_; clear S a; intro a S
  refine st_alloc S M rfl rfl #[.int .i8 0, .int .i64 0, .int .i64 0, .int .i64 0, .int .i64 0, .int .u8 0, .int .u8 0, .int .u8 0, .int .u8 0, .int .u8 0, .int .u8 0, .int .u8 0, .int .u8 0, .int .i64 0] (by kernel_rfl) ?_; clear S M a; intro a w2 bW S M hB
  refine st_store (sz := 14) (us := [_, _, _, _, _, _, _, _, _, _, _, _, _, _]) S M 0 rfl (by kernel_rfl) rfl rfl rfl rfl rfl rfl (by first | decide | (simp; done) | (simp; omega)) ?_; clear M; intro w3 M
  simp only [putL, List.set_cons_zero, List.set_cons_succ, Nat.reduceAdd] at M
  refine nxA ?_
  refine st_y S rfl rfl rfl (y_buildA (ps := [(0, (Operand.const (Value.int IntKind.u8 1)))]) (sz := 1) (z := [.int .u8 0, .int .u8 0, .int .u8 0, .int .u8 0, .int .u8 0, .int .u8 0, .int .u8 0, .int .u8 0]) (cs := [_, _, _, _, _, _, _, _]) S (by kernel_rfl) rfl rfl) ?_; clear S a; intro a S
  refine st_y S rfl rfl rfl (y_build (ps := [(0, (Operand.const (Value.int IntKind.i8 1))), (2, (Operand.const (Value.int IntKind.i64 3))), (3, (Operand.tmp 12))]) (pl := [(0, 1), (1, 3), (4, 1), (5, 8), (13, 1)]) (z := [.int .i8 0, .int .i64 0, .int .i64 0, .int .i64 0, .int .i64 0, .int .u8 0, .int .u8 0, .int .u8 0, .int .u8 0, .int .u8 0, .int .u8 0, .int .u8 0, .int .u8 0, .int .i64 0]) (cs := [_, _, _, _, _, _, _, _, _, _, _, _, _, _]) S (by kernel_rfl) rfl (rfl)) ?_; clear S a; intro a S
  refine st_alloc S M rfl rfl #[.int .i8 0, .int .i64 0, .int .i64 0, .int .i64 0, .int .i64 0, .int .u8 0, .int .u8 0, .int .u8 0, .int .u8 0, .int .u8 0, .int .u8 0, .int .u8 0, .int .u8 0, .int .i64 0] (by kernel_rfl) ?_; clear S M a; intro a w4 bR S M hB
  refine st_store (sz := 14) (us := [_, _, _, _, _, _, _, _, _, _, _, _, _, _]) S M 0 rfl (by kernel_rfl) rfl rfl rfl rfl rfl rfl (by first | decide | (simp; done) | (simp; omega)) ?_; clear M; intro w5 M
  simp only [putL, List.set_cons_zero, List.set_cons_succ, Nat.reduceAdd] at M
  refine nxA ?_
  refine st_y S rfl rfl rfl (y_loadAgg (k := 256) (cs := _) S (by kernel_rfl) rfl (by with_reducible first | exact zHome_len | exact hl2) (M.cellsAt 2 rfl cutL_all)) ?_; clear S a; intro a S
  refine st_y S rfl rfl rfl (y_loadAgg (cs := [_, _, _, _, _, _, _, _, _, _, _, _, _, _]) S (by kernel_rfl) rfl rfl (M.cellsAt (k := 14) 1 rfl rfl)) ?_; clear S a; intro a S
  refine st_y S rfl rfl rfl (y_loadAgg (cs := [_, _, _, _, _, _, _, _, _, _, _, _, _, _]) S (by kernel_rfl) rfl rfl (M.cellsAt (k := 14) 0 rfl rfl)) ?_; clear S a; intro a S
  refine st_lit (ps := [(0, (Operand.tmp 16)), (1, (Operand.tmp 17))]) (e := 36) (sz := 14) (zl := [.int .i8 0, .int .i64 0, .int .i64 0, .int .i64 0, .int .i64 0, .int .u8 0, .int .u8 0, .int .u8 0, .int .u8 0, .int .u8 0, .int .u8 0, .int .u8 0, .int .u8 0, .int .i64 0, .int .i8 0, .int .i64 0, .int .i64 0, .int .i64 0, .int .i64 0, .int .u8 0, .int .u8 0, .int .u8 0, .int .u8 0, .int .u8 0, .int .u8 0, .int .u8 0, .int .u8 0, .int .i64 0]) (cs := [_, _, _, _, _, _, _, _, _, _, _, _, _, _, _, _, _, _, _, _, _, _, _, _, _, _, _, _]) S M rfl rfl (by kernel_rfl) rfl (rfl) ?_; clear S M a; intro a w6 bL1 S M hB
  refine st_call (xs := [(Operand.tmp 15), (Operand.tmp 18)]) S (enters_of Try.func6 (by decide) rfl) rfl rfl rfl (do_any zHome rfl _ 2 [wkW, wkR] _ (M.sliceAt (m := 2) (sz := 14) (cs := scells [wkW, wkR]) 0 rfl (M.cellsAt (k := 28) 0 rfl rfl) rfl (Nat.le_refl 2) (by decide))) ?_
  rintro _ w7 ⟨er, h2, told, rfl, hK, hh2, her, hdo⟩
  obtain rfl := her.2 wake_ok1
  obtain rfl : told = true := (congrArg Prod.snd (hdo rfl)).trans wake_wr
  have hl2 : (hcells h2).length = 256 := by rw [hcells_length, hh2]
  refine ⟨_, rfl, ?_⟩; clear S a; intro a S; replace M := M.grow hK
  refine st_go [1, 1, 1, 1] S rfl (by kernel_rfl) ?_; clear S a; intro a S
  refine st_alloc S M rfl rfl (hcells zHome).toArray (by kernel_rfl) ?_; clear S M a; intro a w8 b1 S M hB
  refine st_storeAll (sz := 256) S M 0 rfl (by kernel_rfl) rfl rfl (by with_reducible first | exact zHome_len | exact hl2) (by exact allOne_hcells _) rfl (by with_reducible first | exact zHome_len | exact hl2) ?_; clear M; intro w9 M
  simp only [List.set_cons_zero, List.set_cons_succ] at M
  refine st_go [1, 1] S rfl (by kernel_rfl) ?_; clear S a; intro a S
  replace S := S.sub [(0, _), (1, _), (2, _), (3, _), (5, _), (6, _)] rfl
  refine nxA ?_
  refine st_y S rfl rfl rfl (y_loadAgg (k := 256) (cs := _) S (by kernel_rfl) rfl (by with_reducible first | exact zHome_len | exact hl2) (M.cellsAt 4 rfl cutL_all)) ?_; clear S a; intro a S
  refine st_y S rfl rfl rfl (y_loadAgg (cs := [_, _, _, _, _, _, _, _, _, _, _, _, _, _]) S (by kernel_rfl) rfl rfl (M.cellsAt (k := 14) 2 rfl rfl)) ?_; clear S a; intro a S
  refine st_y S rfl rfl rfl (y_loadAgg (cs := [_, _, _, _, _, _, _, _, _, _, _, _, _, _]) S (by kernel_rfl) rfl rfl (M.cellsAt (k := 14) 3 rfl rfl)) ?_; clear S a; intro a S
  refine st_lit (ps := [(0, (Operand.tmp 25)), (1, (Operand.tmp 26))]) (e := 36) (sz := 14) (zl := [.int .i8 0, .int .i64 0, .int .i64 0, .int .i64 0, .int .i64 0, .int .u8 0, .int .u8 0, .int .u8 0, .int .u8 0, .int .u8 0, .int .u8 0, .int .u8 0, .int .u8 0, .int .i64 0, .int .i8 0, .int .i64 0, .int .i64 0, .int .i64 0, .int .i64 0, .int .u8 0, .int .u8 0, .int .u8 0, .int .u8 0, .int .u8 0, .int .u8 0, .int .u8 0, .int .u8 0, .int .i64 0]) (cs := [_, _, _, _, _, _, _, _, _, _, _, _, _, _, _, _, _, _, _, _, _, _, _, _, _, _, _, _]) S M rfl rfl (by kernel_rfl) rfl (rfl) ?_; clear S M a; intro a w10 bL2 S M hB
  refine st_call (xs := [(Operand.tmp 24), (Operand.tmp 27)]) S (enters_of Try.func6 (by decide) rfl) rfl rfl rfl (do_any zHome rfl _ 2 [wkR, wkW] _ (M.sliceAt (m := 2) (sz := 14) (cs := scells [wkR, wkW]) 0 rfl (M.cellsAt (k := 28) 0 rfl rfl) rfl (Nat.le_refl 2) (by decide))) ?_
  rintro _ w11 ⟨er, h3, told, rfl, hK, hh2, her, hdo⟩
  obtain rfl := her.2 wake_ok2
  obtain rfl : told = false := (congrArg Prod.snd (hdo rfl)).trans wake_rw
  have hl2 : (hcells h3).length = 256 := by rw [hcells_length, hh2]
  refine ⟨_, rfl, ?_⟩; clear S a; intro a S; replace M := M.grow hK
  refine st_go [1, 1, 1, 1] S rfl (by kernel_rfl) ?_; clear S a; intro a S
  refine st_alloc S M rfl rfl (hcells zHome).toArray (by kernel_rfl) ?_; clear S M a; intro a w12 b2 S M hB
  refine st_storeAll (sz := 256) S M 0 rfl (by kernel_rfl) rfl rfl (by with_reducible first | exact zHome_len | exact hl2) (by exact allOne_hcells _) rfl (by with_reducible first | exact zHome_len | exact hl2) ?_; clear M; intro w13 M
  simp only [List.set_cons_zero, List.set_cons_succ] at M
  refine st_go [1, 1] S rfl (by kernel_rfl) ?_; clear S a; intro a S
  refine nxA ?_
  refine st_go [1, 1, 1] S rfl (by kernel_rfl) ?_; clear S a; intro a S
  refine st_fi (t := 34) S rfl ?_ ?_
  · clear S; intro h34 S
    refine st_go [0, 1, 1, 0, 0, 1, 1, 0, 0, 1, 1] S rfl (by kernel_rfl) ?_; clear S a; intro a S
    replace S := S.sub [(1, _), (2, _), (3, _), (5, _), (6, _), (8, _), (9, _), (0, _)] rfl
    refine nxC ?_
    refine wp_ret ?_
    refine end_one S rfl (res_tmp rfl) ?_
    first | exact ⟨rfl, M.below⟩ | exact absurd rfl h34 | exact absurd h37 (by decide) | exact absurd rfl h41
  clear S; intro h34 S
  refine st_go [1, 1, 1] S rfl (by kernel_rfl) ?_; clear S a; intro a S
  refine st_fi (t := 37) S rfl ?_ ?_
  · clear S; intro h37 S
    refine st_go [0, 0, 1, 1, 0, 0, 1, 1] S rfl (by kernel_rfl) ?_; clear S a; intro a S
    replace S := S.sub [(1, _), (2, _), (3, _), (5, _), (6, _), (8, _), (9, _), (0, _)] rfl
    refine nxC ?_
    refine wp_ret ?_
    refine end_one S rfl (res_tmp rfl) ?_
    first | exact ⟨rfl, M.below⟩ | exact absurd rfl h34 | exact absurd h37 (by decide) | exact absurd rfl h41
  clear S; intro h37 S
  refine st_go [1, 1, 1, 1] S rfl (by kernel_rfl) ?_; clear S a; intro a S
  refine st_if (t := 41) S rfl ?_ ?_
  · clear S; intro h41 S
    refine st_go [1, 1, 1, 1] S rfl (by kernel_rfl) ?_; clear S a; intro a S
    replace S := S.sub [(1, _), (2, _), (3, _), (5, _), (6, _), (8, _), (9, _), (0, _)] rfl
    refine nxC ?_
    refine wp_ret ?_
    refine end_one S rfl (res_tmp rfl) ?_
    first | exact ⟨rfl, M.below⟩ | exact absurd rfl h34 | exact absurd h37 (by decide) | exact absurd rfl h41
  clear S; intro h41 S
  refine st_go [0, 0, 1, 1] S rfl (by kernel_rfl) ?_; clear S a; intro a S
  replace S := S.sub [(1, _), (2, _), (3, _), (5, _), (6, _), (8, _), (9, _), (0, _)] rfl
  refine nxC ?_
  refine wp_ret ?_
  refine end_one S rfl (res_tmp rfl) ?_
  first | exact ⟨rfl, M.below⟩ | exact absurd rfl h34 | exact absurd h37 (by decide) | exact absurd rfl h41

end Go.Proofs.Ytgngbdhdnnkncaa
