/-
  Package lock: kept; a release of who is alone.
-/
import Derived.Test.YtcbofgcmfkcglaaLg
namespace Go.Proofs.Ytcbofgcmfkcglaa
open Go.RowKit Go.Sort

set_option maxHeartbeats 1000000 in
theorem kept_any {f : FuncId} {fi ca : List Value} (hE : Enters Try.prog f) (va : Option Addr) (vc : Nat) (l : List Lk) (p : Lk → Bool) (w : World) (hv : Ls 0 w.heap.size w (.slice va l.length vc) l) (hl : l.length ≤ 1000000)
    (hstep : ∀ (x : Lk), x ∈ l → ∀ (w' : World), Below w.heap.size w w' → Calls Try.prog f (fi ++ ([Value.agg x.cellsL.toArray] ++ ca)).toArray w' (fun e w'' => e = .returned (.bool (p x)) ∧ Below w'.heap.size w' w'')) :
    Calls Try.prog 28 #[.slice va l.length vc, .func (.func f) fi.toArray ca.toArray] w (fun e w' => ∃ va' vc' lo hi, e = .returned (.slice va' (l.filter p).length vc') ∧ Mem w w' [rowE lo hi 37 5 (.slice va' (l.filter p).length vc') (l.filter p).length (lcells (l.filter p))]) := by
  have M := Mem.start w
  refine calls_enter Try.func28 rfl 23 rfl rfl ?_; intro a S
  refine nxD ?_
  refine st_go [1] S rfl (by kernel_rfl) ?_; clear S a; intro a S
  refine nxA ?_
  refine st_go [1] S rfl (by kernel_rfl) ?_; clear S a; intro a S
  refine nxC ?_
  refine wp_seq ?_
  refine nxD ?_
  refine st_go [1] S rfl (by kernel_rfl) ?_; clear S a; intro a S
  refine st_y S rfl rfl rfl (y_lenS (E := 37) S rfl (by kernel_rfl)) ?_; clear S a; intro a S
  refine st_go [1] S rfl (by kernel_rfl) ?_; clear S a; intro a S
  refine nxC ?_
  refine wp_block ?_
  refine wp_loop_g (fun m a w' => ∃ (k : Nat) (va' : Option Addr) (vc' lo hi : Nat), k ≤ l.length ∧ m = l.length - k ∧ Sees 23 a [(1, .func (.func f) fi.toArray ca.toArray), (5, .slice va' ((l.take k).filter p).length vc'), (8, .slice va l.length vc), (9, .int .i64 (l.length : Int)), (10, .int .i64 (k : Int))] ∧ Mem w w' [rowE lo hi 37 5 (.slice va' ((l.take k).filter p).length vc') ((l.take k).filter p).length (lcells ((l.take k).filter p))]) (l.length) ?_ ?_
  · skip
    replace M := M.rowNil 37 5
    exact ⟨0, none, 0, _, _, Nat.zero_le _, rfl, S.sub _ rfl, M⟩
  clear S M a; intro m a wl
  rintro ⟨k, va', vc', lo, hi, hk, rfl, S, M⟩
  have hfl : ((l.take k).filter p).length ≤ k := Nat.le_trans (List.length_filter_le _ _) (by rw [List.length_take]; omega)
  refine nxD ?_
  refine st_go [1] S rfl (by kernel_rfl) ?_; clear S a; intro a S
  refine nxC ?_
  refine wp_seq ?_
  refine st_fi (t := 11) S rfl ?_ ?_
  · clear S; intro h11 S
    refine st_condF S rfl ?_
    refine wp_exit ?_
    refine then_exit ?_
    refine then_exit ?_
    refine block_hit ?_
    refine nxE ?_
    refine st_go [1, 1] S rfl (by kernel_rfl) ?_; clear S a; intro a S
    refine nxC ?_
    refine wp_ret ?_
    refine end_one S rfl (res_tmp rfl) ?_
    obtain rfl : k = l.length := by omega
    rw [List.take_length] at M
    exact ⟨va', vc', lo, hi, by rw [List.take_length], M⟩
  clear S; intro h11 S
  refine st_condT S rfl ?_
  refine wp_skip ?_
  refine then_normal ?_
  refine wp_seq ?_
  refine wp_block ?_
  refine wp_seq ?_
  obtain ⟨q, hq⟩ : ∃ q, l[k]? = some q := ⟨_, List.getElem?_eq_getElem (by omega)⟩
  have hst : (l.take (k + 1)).filter p = (l.take k).filter p ++ if p q = true then [q] else [] := by
    rw [List.take_add_one, hq, List.filter_append]; congr 1; simp only [Option.toList_some, List.filter_cons, List.filter_nil]
  refine wp_region_lit ?_
  refine st_y S rfl rfl rfl (y_indexR (e := 37) (sz := 5) S (by kernel_rfl) rfl ((M.arg hv)) rfl (by first | omega | (simp; done) | (simp; omega))) ?_; clear S a; intro a S
  try simp only [Int.toNat_natCast, Nat.mul_one, Nat.zero_add] at S
  refine st_y S rfl rfl rfl (y_loadAgg S (by kernel_rfl) rfl rfl ((M.arg hv).at_.row (i := k) (lcells_get hq) rfl)) ?_; clear S a; intro a S
  refine st_alloc S M rfl rfl #[.int .i64 0, .int .i64 0, .int .i64 0, .int .i64 0, .bool false] (by kernel_rfl) ?_; clear S M a; intro a w1 bX S M hB
  refine st_store (sz := 5) (us := [_, _, _, _, _]) S M 0 rfl (by kernel_rfl) rfl rfl rfl rfl rfl rfl (by first | decide | (simp; done) | (simp; omega)) ?_; clear M; intro w2 M
  simp only [putL, List.set_cons_zero, List.set_cons_succ, Nat.reduceAdd] at M
  refine nxA ?_
  refine st_go [1] S rfl (by kernel_rfl) ?_; clear S a; intro a S
  refine st_y S rfl rfl rfl (y_loadAgg (cs := [_, _, _, _, _]) S (by kernel_rfl) rfl rfl (M.cellsAt (k := 5) 0 rfl rfl)) ?_; clear S a; intro a S
  refine st_callB (xs := [(Operand.tmp 15)]) (fi := fi) (ca := ca) S (hE) rfl rfl (rfl) rfl (hstep q (List.mem_of_getElem? hq) _ M.below) ?_
  rintro _ w3 ⟨rfl, hK⟩; refine ⟨_, rfl, ?_⟩; clear S a; intro a S; replace M := M.grow hK
  refine nxC ?_
  refine st_tils (t := 16) S rfl ?_ ?_
  · clear S; intro h16 S
    refine st_condF S rfl ?_
    refine wp_skip ?_
    refine block_normal ?_
    refine nxF ?_
    (first | refine st_y S rfl rfl rfl (y_addN S rfl rfl (by omega)) ?_ | refine st_y S rfl rfl rfl (y_int S rfl rfl rfl) ?_); clear S a; intro a S
    refine st_go [1] S rfl (by kernel_rfl) ?_; clear S a; intro a S
    refine nxC ?_
    skip
    replace M := M.drop 0
    simp only [List.eraseIdx_cons_succ, List.eraseIdx_cons_zero] at M
    first
      | (rw [if_pos h16] at hst
         have e1 : ((l.take (k + 1)).filter p).length = ((l.take k).filter p).length + 1 := by rw [hst]; simp
         have e2 : lcells ((l.take (k + 1)).filter p) = lcells ((l.take k).filter p) ++ q.cellsL := by rw [hst, lcells_append]; simp [lcells]
         exact ⟨l.length - (k + 1), by omega, k + 1, aA, cA, loA, hiA, by omega, rfl, by rw [e1]; exact S.sub _ rfl, by rw [e1, e2]; exact M⟩)
      | (rw [if_neg (by rw [h16]; decide), List.append_nil] at hst
         exact ⟨l.length - (k + 1), by omega, k + 1, va', vc', lo, hi, by omega, rfl, by rw [hst]; exact S.sub _ rfl, by rw [hst]; exact M⟩)
  clear S; intro h16 S
  refine st_condT S rfl ?_
  refine wp_region_lit ?_
  refine st_go [1] S rfl (by kernel_rfl) ?_; clear S a; intro a S
  refine st_y S rfl rfl rfl (y_loadAgg (cs := [_, _, _, _, _]) S (by kernel_rfl) rfl rfl (M.cellsAt (k := 5) 0 rfl rfl)) ?_; clear S a; intro a S
  refine st_lit (ps := [(0, (Operand.tmp 18))]) (e := 37) (sz := 5) (zl := [.int .i64 0, .int .i64 0, .int .i64 0, .int .i64 0, .bool false]) (cs := [_, _, _, _, _]) S M rfl rfl (by kernel_rfl) rfl (rfl) ?_; clear S M a; intro a w4 bZ S M hB
  refine st_append (e := 37) (sz := 5) (by_ := 40) (zc := [.int .i64 0, .int .i64 0, .int .i64 0, .int .i64 0, .bool false]) S M 2 rfl rfl (by kernel_rfl) rfl (by decide) rfl rfl rfl (show Rd _ _ _ 5 _ 1 q.cellsL from M.sliceAt 0 rfl (M.cellsAt (k := 5) 0 rfl rfl) rfl (Nat.le_refl _) (by unfold maxLen; omega)) (rfl) (by omega) (by unfold maxLen; omega) ?_; clear S M a; intro a w5 vA loA hiA S M
  obtain ⟨aA, cA, rfl, -, -⟩ := (M.readAll 0 rfl (by unfold maxLen; omega)).form
  replace M := M.drop 1
  simp only [List.eraseIdx_cons_succ, List.eraseIdx_cons_zero] at M
  refine st_y S rfl rfl rfl (y_assign S rfl) ?_; clear S a; intro a S
  refine wpList_nil ?_
  refine block_normal ?_
  refine nxF ?_
  (first | refine st_y S rfl rfl rfl (y_addN S rfl rfl (by omega)) ?_ | refine st_y S rfl rfl rfl (y_int S rfl rfl rfl) ?_); clear S a; intro a S
  refine st_go [1] S rfl (by kernel_rfl) ?_; clear S a; intro a S
  refine nxC ?_
  skip
  replace M := M.drop 1
  simp only [List.eraseIdx_cons_succ, List.eraseIdx_cons_zero] at M
  first
    | (rw [if_pos h16] at hst
       have e1 : ((l.take (k + 1)).filter p).length = ((l.take k).filter p).length + 1 := by rw [hst]; simp
       have e2 : lcells ((l.take (k + 1)).filter p) = lcells ((l.take k).filter p) ++ q.cellsL := by rw [hst, lcells_append]; simp [lcells]
       exact ⟨l.length - (k + 1), by omega, k + 1, aA, cA, loA, hiA, by omega, rfl, by rw [e1]; exact S.sub _ rfl, by rw [e1, e2]; exact M⟩)
    | (rw [if_neg (by rw [h16]; decide), List.append_nil] at hst
       exact ⟨l.length - (k + 1), by omega, k + 1, va', vc', lo, hi, by omega, rfl, by rw [hst]; exact S.sub _ rfl, by rw [hst]; exact M⟩)
theorem rel1_any (x : Lk) (n : Nm) (b : Nat) (w : World) (hN : Blk w b n.cells 23) :
    Calls Try.prog 27 #[.agg x.cellsL.toArray, .pointer (some ⟨b, 0, none⟩)] w fun e w' => e = .returned (.bool (!x.name.eqb n)) ∧ Below w.heap.size w w' := by
  have M := Mem.start w
  refine calls_enter Try.func27 rfl 8 rfl rfl ?_; intro a S
  refine nxD ?_
  refine st_box S M rfl rfl rfl #[_, _, _, _, _] rfl ?_; clear S M a; intro a w1 bD S M hB
  refine st_go [1] S rfl (by kernel_rfl) ?_; clear S a; intro a S
  refine nxA ?_
  refine st_go [1] S rfl (by kernel_rfl) ?_; clear S a; intro a S
  refine st_y S rfl rfl rfl (y_loadAgg (cs := [_, _, _]) S (by kernel_rfl) rfl rfl (M.cellsAt (k := 3) 0 rfl rfl)) ?_; clear S a; intro a S
  refine st_y S rfl rfl rfl (y_loadAgg S (by kernel_rfl) rfl rfl (show CellsAt _ b 0 n.cells.toList from Blk.cellsAt (o := 0) (k := 3) ((M.below.block b hN.lt).trans hN) rfl)) ?_; clear S a; intro a S
  refine st_y S rfl rfl rfl (y_neqG (by kernel_rfl) S rfl rfl (fun w => equalNm 9998 x.name n w)) ?_; clear S a; intro a S
  refine st_go [1] S rfl (by kernel_rfl) ?_; clear S a; intro a S
  refine nxC ?_
  refine wp_ret ?_
  refine end_one S rfl (res_tmp rfl) ?_
  exact ⟨rfl, M.below⟩
theorem rel2_any (x : Lk) (k : Int) (b : Nat) (w : World) (hN : Blk w b #[.int .i64 k] 3) :
    Calls Try.prog 29 #[.agg x.cellsL.toArray, .pointer (some ⟨b, 0, none⟩)] w fun e w' => e = .returned (.bool (x.block == k)) ∧ Below w.heap.size w w' := by
  have M := Mem.start w
  refine calls_enter Try.func29 rfl 8 rfl rfl ?_; intro a S
  refine nxD ?_
  refine st_box S M rfl rfl rfl #[_, _, _, _, _] rfl ?_; clear S M a; intro a w1 bD S M hB
  refine st_go [1] S rfl (by kernel_rfl) ?_; clear S a; intro a S
  refine nxA ?_
  refine st_run [4, 1] S M rfl (by kernel_rfl) ?_; clear S a; intro a S
  refine st_y S rfl rfl rfl (y_load S (by kernel_rfl) rfl (show World.cell? _ ⟨b, 0, none⟩ = some (.int .i64 k) from Blk.cells (show Blk _ b #[.int .i64 k] 3 from (M.below.block b hN.lt).trans hN) 0
)) ?_; clear S a; intro a S
  refine st_go [1, 1] S rfl (by kernel_rfl) ?_; clear S a; intro a S
  refine nxC ?_
  refine wp_ret ?_
  refine end_one S rfl (res_tmp rfl) ?_
  exact ⟨rfl, M.below⟩

end Go.Proofs.Ytcbofgcmfkcglaa
