/-
  Package model: Do.
-/
import Derived.Test.YtgngbdhdnnkncaaNa
namespace Go.Proofs.Ytgngbdhdnnkncaa
open Go.RowKit Go.Sort

abbrev zV : V8 := ⟨0, 0, 0, 0, 0, 0, 0, 0⟩
def zHome : List V8 := List.replicate 32 zV
theorem zHome_len : (hcells zHome).length = 256 := by rw [hcells_length, zHome, List.length_replicate]
/-- one step done: the blocks, and whether all was told right -/
def stepD (p : List V8 × Bool) (x : Nat × Sn) : List V8 × Bool :=
  if x.2.kind = 2 then (p.1.set x.2.block.toNat x.2.val, p.2) else (p.1, p.2 && (match p.1[x.2.block.toNat]? with | some v => v.eqb x.2.val | none => true))
theorem stepD_len (p : List V8 × Bool) (x : Nat × Sn) : (stepD p x).1.length = p.1.length := by
  unfold stepD; split <;> simp
theorem foldD_len : ∀ (l : List (Nat × Sn)) (p : List V8 × Bool), (l.foldl stepD p).1.length = p.1.length
  | [], p => rfl
  | x :: l, p => by rw [List.foldl_cons, foldD_len l, stepD_len]
def doR (home : List V8) (l : List Sn) : List V8 × Bool := (stepsP l l.length).foldl stepD (home, true)
def DoP (home : List V8) (l : List Sn) (w : World) (e : Ending) (w' : World) : Prop :=
  ∃ er h2 told, e = .returned (.tuple #[.agg (hcells h2).toArray, .bool told, .int .i64 er]) ∧ Below w.heap.size w w' ∧ h2.length = 32 ∧ (er = 0 ↔ ∀ x ∈ l, okS x) ∧ (er = 0 → (h2, told) = doR home l)
set_option maxHeartbeats 2000000 in
set_option maxRecDepth 10000 in
theorem do_any (home : List V8) (hh : home.length = 32) (va : Option Addr) (vc : Nat) (l : List Sn) (w : World) (hv : Ss 0 w.heap.size w (.slice va l.length vc) l) :
    Calls Try.prog 6 #[.agg (hcells home).toArray, .slice va l.length vc] w (DoP home l w) := by
  have M := Mem.start w
  have hhc : (hcells home).length = 256 := by rw [hcells_length, hh]
  refine calls_enterM Try.func6 rfl 37 rfl rfl ?_; intro a S
  refine nxD ?_
  refine st_box S M rfl rfl rfl _ rfl ?_; clear S M a; intro a w1 bC S M hB
  refine st_alloc S M rfl rfl (hcells zHome).toArray (by kernel_rfl) ?_; clear S M a; intro a w2 bR S M hB
  refine st_alloc S M rfl rfl #[.bool false] (by kernel_rfl) ?_; clear S M a; intro a w3 bT S M hB
  refine st_go [1] S rfl (by kernel_rfl) ?_; clear S a; intro a S
  refine nxC ?_
  refine wp_seq ?_
  refine nxD ?_
  refine st_go [1] S rfl (by kernel_rfl) ?_; clear S a; intro a S
  refine st_call (xs := [(Operand.tmp 10)]) S (enters_of Try.func11 (by decide) rfl) rfl rfl rfl (checkS_any va vc l _ (M.argW hv)) ?_
  rintro _ w4 ⟨er, rfl, hK, her⟩; refine ⟨_, rfl, ?_⟩; clear S a; intro a S; replace M := M.grow hK
  refine st_go [1] S rfl (by kernel_rfl) ?_; clear S a; intro a S
  refine nxA ?_
  refine st_go [1, 1] S rfl (by kernel_rfl) ?_; clear S a; intro a S
  refine nxC ?_
  refine st_if (t := 13) S rfl ?_ ?_
  · clear S; intro h13 S
    refine st_condT S rfl ?_
    refine nxD ?_
    refine st_y S rfl rfl rfl (y_loadAgg (k := 256) (cs := _) S (by kernel_rfl) rfl (by with_reducible first | exact hhc | exact zHome_len | exact hql) (M.cellsAt 1 rfl cutL_all)) ?_; clear S a; intro a S
    refine st_go [1] S rfl (by kernel_rfl) ?_; clear S a; intro a S
    refine st_storeAll (sz := 256) S M 1 rfl (by kernel_rfl) rfl rfl (by with_reducible first | exact hhc | exact zHome_len | exact hql) (by exact allOne_hcells _) rfl (by with_reducible first | exact hhc | exact zHome_len | exact hql) ?_; clear M; intro w5 M
    simp only [List.set_cons_zero, List.set_cons_succ] at M
    refine st_store (sz := 1) (us := [_]) S M 0 rfl (by kernel_rfl) rfl rfl rfl rfl rfl rfl (by first | decide | (simp; done) | (simp; omega)) ?_; clear M; intro w6 M
    simp only [putL, List.set_cons_zero, List.set_cons_succ, Nat.reduceAdd] at M
    refine st_go [1] S rfl (by kernel_rfl) ?_; clear S a; intro a S
    refine nxC ?_
    refine wp_ret ?_
    refine then_ret ?_
    refine end_plain ?_
    refine end_three S rfl (res_agg (k := 256) (cs := _) (by kernel_rfl) rfl (by with_reducible first | exact hhc | exact zHome_len | exact hql) (M.cellsAt 1 rfl cutL_all)) (res_cell (by kernel_rfl) rfl (M.cell 0 rfl rfl)) (res_tmp rfl) ?_
    exact ⟨er, zHome, false, rfl, M.below, rfl, her, fun h => absurd h (by omega)⟩
  clear S; intro h13 S
  refine st_condF S rfl ?_
  refine wp_skip ?_
  refine nxE ?_
  refine st_store (sz := 1) (us := [_]) S M 0 rfl (by kernel_rfl) rfl rfl rfl rfl rfl rfl (by first | decide | (simp; done) | (simp; omega)) ?_; clear M; intro w7 M
  simp only [putL, List.set_cons_zero, List.set_cons_succ, Nat.reduceAdd] at M
  refine nxC ?_
  refine wp_seq ?_
  refine nxD ?_
  refine st_go [1] S rfl (by kernel_rfl) ?_; clear S a; intro a S
  refine st_call (xs := [(Operand.tmp 16)]) S (enters_of Try.func12 (by decide) rfl) rfl rfl rfl (steps_any va vc _ _) ?_
  rintro _ w8 ⟨bL, rfl, M1⟩; refine ⟨_, rfl, ?_⟩; clear S a; intro a S; replace M := M.join M1; clear M1
  simp only [List.cons_append, List.nil_append] at M
  refine nxC ?_
  refine wp_block ?_
  replace M := M.front 3 rfl
  simp only [List.eraseIdx_cons_succ, List.eraseIdx_cons_zero] at M
  replace M := M.front 3 rfl
  simp only [List.eraseIdx_cons_succ, List.eraseIdx_cons_zero] at M
  replace M := M.front 3 rfl
  simp only [List.eraseIdx_cons_succ, List.eraseIdx_cons_zero] at M
  replace M := M.front 3 rfl
  simp only [List.eraseIdx_cons_succ, List.eraseIdx_cons_zero] at M
  refine wp_range (encs := encS) (xs := stepsP l l.length) S M rfl (enters_of Try.func19 (by decide) rfl) (steps1_gen bL va vc l) (fun _ => rfl) (by kernel_rfl) (fun pre Hs => Hs = [.blk bL #[.slice va l.length vc] 25, .blk bT #[.bool (pre.foldl stepD (home, true)).2] 4, .blk bR (hcells zHome).toArray 24, .blk bC (hcells (pre.foldl stepD (home, true)).1).toArray 24]) (rfl) (fun pre Hs W hI M => by subst hI; exact ⟨M.blk 0 rfl, M.argW hv⟩) ?_ ?_
  · intro lY pre x tX Hs wr BK a hx hI M S
    simp only [putsL, encS] at S
    subst hI
    obtain ⟨hxl, hok⟩ : l[x.1]? = some x.2 ∧ okS x.2 := stepsP_mem (k := l.length) (by rw [hx]; simp)
    obtain ⟨xi, kd, xn, bk, xv, xe⟩ := x
    obtain ⟨kb, rfl⟩ := Int.eq_ofNat_of_zero_le (show 0 ≤ bk from hok.2.1)
    have hkb : kb < 32 := by have : (kb : Int) < 32 := hok.2.2; omega
    have hfl : (pre.foldl stepD (home, true)).1.length = 32 := by rw [foldD_len]; exact hh
    generalize hq : pre.foldl stepD (home, true) = q at M
    rw [hq] at hfl
    have hql : (hcells q.1).length = 256 := by rw [hcells_length, hfl]
    obtain ⟨v, hv0⟩ : ∃ v, q.1[kb]? = some v := ⟨_, List.getElem?_eq_getElem (by omega)⟩
    simp only at S
    refine wpI_region (by kernel_rfl) (fun _ _ h => h) ?_
    refine st_alloc S M rfl rfl #[.int .i8 0, .int .i64 0, .int .i64 0, .int .i64 0, .int .i64 0, .int .u8 0, .int .u8 0, .int .u8 0, .int .u8 0, .int .u8 0, .int .u8 0, .int .u8 0, .int .u8 0, .int .i64 0] (by kernel_rfl) ?_; clear S M a; intro a w9 bX S M hB
    refine st_store (sz := 14) (us := [_, _, _, _, _, _, _, _, _, _, _, _, _, _]) S M 0 rfl (by kernel_rfl) rfl rfl rfl rfl rfl rfl (by first | decide | (simp; done) | (simp; omega)) ?_; clear M; intro w10 M
    simp only [putL, List.set_cons_zero, List.set_cons_succ, Nat.reduceAdd] at M
    refine nxC ?_
    replace M := M.front 1 rfl
    simp only [List.eraseIdx_cons_succ, List.eraseIdx_cons_zero] at M
    refine ⟨_, M, ?_⟩; clear M; intro wb BK M
    refine wpIn_block ?_
    refine wpIn_seq ?_
    refine wpI_region (by kernel_rfl) (fun _ _ h => h) ?_
    refine st_run [1, 2, 1] S M rfl (by kernel_rfl) ?_; clear S a; intro a S
    refine nxC ?_
    refine st_if (t := 22) S rfl ?_ ?_
    · clear S; intro h22 S
      refine stI_condT S rfl ?_
      refine wpI_region (by kernel_rfl) (fun _ _ h => h) ?_
      refine st_run [5, 2, 6] S M rfl (by kernel_rfl) ?_; clear S a; intro a S
      refine st_y S rfl rfl rfl (y_loadAgg (cs := [_, _, _, _, _, _, _, _]) S (by kernel_rfl) rfl rfl (M.cellsAt (k := 8) 1 rfl rfl)) ?_; clear S a; intro a S
      refine st_y S rfl rfl rfl (y_indexA (m := 32) (sz := 8) S (by kernel_rfl) rfl rfl (by first | omega | (simp; done) | (simp; omega))) ?_; clear S a; intro a S
      try simp only [Int.toNat_natCast, Nat.mul_one, Nat.zero_add] at S
      refine st_store (sz := 8) (us := [_, _, _, _, _, _, _, _]) S M 5 rfl (by kernel_rfl) rfl rfl rfl rfl rfl rfl (by rw [hql]; show _ + 8 ≤ 256; (try simp only [Int.toNat_natCast]); omega) ?_; clear M; intro w11 M
      simp only [List.set_cons_zero, List.set_cons_succ] at M
      replace S := S.sub [(0, _), (1, _), (2, _), (4, _), (5, _), (6, _), (7, _), (13, _), (9, _), (22, _)] rfl
      refine wpList_nil ?_
      refine block_normal ?_
      skip
      replace M := M.drop 1
      simp only [List.eraseIdx_cons_succ, List.eraseIdx_cons_zero] at M
      refine ⟨_, M, ?_⟩
      rw [List.foldl_append, hq, List.foldl_cons, List.foldl_nil]
      first
        | (rw [show stepD q (xi, ⟨kd, xn, (kb : Int), xv, xe⟩) = (q.1.set kb xv, q.2) by unfold stepD; rw [if_pos h22]; rfl]
           exact congrArg (fun z : List Value => [Ent.blk bL #[.slice va l.length vc] 25, Ent.blk bT #[.bool q.2] 4, Ent.blk bR (hcells zHome).toArray 24, Ent.blk bC z.toArray 24]) (hcells_set (show kb < q.1.length by omega) xv))
        | (rw [show stepD q (xi, ⟨kd, xn, (kb : Int), xv, xe⟩) = (q.1, q.2 && v.eqb xv) by unfold stepD; rw [if_neg h22]; simp only [Int.toNat_natCast, hv0]]
           have h34' : v.eqb xv = false := by simpa using h34
           rw [h34', Bool.and_false])
        | (rw [show stepD q (xi, ⟨kd, xn, (kb : Int), xv, xe⟩) = (q.1, q.2 && v.eqb xv) by unfold stepD; rw [if_neg h22]; simp only [Int.toNat_natCast, hv0]]
           have h34' : v.eqb xv = true := by simpa using h34
           rw [h34', Bool.and_true])
    clear S; intro h22 S
    refine stI_condF S rfl ?_
    refine wpIn_seq ?_
    refine wpI_regionK [] #[false, false, false, false, false, false, false] rfl M (by kernel_rfl) (by kernel_rfl) (fun _ _ h => h) ?_; clear M; intro w12 M
    refine k_pure (listed' := #[true, false, false, false, false, false, false]) 0 S rfl rfl rfl rfl (by kernel_rfl) rfl (fun _ d _ _ _ h => by cases d <;> exact h) (fun w => y_fieldAddr (k := 4) S (by kernel_rfl) rfl) ?_; clear S a; intro a S
    refine k_read (listed' := #[true, true, false, false, false, false, false]) 1 S rfl rfl rfl rfl (by kernel_rfl) rfl (fun _ d _ _ _ h => by cases d <;> exact h) (fun w hW => have M := M.grow hW; y_load S (by kernel_rfl) rfl (M.cell 1 rfl rfl)) ?_; clear S a; intro a S
    refine k_pure (listed' := #[true, true, true, false, false, false, false]) 2 S rfl rfl rfl rfl (by kernel_rfl) rfl (fun _ d _ _ _ h => by cases d <;> exact h) (fun w => y_indexA (m := 32) (sz := 8) S (by kernel_rfl) rfl rfl (by first | omega | (simp; done) | (simp; omega))) ?_; clear S a; intro a S
    try simp only [Int.toNat_natCast, Nat.mul_one, Nat.zero_add] at S
    refine k_read (listed' := #[true, true, true, true, false, false, false]) 3 S rfl rfl rfl rfl (by kernel_rfl) rfl (fun _ d _ _ _ h => by cases d <;> exact h) (fun w hW => have M := M.grow hW; y_loadAgg (cs := [_, _, _, _, _, _, _, _]) S (by kernel_rfl) rfl rfl (home_at (M.blk 5 rfl) hv0)) ?_; clear S a; intro a S
    refine k_pure (listed' := #[true, true, true, true, true, false, false]) 4 S rfl rfl rfl rfl (by kernel_rfl) rfl (fun _ d _ _ _ h => by cases d <;> exact h) (fun w => y_fieldAddr (k := 5) S (by kernel_rfl) rfl) ?_; clear S a; intro a S
    refine k_read (listed' := #[true, true, true, true, true, true, false]) 5 S rfl rfl rfl rfl (by kernel_rfl) rfl (fun _ d _ _ _ h => by cases d <;> exact h) (fun w hW => have M := M.grow hW; y_loadAgg (cs := [_, _, _, _, _, _, _, _]) S (by kernel_rfl) rfl rfl (M.cellsAt (k := 8) 1 rfl rfl)) ?_; clear S a; intro a S
    refine k_pure (listed' := #[true, true, true, true, true, true, true]) 6 S rfl rfl rfl rfl (by kernel_rfl) rfl (fun _ d _ _ _ h => by cases d <;> exact h) (fun w => y_neqG (by kernel_rfl) S rfl rfl (fun w => equalV8 9998 v xv w)) ?_; clear S a; intro a S
    refine k_end (by kernel_rfl) ?_
    replace S := S.sub [(0, _), (1, _), (2, _), (4, _), (5, _), (6, _), (7, _), (13, _), (9, _), (22, _), (34, _)] rfl
    refine then_normal ?_
    refine st_tils (t := 34) S rfl ?_ ?_
    · clear S; intro h34 S
      refine stI_condF S rfl ?_
      refine wpIn_skip ?_
      refine block_normal ?_
      skip
      replace M := M.drop 1
      simp only [List.eraseIdx_cons_succ, List.eraseIdx_cons_zero] at M
      refine ⟨_, M, ?_⟩
      rw [List.foldl_append, hq, List.foldl_cons, List.foldl_nil]
      first
        | (rw [show stepD q (xi, ⟨kd, xn, (kb : Int), xv, xe⟩) = (q.1.set kb xv, q.2) by unfold stepD; rw [if_pos h22]; rfl]
           exact congrArg (fun z : List Value => [Ent.blk bL #[.slice va l.length vc] 25, Ent.blk bT #[.bool q.2] 4, Ent.blk bR (hcells zHome).toArray 24, Ent.blk bC z.toArray 24]) (hcells_set (show kb < q.1.length by omega) xv))
        | (rw [show stepD q (xi, ⟨kd, xn, (kb : Int), xv, xe⟩) = (q.1, q.2 && v.eqb xv) by unfold stepD; rw [if_neg h22]; simp only [Int.toNat_natCast, hv0]]
           have h34' : v.eqb xv = false := by simpa using h34
           rw [h34', Bool.and_false])
        | (rw [show stepD q (xi, ⟨kd, xn, (kb : Int), xv, xe⟩) = (q.1, q.2 && v.eqb xv) by unfold stepD; rw [if_neg h22]; simp only [Int.toNat_natCast, hv0]]
           have h34' : v.eqb xv = true := by simpa using h34
           rw [h34', Bool.and_true])
    clear S; intro h34 S
    refine stI_condT S rfl ?_
    refine wpI_region (by kernel_rfl) (fun _ _ h => h) ?_
    refine st_store (sz := 1) (us := [_]) S M 3 rfl (by kernel_rfl) rfl rfl rfl rfl rfl rfl (by first | decide | (simp; done) | (simp; omega)) ?_; clear M; intro w13 M
    simp only [putL, List.set_cons_zero, List.set_cons_succ, Nat.reduceAdd] at M
    refine wpList_nil ?_
    refine block_normal ?_
    skip
    replace M := M.drop 1
    simp only [List.eraseIdx_cons_succ, List.eraseIdx_cons_zero] at M
    refine ⟨_, M, ?_⟩
    rw [List.foldl_append, hq, List.foldl_cons, List.foldl_nil]
    first
      | (rw [show stepD q (xi, ⟨kd, xn, (kb : Int), xv, xe⟩) = (q.1.set kb xv, q.2) by unfold stepD; rw [if_pos h22]; rfl]
         exact congrArg (fun z : List Value => [Ent.blk bL #[.slice va l.length vc] 25, Ent.blk bT #[.bool q.2] 4, Ent.blk bR (hcells zHome).toArray 24, Ent.blk bC z.toArray 24]) (hcells_set (show kb < q.1.length by omega) xv))
      | (rw [show stepD q (xi, ⟨kd, xn, (kb : Int), xv, xe⟩) = (q.1, q.2 && v.eqb xv) by unfold stepD; rw [if_neg h22]; simp only [Int.toNat_natCast, hv0]]
         have h34' : v.eqb xv = false := by simpa using h34
         rw [h34', Bool.and_false])
      | (rw [show stepD q (xi, ⟨kd, xn, (kb : Int), xv, xe⟩) = (q.1, q.2 && v.eqb xv) by unfold stepD; rw [if_neg h22]; simp only [Int.toNat_natCast, hv0]]
         have h34' : v.eqb xv = true := by simpa using h34
         rw [h34', Bool.and_true])
  intro D1 wd Hs a hI M S
  subst hI
  have hql : (hcells ((stepsP l l.length).foldl stepD (home, true)).1).length = 256 := by rw [hcells_length, foldD_len, hh]
  refine block_normal ?_
  refine then_normal ?_
  refine wp_seq ?_
  refine wp_regionKC (C := fun W => Blk W bC (hcells ((stepsP l l.length).foldl stepD (home, true)).1).toArray 24 ∧ Blk W bT #[.bool ((stepsP l l.length).foldl stepD (home, true)).2] 4) [2, 3] #[false, false, false, false, false] rfl M (by kernel_rfl) ?_; clear M; intro w14 M; have hC := And.intro (M.blk 4 rfl) (M.blk 2 rfl)
  refine kc_readC (listed' := #[true, false, false, false, false]) 0 S rfl rfl rfl rfl (by kernel_rfl) rfl (fun _ d _ _ _ h => by cases d <;> exact h) hC (fun w hC => y_loadAgg (k := 256) (cs := _) S (by kernel_rfl) rfl (by with_reducible first | exact hhc | exact zHome_len | exact hql) (Blk.cellsAt hC.1 cutL_all)) ?_; clear S a; intro a S
  refine kc_readC (listed' := #[true, true, false, false, false]) 1 S rfl rfl rfl rfl (by kernel_rfl) rfl (fun _ d _ _ _ h => by cases d <;> exact h) hC (fun w hC => y_load S (by kernel_rfl) rfl (hC.2.cells 0)) ?_; clear S a; intro a S
  refine kc_one (listed' := #[true, true, true, false, false]) 2 rfl (by kernel_rfl) rfl ?_
  refine st_storeAll (sz := 256) S M 3 rfl (by kernel_rfl) rfl rfl (by with_reducible first | exact hhc | exact zHome_len | exact hql) (by exact allOne_hcells _) rfl (by with_reducible first | exact hhc | exact zHome_len | exact hql) ?_; clear M; intro w15 M
  simp only [List.set_cons_zero, List.set_cons_succ] at M
  replace hC := And.intro (M.blk 4 rfl) (M.blk 2 rfl)
  refine wpList_nil ?_; refine then_normal ?_; refine ⟨fun h => absurd h (by decide), hC, ?_⟩
  refine kc_one (listed' := #[true, true, true, true, false]) 3 rfl (by kernel_rfl) rfl ?_
  refine st_store (sz := 1) (us := [_]) S M 2 rfl (by kernel_rfl) rfl rfl rfl rfl rfl rfl (by first | decide | (simp; done) | (simp; omega)) ?_; clear M; intro w16 M
  simp only [putL, List.set_cons_zero, List.set_cons_succ, Nat.reduceAdd] at M
  replace hC := And.intro (M.blk 4 rfl) (M.blk 2 rfl)
  refine wpList_nil ?_; refine then_normal ?_; refine ⟨fun h => absurd h (by decide), hC, ?_⟩
  refine kc_readC (listed' := #[true, true, true, true, true]) 4 S rfl rfl rfl rfl (by kernel_rfl) rfl (fun _ d _ _ _ h => by cases d <;> exact h) hC (fun w _ => y_assign S rfl) ?_; clear S a; intro a S
  refine kc_end (by kernel_rfl) ?_
  refine then_normal ?_
  refine wp_ret ?_
  refine end_mark S M 0 rfl ?_; clear S M a; intro a wM S M
  simp only [List.eraseIdx_cons_succ, List.eraseIdx_cons_zero] at M
  refine end_plain ?_
  refine end_three S rfl (res_agg (k := 256) (cs := _) (by kernel_rfl) rfl (by with_reducible first | exact hhc | exact zHome_len | exact hql) (M.cellsAt 2 rfl cutL_all)) (res_cell (by kernel_rfl) rfl (M.cell 1 rfl rfl)) (res_tmp rfl) ?_
  exact ⟨0, (doR home l).1, (doR home l).2, rfl, M.below, by rw [doR, foldD_len]; exact hh, ⟨fun _ => her.1 (by omega), fun _ => rfl⟩, fun _ => rfl⟩

end Go.Proofs.Ytgngbdhdnnkncaa
