/-
  Package model: Fill.
-/
import Derived.Test.YtgngbdhdnnkncaaNe
import Derived.Test.YtgngbdhdnnkncaaStr
namespace Go.Proofs.Ytgngbdhdnnkncaa
open Go.RowKit Go.Sort

def Sn.fill (y : Sn) (v : V8) : Sn := { y with val := v }
def setV (out : List Sn) (i : Nat) (v : V8) : List Sn := match out[i]? with
  | some y => out.set i (y.fill v)
  | none => out
theorem setV_len (out : List Sn) (i : Nat) (v : V8) : (setV out i v).length = out.length := by
  unfold setV; split
  · rw [List.length_set]
  · rfl
theorem scells_setV {out : List Sn} {i : Nat} {y : Sn} (hy : out[i]? = some y) (v : V8) : putL (scells out) (i * 14 + 5) v.cellsL = scells (setV out i v) := by
  have hi := (List.getElem?_eq_some_iff.1 hy).1
  have h2 : (out.set i (y.fill v))[i]? = some (y.fill v) := by rw [List.getElem?_set_self hi]
  have hs : setV out i v = out.set i (y.fill v) := by unfold setV; rw [hy]
  rw [hs, scells_split h2, List.take_set_of_le (Nat.le_refl _), List.drop_set_of_lt (by omega), scells_split hy]
  have hA : (scells (out.take i) ++ y.cellsL.take 5).length = i * 14 + 5 := by
    rw [List.length_append, scells_length, List.length_take]
    have : (y.cellsL.take 5).length = 5 := rfl
    omega
  have h3 : scells (out.take i) ++ (y.cellsL ++ scells (out.drop (i + 1))) = (scells (out.take i) ++ y.cellsL.take 5) ++ (y.val.cellsL ++ ([.int .i64 y.e] ++ scells (out.drop (i + 1)))) := by
    rw [List.append_assoc]; rfl
  have h4 : scells (out.take i) ++ ((y.fill v).cellsL ++ scells (out.drop (i + 1))) = (scells (out.take i) ++ y.cellsL.take 5) ++ (v.cellsL ++ ([.int .i64 y.e] ++ scells (out.drop (i + 1)))) := by
    rw [List.append_assoc]; rfl
  rw [h3, h4, ← hA]
  exact putL_mid rfl
/-- one step filled: the blocks, the steps -/
def stepF (p : List V8 × List Sn) (x : Nat × Sn) : List V8 × List Sn :=
  if x.2.kind = 2 then (p.1.set x.2.block.toNat x.2.val, p.2) else (p.1, match p.1[x.2.block.toNat]? with | some v => setV p.2 x.1 v | none => p.2)
theorem stepF_len (p : List V8 × List Sn) (x : Nat × Sn) : (stepF p x).1.length = p.1.length ∧ (stepF p x).2.length = p.2.length := by
  unfold stepF; split
  · exact ⟨List.length_set, rfl⟩
  · refine ⟨rfl, ?_⟩
    dsimp only
    split
    · exact setV_len _ _ _
    · rfl
theorem foldF_len : ∀ (q : Qs) (p : List V8 × List Sn), (q.foldl stepF p).1.length = p.1.length ∧ (q.foldl stepF p).2.length = p.2.length
  | [], p => ⟨rfl, rfl⟩
  | x :: q, p => by
    obtain ⟨h1, h2⟩ := foldF_len q (stepF p x)
    obtain ⟨h3, h4⟩ := stepF_len p x
    exact ⟨h1.trans h3, h2.trans h4⟩
def fillR (home : List V8) (l : List Sn) : List V8 × List Sn := (stepsP l l.length).foldl stepF (home, l)
def FillP (home : List V8) (l : List Sn) (w : World) (e : Ending) (w' : World) : Prop :=
  ∃ er ma mc m lo hi, e = .returned (.tuple #[.slice ma m.length mc, .int .i64 er]) ∧ Mem w w' [rowE lo hi 36 14 (.slice ma m.length mc) m.length (scells m)] ∧ (er = 0 ↔ ∀ x ∈ l, okS x) ∧ (er = 0 → m = (fillR home l).2) ∧ (er ≠ 0 → m = [])
set_option maxHeartbeats 2000000 in
set_option maxRecDepth 10000 in
theorem fill_any (home : List V8) (hh : home.length = 32) (va : Option Addr) (vc : Nat) (l : List Sn) (w : World) (hv : Ss 0 w.heap.size w (.slice va l.length vc) l) (hl : l.length ≤ 1000) :
    Calls Try.prog 8 #[.agg (hcells home).toArray, .slice va l.length vc] w (FillP home l w) := by
  have M := Mem.start w
  have hhc : (hcells home).length = 256 := by rw [hcells_length, hh]
  refine calls_enterM Try.func8 rfl 38 rfl rfl ?_; intro a S
  refine nxD ?_
  refine st_box S M rfl rfl rfl _ rfl ?_; clear S M a; intro a w1 bC S M hB
  refine st_go [1, 1] S rfl (by kernel_rfl) ?_; clear S a; intro a S
  refine nxC ?_
  refine wp_seq ?_
  refine nxD ?_
  refine st_go [1] S rfl (by kernel_rfl) ?_; clear S a; intro a S
  refine st_call (xs := [(Operand.tmp 10)]) S (enters_of Try.func11 (by decide) rfl) rfl rfl rfl (checkS_any va vc l _ (M.argW hv)) ?_
  rintro _ w2 ⟨er, rfl, hK, her⟩; refine ⟨_, rfl, ?_⟩; clear S a; intro a S; replace M := M.grow hK
  refine st_go [1] S rfl (by kernel_rfl) ?_; clear S a; intro a S
  refine nxA ?_
  refine st_go [1, 1] S rfl (by kernel_rfl) ?_; clear S a; intro a S
  refine nxC ?_
  refine st_if (t := 13) S rfl ?_ ?_
  · clear S; intro h13 S
    refine st_condT S rfl ?_
    refine nxD ?_
    refine st_go [1, 1, 1] S rfl (by kernel_rfl) ?_; clear S a; intro a S
    refine nxC ?_
    refine wp_ret ?_
    refine then_ret ?_
    refine end_plain ?_
    refine end_two S rfl (res_tmp rfl) (res_tmp rfl) ?_
    replace M := M.rowNil 36 14
    replace M := M.drop 1
    simp only [List.eraseIdx_cons_succ, List.eraseIdx_cons_zero] at M
    exact ⟨er, none, 0, [], _, _, rfl, M, her, fun h => absurd h (by omega), fun _ => rfl⟩
  clear S; intro h13 S
  refine st_condF S rfl ?_
  refine wp_skip ?_
  refine nxE ?_
  refine st_go [1] S rfl (by kernel_rfl) ?_; clear S a; intro a S
  replace M := M.rowNil 36 14
  refine st_append (e := 36) (sz := 14) (by_ := 56) (zc := [.int .i8 0, .int .i64 0, .int .i64 0, .int .i64 0, .int .i64 0, .int .u8 0, .int .u8 0, .int .u8 0, .int .u8 0, .int .u8 0, .int .u8 0, .int .u8 0, .int .u8 0, .int .i64 0]) S M 0 rfl rfl (by kernel_rfl) rfl (by decide) rfl rfl rfl (M.argW hv) (allOne_scells l) (by omega) (by unfold maxLen; omega) ?_; clear S M a; intro a w3 vA loA hiA S M
  rw [List.nil_append, Nat.zero_add] at M
  obtain ⟨aA, cA, rfl, -, -⟩ := (M.readAll 0 rfl (by unfold maxLen; omega)).form
  refine st_alloc S M rfl rfl #[.slice none 0 0] (by kernel_rfl) ?_; clear S M a; intro a w4 bO S M hB
  refine st_store (sz := 1) (us := [_]) S M 0 rfl (by kernel_rfl) rfl rfl rfl rfl rfl rfl (by first | decide | (simp; done) | (simp; omega)) ?_; clear M; intro w5 M
  simp only [putL, List.set_cons_zero, List.set_cons_succ, Nat.reduceAdd] at M
  refine nxC ?_
  refine wp_seq ?_
  refine nxD ?_
  refine st_go [1] S rfl (by kernel_rfl) ?_; clear S a; intro a S
  refine st_call (xs := [(Operand.tmp 17)]) S (enters_of Try.func12 (by decide) rfl) rfl rfl rfl (steps_any va vc _ _) ?_
  rintro _ w6 ⟨bL, rfl, M1⟩; refine ⟨_, rfl, ?_⟩; clear S a; intro a S; replace M := M.join M1; clear M1
  simp only [List.cons_append, List.nil_append] at M
  refine nxC ?_
  refine wp_block ?_
  replace M := M.front 3 rfl
  simp only [List.eraseIdx_cons_succ, List.eraseIdx_cons_zero] at M
  replace M := M.front 3 rfl
  simp only [List.eraseIdx_cons_succ, List.eraseIdx_cons_zero] at M
  replace M := M.front 3 rfl
  simp only [List.eraseIdx_cons_succ, List.eraseIdx_cons_zero] at M
  replace M := M.front 3 rfl
  simp only [List.eraseIdx_cons_succ, List.eraseIdx_cons_zero] at M
  refine wp_range (encs := encS) (xs := stepsP l l.length) S M rfl (enters_of Try.func19 (by decide) rfl) (steps1_gen bL va vc l) (fun _ => rfl) (by kernel_rfl) (fun pre Hs => ∃ lo hi, Hs = [.blk bL #[.slice va l.length vc] 25, .blk bO #[.slice aA l.length cA] 25, rowE lo hi 36 14 (.slice aA l.length cA) l.length (scells (pre.foldl stepF (home, l)).2), .blk bC (hcells (pre.foldl stepF (home, l)).1).toArray 24]) (⟨_, _, rfl⟩) (fun pre Hs W hI M => by obtain ⟨lo, hi, rfl⟩ := hI; exact ⟨M.blk 0 rfl, M.argW hv⟩) ?_ ?_
  · intro lY pre x tX Hs wr BK a hx hI M S
    simp only [putsL, encS] at S
    obtain ⟨loR, hiR, rfl⟩ := hI
    obtain ⟨hxl, hok⟩ : l[x.1]? = some x.2 ∧ okS x.2 := stepsP_mem (k := l.length) (by rw [hx]; simp)
    obtain ⟨xi, kd, xn, bk, xv, xe⟩ := x
    obtain ⟨kb, rfl⟩ := Int.eq_ofNat_of_zero_le (show 0 ≤ bk from hok.2.1)
    have hkb : kb < 32 := by have : (kb : Int) < 32 := hok.2.2; omega
    have hfl : (pre.foldl stepF (home, l)).1.length = 32 := by rw [(foldF_len _ _).1]; exact hh
    have hol : (pre.foldl stepF (home, l)).2.length = l.length := (foldF_len _ _).2
    have hxi : xi < l.length := (List.getElem?_eq_some_iff.1 hxl).1
    generalize hq : pre.foldl stepF (home, l) = q at M hfl hol
    have hql : (hcells q.1).length = 256 := by rw [hcells_length, hfl]
    have hrl : (scells q.2).length = l.length * 14 := by rw [scells_length, hol]
    obtain ⟨v, hv0⟩ : ∃ v, q.1[kb]? = some v := ⟨_, List.getElem?_eq_getElem (by omega)⟩
    obtain ⟨y, hy0⟩ : ∃ y, q.2[xi]? = some y := ⟨_, List.getElem?_eq_getElem (by omega)⟩
    simp only at S
    refine wpIn_seq ?_
    refine wpI_region (by kernel_rfl) (fun _ _ h => h) ?_
    refine st_go [1] S rfl (by kernel_rfl) ?_; clear S a; intro a S
    refine nxC ?_
    refine wpI_region (by kernel_rfl) (fun _ _ h => h) ?_
    refine st_alloc S M rfl rfl #[.int .i8 0, .int .i64 0, .int .i64 0, .int .i64 0, .int .i64 0, .int .u8 0, .int .u8 0, .int .u8 0, .int .u8 0, .int .u8 0, .int .u8 0, .int .u8 0, .int .u8 0, .int .i64 0] (by kernel_rfl) ?_; clear S M a; intro a w7 bX S M hB
    refine st_store (sz := 14) (us := [_, _, _, _, _, _, _, _, _, _, _, _, _, _]) S M 0 rfl (by kernel_rfl) rfl rfl rfl rfl rfl rfl (by first | decide | (simp; done) | (simp; omega)) ?_; clear M; intro w8 M
    simp only [putL, List.set_cons_zero, List.set_cons_succ, Nat.reduceAdd] at M
    refine nxC ?_
    replace M := M.front 1 rfl
    simp only [List.eraseIdx_cons_succ, List.eraseIdx_cons_zero] at M
    refine ⟨_, M, ?_⟩; clear M; intro wb BK M
    refine wpIn_block ?_
    refine wpIn_seq ?_
    refine wpI_region (by kernel_rfl) (fun _ _ h => h) ?_
    refine st_run [1, 2, 1] S M rfl (by kernel_rfl) ?_; clear S a; intro a S
    refine nxC ?_
    refine st_if (t := 23) S rfl ?_ ?_
    · clear S; intro h23 S
      refine stI_condT S rfl ?_
      refine wpI_region (by kernel_rfl) (fun _ _ h => h) ?_
      refine st_run [5, 2, 6] S M rfl (by kernel_rfl) ?_; clear S a; intro a S
      refine st_y S rfl rfl rfl (y_loadAgg (cs := [_, _, _, _, _, _, _, _]) S (by kernel_rfl) rfl rfl (M.cellsAt (k := 8) 1 rfl rfl)) ?_; clear S a; intro a S
      refine st_y S rfl rfl rfl (y_indexA (m := 32) (sz := 8) S (by kernel_rfl) rfl rfl (by first | omega | (simp; done) | (simp; omega))) ?_; clear S a; intro a S
      try simp only [Int.toNat_natCast, Nat.mul_one, Nat.zero_add] at S
      refine st_store (sz := 8) (us := [_, _, _, _, _, _, _, _]) S M 5 rfl (by kernel_rfl) rfl rfl rfl rfl rfl rfl (by rw [hql]; show _ + 8 ≤ 256; (try simp only [Int.toNat_natCast]); omega) ?_; clear M; intro w9 M
      simp only [List.set_cons_zero, List.set_cons_succ] at M
      replace S := S.sub [(0, _), (1, _), (2, _), (4, _), (5, _), (6, _), (13, _), (7, _), (8, _), (9, _), (23, _)] rfl
      refine wpList_nil ?_
      refine block_normal ?_
      skip
      replace M := M.drop 1
      simp only [List.eraseIdx_cons_succ, List.eraseIdx_cons_zero] at M
      replace M := M.front 4 rfl
      simp only [List.eraseIdx_cons_succ, List.eraseIdx_cons_zero] at M
      replace M := M.front 4 rfl
      simp only [List.eraseIdx_cons_succ, List.eraseIdx_cons_zero] at M
      replace M := M.front 4 rfl
      simp only [List.eraseIdx_cons_succ, List.eraseIdx_cons_zero] at M
      replace M := M.front 4 rfl
      simp only [List.eraseIdx_cons_succ, List.eraseIdx_cons_zero] at M
      replace M := M.front 4 rfl
      simp only [List.eraseIdx_cons_succ, List.eraseIdx_cons_zero] at M
      first
        | (have e : stepF q (xi, ⟨kd, xn, (kb : Int), xv, xe⟩) = (q.1.set kb xv, q.2) := by unfold stepF; rw [if_pos h23]; rfl
           have e2 := hcells_set (show kb < q.1.length by omega) xv
           refine ⟨_, M, loR, hiR, ?_⟩
           rw [List.foldl_append, hq, List.foldl_cons, List.foldl_nil, e]
           dsimp only
           rw [← e2])
        | (have e : stepF q (xi, ⟨kd, xn, (kb : Int), xv, xe⟩) = (q.1, setV q.2 xi v) := by unfold stepF; rw [if_neg h23]; simp only [Int.toNat_natCast, hv0]
           refine ⟨_, M, lo9, hi9, ?_⟩
           rw [List.foldl_append, hq, List.foldl_cons, List.foldl_nil, e]
           dsimp only
           rw [← scells_setV hy0 v])
    clear S; intro h23 S
    refine stI_condF S rfl ?_
    refine wpI_regionK [8] #[false, false, false, false, false, false, false, false, false] rfl M (by kernel_rfl) (by kernel_rfl) (fun _ _ h => h) ?_; clear M; intro w10 M
    refine k_read (listed' := #[true, false, false, false, false, false, false, false, false]) 0 S rfl rfl rfl rfl (by kernel_rfl) rfl (fun _ d _ _ _ h => by cases d <;> exact h) (fun w hW => have M := M.grow hW; y_load S (by kernel_rfl) rfl (M.cell 3 rfl rfl)) ?_; clear S a; intro a S
    refine k_pure (listed' := #[true, true, false, false, false, false, false, false, false]) 1 S rfl rfl rfl rfl (by kernel_rfl) rfl (fun _ d _ _ _ h => by cases d <;> exact h) (fun w => y_move S rfl) ?_; clear S a; intro a S
    refine k_pure (listed' := #[true, true, true, false, false, false, false, false, false]) 2 S rfl rfl rfl rfl (by kernel_rfl) rfl (fun _ d _ _ _ h => by cases d <;> exact h) (fun w => y_fieldAddr (k := 4) S (by kernel_rfl) rfl) ?_; clear S a; intro a S
    refine k_read (listed' := #[true, true, true, true, false, false, false, false, false]) 3 S rfl rfl rfl rfl (by kernel_rfl) rfl (fun _ d _ _ _ h => by cases d <;> exact h) (fun w hW => have M := M.grow hW; y_load S (by kernel_rfl) rfl (M.cell 1 rfl rfl)) ?_; clear S a; intro a S
    refine k_pure (listed' := #[true, true, true, true, true, false, false, false, false]) 4 S rfl rfl rfl rfl (by kernel_rfl) rfl (fun _ d _ _ _ h => by cases d <;> exact h) (fun w => y_indexA (m := 32) (sz := 8) S (by kernel_rfl) rfl rfl (by first | omega | (simp; done) | (simp; omega))) ?_; clear S a; intro a S
    try simp only [Int.toNat_natCast, Nat.mul_one, Nat.zero_add] at S
    refine k_read (listed' := #[true, true, true, true, true, true, false, false, false]) 5 S rfl rfl rfl rfl (by kernel_rfl) rfl (fun _ d _ _ _ h => by cases d <;> exact h) (fun w hW => have M := M.grow hW; y_loadAgg (cs := [_, _, _, _, _, _, _, _]) S (by kernel_rfl) rfl rfl (home_at (M.blk 5 rfl) hv0)) ?_; clear S a; intro a S
    refine k_read (listed' := #[true, true, true, true, true, true, true, false, false]) 6 S rfl rfl rfl rfl (by kernel_rfl) rfl (fun _ d _ _ _ h => by cases d <;> exact h) (fun w hW => have M := M.grow hW; y_indexR (e := 36) (sz := 14) S (by kernel_rfl) rfl (M.readAll 4 rfl (by unfold maxLen; omega)) rfl (by first | omega | (simp; done) | (simp; omega))) ?_; clear S a; intro a S
    try simp only [Int.toNat_natCast, Nat.mul_one, Nat.zero_add] at S
    refine k_pure (listed' := #[true, true, true, true, true, true, true, true, false]) 7 S rfl rfl rfl rfl (by kernel_rfl) rfl (fun _ d _ _ _ h => by cases d <;> exact h) (fun w => y_fieldAddr (k := 5) S (by kernel_rfl) rfl) ?_; clear S a; intro a S
    refine k_one (listed' := #[true, true, true, true, true, true, true, true, true]) 8 rfl (by kernel_rfl) rfl ?_
    refine st_storeRow (v := .slice aA l.length cA) (sz := 14) (m := l.length) (j := xi * 14 + 5) (us := v.cellsL) S M 4 rfl (by kernel_rfl) rfl rfl (by first | rfl | (simp only [Int.toNat_natCast]; omega)) rfl rfl rfl rfl rfl (by omega) hrl (by show xi * 14 + 5 + 8 ≤ _; omega) ?_; clear M; intro wz lo9 hi9 M
    simp only [List.eraseIdx_cons_succ, List.eraseIdx_cons_zero] at M
    refine wpList_nil ?_; refine then_normal ?_; refine ⟨fun h => absurd h (by decide), ?_⟩
    refine k_end (by kernel_rfl) ?_
    replace S := S.sub [(0, _), (1, _), (2, _), (4, _), (5, _), (6, _), (13, _), (7, _), (8, _), (9, _), (23, _)] rfl
    refine block_normal ?_
    replace M := M.front 1 rfl
    simp only [List.eraseIdx_cons_succ, List.eraseIdx_cons_zero] at M
    skip
    replace M := M.drop 2
    simp only [List.eraseIdx_cons_succ, List.eraseIdx_cons_zero] at M
    replace M := M.front 4 rfl
    simp only [List.eraseIdx_cons_succ, List.eraseIdx_cons_zero] at M
    replace M := M.front 2 rfl
    simp only [List.eraseIdx_cons_succ, List.eraseIdx_cons_zero] at M
    replace M := M.front 4 rfl
    simp only [List.eraseIdx_cons_succ, List.eraseIdx_cons_zero] at M
    replace M := M.front 4 rfl
    simp only [List.eraseIdx_cons_succ, List.eraseIdx_cons_zero] at M
    replace M := M.front 4 rfl
    simp only [List.eraseIdx_cons_succ, List.eraseIdx_cons_zero] at M
    first
      | (have e : stepF q (xi, ⟨kd, xn, (kb : Int), xv, xe⟩) = (q.1.set kb xv, q.2) := by unfold stepF; rw [if_pos h23]; rfl
         have e2 := hcells_set (show kb < q.1.length by omega) xv
         refine ⟨_, M, loR, hiR, ?_⟩
         rw [List.foldl_append, hq, List.foldl_cons, List.foldl_nil, e]
         dsimp only
         rw [← e2])
      | (have e : stepF q (xi, ⟨kd, xn, (kb : Int), xv, xe⟩) = (q.1, setV q.2 xi v) := by unfold stepF; rw [if_neg h23]; simp only [Int.toNat_natCast, hv0]
         refine ⟨_, M, lo9, hi9, ?_⟩
         rw [List.foldl_append, hq, List.foldl_cons, List.foldl_nil, e]
         dsimp only
         rw [← scells_setV hy0 v])
  intro D1 wd Hs a hI M S
  obtain ⟨loR, hiR, rfl⟩ := hI
  refine block_normal ?_
  refine nxE ?_
  refine st_run [3, 1, 1] S M rfl (by kernel_rfl) ?_; clear S a; intro a S
  refine nxC ?_
  refine wp_ret ?_
  refine end_mark S M 0 rfl ?_; clear S M a; intro a wM S M
  simp only [List.eraseIdx_cons_succ, List.eraseIdx_cons_zero] at M
  refine end_plain ?_
  refine end_two S rfl (res_tmp rfl) (res_tmp rfl) ?_
  skip
  replace M := M.drop 3
  simp only [List.eraseIdx_cons_succ, List.eraseIdx_cons_zero] at M
  replace M := M.drop 1
  simp only [List.eraseIdx_cons_succ, List.eraseIdx_cons_zero] at M
  replace M := M.drop 0
  simp only [List.eraseIdx_cons_succ, List.eraseIdx_cons_zero] at M
  have hml : (fillR home l).2.length = l.length := (foldF_len _ _).2
  exact ⟨0, aA, cA, (fillR home l).2, loR, hiR, by rw [hml], by rw [hml]; exact M, ⟨fun _ => her.1 (by omega), fun _ => rfl⟩, fun _ => rfl, fun h => absurd rfl h⟩

end Go.Proofs.Ytgngbdhdnnkncaa
