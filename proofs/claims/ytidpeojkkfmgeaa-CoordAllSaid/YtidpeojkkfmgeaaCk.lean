/-
  Package coord: Commit of one that drives nothing, Phase, Same.
-/
import Derived.Test.YtidpeojkkfmgeaaCj
namespace Go.Proofs.Ytidpeojkkfmgeaa
open Go.RowKit Go.Sort

set_option maxHeartbeats 1000000 in
theorem insertD_any {wc w : World} {H : List Ent} {lo hi : Nat} {la : Option Addr} {lc : Nat} {u : Value} {cs : List Value} (M : Mem wc w (rowE lo hi 59 10 (.slice la 0 lc) 0 [] :: H)) (hu : Rd 0 w.heap.size w 10 u 1 cs) (h1 : allOne cs = true) :
    Calls Try.prog 41 #[.slice la 0 lc, .int .i64 0, u] w fun e w' => ∃ la' lc' lo' hi', e = .returned (.slice la' 1 lc') ∧ Mem wc w' (rowE lo' hi' 59 10 (.slice la' 1 lc') 1 cs :: H) := by
  have hlen : cs.length = 10 := hu.1
  refine calls_enter Try.func41 rfl 95 rfl rfl ?_; intro a S
  refine wp_seq ?_
  skip
  refine wp_region_lit ?_
  refine st_go [1] S rfl (by kernel_rfl) ?_; clear S a; intro a S
  refine nxA ?_
  refine st_go [1, 1] S rfl (by kernel_rfl) ?_; clear S a; intro a S
  refine st_y S rfl rfl rfl (y_slice1 (e := 59) (sz := 10) S (by kernel_rfl) rfl rfl (by first | omega | (simp; done) | (simp; omega))) ?_; clear S a; intro a S
  refine nxA ?_
  refine st_go [1] S rfl (by kernel_rfl) ?_; clear S a; intro a S
  refine st_y S rfl rfl rfl (y_lenR (E := 59) S rfl (hu) (by kernel_rfl)) ?_; clear S a; intro a S
  refine st_go [1] S rfl (by kernel_rfl) ?_; clear S a; intro a S
  refine nxC ?_
  refine wp_seq ?_
  refine nxD ?_
  refine st_go [1, 1] S rfl (by kernel_rfl) ?_; clear S a; intro a S
  refine nxC ?_
  refine st_if (t := 16) S rfl ?_ ?_
  · clear S; intro h16 S
    exfalso; omega
  clear S; intro h16 S
  refine st_condF S rfl ?_
  refine wp_skip ?_
  refine nxE ?_
  refine st_go [1] S rfl (by kernel_rfl) ?_; clear S a; intro a S
  refine st_y S rfl rfl rfl (y_lenS (E := 59) S rfl (by kernel_rfl)) ?_; clear S a; intro a S
  refine st_go [1] S rfl (by kernel_rfl) ?_; clear S a; intro a S
  refine nxC ?_
  refine wp_seq ?_
  refine nxD ?_
  refine st_go [1, 1, 1] S rfl (by kernel_rfl) ?_; clear S a; intro a S
  refine nxC ?_
  refine st_fi (t := 22) S rfl ?_ ?_
  · clear S; intro h22 S
    exfalso; simp at h22
  clear S; intro h22 S
  refine st_condT S rfl ?_
  refine nxD ?_
  refine st_go [1, 1] S rfl (by kernel_rfl) ?_; clear S a; intro a S
  refine st_append (e := 59) (sz := 10) (by_ := 96) (zc := [.int .i64 0, .int .i64 0, .int .i64 0, .int .i8 0, .int .i64 0, .int .i64 0, .int .i64 0, .int .i64 0, .int .i64 0, .slice none 0 0]) S M 0 rfl rfl (by kernel_rfl) rfl (by decide) rfl rfl rfl (hu) (h1) (by first | omega | (simp; done) | (simp; omega)) (by unfold maxLen; first | omega | (simp; done) | (simp; omega)) ?_; clear S M a; intro a w1 vA loA hiA S M
  obtain ⟨aA, cA, rfl, -, -⟩ := (M.readAll 0 rfl (by unfold maxLen; simp)).form
  refine st_y S rfl rfl rfl (y_assign S rfl) ?_; clear S a; intro a S
  replace S := S.sub [(0, _), (1, _), (2, _), (7, _), (16, _), (8, _), (22, _), (6, _)] rfl
  refine nxC ?_
  refine wp_ret ?_
  refine then_ret ?_
  refine end_one S rfl (res_tmp rfl) ?_
  exact ⟨aA, cA, loA, hiA, rfl, by simpa using M⟩

theorem perm_in {a b c d e n : Ent} {Hm es : List Ent} : (a :: b :: c :: d :: e :: n :: (Hm ++ es)).Perm (a :: b :: c :: d :: e :: (Hm ++ n :: es)) := ((((List.perm_middle.symm.cons _).cons _).cons _).cons _).cons _
def comR (nm : Nm) (n : Int) : Out := ([(⟨nm, 1, n, 0, 0, -1, 0⟩, [])], (bitsK n 4).map (prepM ⟨nm, 1, n, 0, 0, -1, 0⟩ []), [], [])
theorem check0_any (w : World) : Calls Try.prog 7 #[.agg #[.slice none 0 0]] w fun e w' => e = .returned (.int .i64 0) ∧ Below w.heap.size w w' := checkE_any (E := 0) none 0 [] [] rfl w RowC.nil (fun q hq => by cases hq)
theorem perm6 {a p q r s t : Ent} {l : List Ent} : (p :: q :: r :: s :: t :: a :: l).Perm (a :: p :: q :: r :: s :: t :: l) := perm5.symm
set_option maxHeartbeats 2000000 in
theorem commit0_any (nm : Nm) (n : Int) (w : World) (hn : n ≤ 9223372036854775807) :
    Calls Try.prog 13 #[.agg #[.slice none 0 0], .agg nm.cells, .int .i64 n, .agg #[.int .i64 (-1), .int .i64 0], .slice none 0 0] w fun e w' => ∃ er r, ResP w e w' er r ∧ ((er = 0 ∧ nm.named = true ∧ shardsB n = true ∧ r = comR nm n) ∨ (er = 2 ∧ ¬ (nm.named = true ∧ shardsB n = true))) := by
  have M := Mem.start w
  refine calls_enter Try.func13 rfl 93 rfl rfl ?_; intro a S
  refine nxD ?_
  refine st_box S M rfl rfl rfl #[_] rfl ?_; clear S M a; intro a w1 bC S M hB
  refine st_box S M rfl rfl rfl #[_, _, _] rfl ?_; clear S M a; intro a w2 bX S M hB
  refine st_box S M rfl rfl rfl #[_, _] rfl ?_; clear S M a; intro a w3 bY S M hB
  refine st_alloc S M rfl rfl #[.slice none 0 0] (by kernel_rfl) ?_; clear S M a; intro a w4 bR S M hB
  refine st_alloc S M rfl rfl #[.slice none 0 0, .slice none 0 0, .slice none 0 0] (by kernel_rfl) ?_; clear S M a; intro a w5 bT S M hB
  refine st_go [1] S rfl (by kernel_rfl) ?_; clear S a; intro a S
  refine nxC ?_
  refine wp_seq ?_
  refine nxD ?_
  refine st_y S rfl rfl rfl (y_loadAgg (cs := [_]) S (by kernel_rfl) rfl rfl (M.cellsAt (k := 1) 4 rfl rfl)) ?_; clear S a; intro a S
  refine st_call (xs := [(Operand.tmp 17)]) S (enters_of Try.func7 (by decide) rfl) rfl rfl rfl (check0_any _) ?_
  rintro _ w6 ⟨rfl, hK⟩; refine ⟨_, rfl, ?_⟩; clear S a; intro a S; replace M := M.grow hK
  refine st_go [1, 1] S rfl (by kernel_rfl) ?_; clear S a; intro a S
  refine st_split (t := 20) S rfl ?_ ?_
  · clear S; intro h20 S
    cases h20
  clear S; intro h20 S
  refine st_y S rfl rfl rfl (y_loadAgg (cs := [_, _, _]) S (by kernel_rfl) rfl rfl (M.cellsAt (k := 3) 3 rfl rfl)) ?_; clear S a; intro a S
  refine st_call (xs := [(Operand.tmp 21)]) S (enters_of Try.func19 (by decide) rfl) rfl rfl rfl (named_any nm _) ?_
  rintro _ w7 ⟨rfl, hK⟩; refine ⟨_, rfl, ?_⟩; clear S a; intro a S; replace M := M.grow hK
  refine st_go [1, 1, 1] S rfl (by kernel_rfl) ?_; clear S a; intro a S
  refine st_split (t := 25) S rfl ?_ ?_
  · clear S; intro h25 S
    refine st_go [0, 0, 0, 1, 1, 0, 0, 0, 0, 1, 1, 0, 0, 0, 0, 1] S rfl (by kernel_rfl) ?_; clear S a; intro a S
    replace S := S.sub [(0, _), (1, _), (2, _), (3, _), (4, _), (5, _), (6, _), (8, _), (10, _), (11, _), (12, _), (41, _)] rfl
    refine nxC ?_
    refine st_condT S rfl ?_
    refine nxD ?_
    refine st_y S rfl rfl rfl (y_build (ps := []) (pl := [(0, 1)]) (z := [.slice none 0 0]) (cs := [_]) S (by kernel_rfl) rfl (rfl)) ?_; clear S a; intro a S
    refine st_y S rfl rfl rfl (y_build (ps := []) (pl := [(0, 1), (1, 1), (2, 1)]) (z := [.slice none 0 0, .slice none 0 0, .slice none 0 0]) (cs := [_, _, _]) S (by kernel_rfl) rfl (rfl)) ?_; clear S a; intro a S
    refine st_store (sz := 1) (us := [_]) S M 1 rfl (by kernel_rfl) rfl rfl rfl rfl rfl rfl (by first | decide | (simp; done) | (simp; omega)) ?_; clear M; intro w8 M
    simp only [putL, List.set_cons_zero, List.set_cons_succ, Nat.reduceAdd] at M
    refine st_store (sz := 3) (us := [_, _, _]) S M 0 rfl (by kernel_rfl) rfl rfl rfl rfl rfl rfl (by first | decide | (simp; done) | (simp; omega)) ?_; clear M; intro w9 M
    simp only [putL, List.set_cons_zero, List.set_cons_succ, Nat.reduceAdd] at M
    refine st_go [1] S rfl (by kernel_rfl) ?_; clear S a; intro a S
    refine nxC ?_
    refine wp_ret ?_
    refine then_ret ?_
    refine end_three S rfl (res_agg (cs := [_]) (by kernel_rfl) rfl rfl (M.cellsAt (k := 1) 1 rfl rfl)) (res_agg (cs := [_, _, _]) (by kernel_rfl) rfl rfl (M.cellsAt (k := 3) 0 rfl rfl)) (res_tmp rfl) ?_
    refine ⟨2, _, res_nil M.below, .inr ⟨rfl, ?_⟩⟩
    rintro ⟨g1, g2⟩
    simp_all [changesB, writesB, writtenB, risingB]
  clear S; intro h25 S
  refine st_go [1] S rfl (by kernel_rfl) ?_; clear S a; intro a S
  refine st_call (xs := [(Operand.tmp 26)]) S (enters_of Try.func21 (by decide) rfl) rfl rfl rfl (group_any n hn _) ?_
  rintro _ w10 ⟨rfl, hK⟩; refine ⟨_, rfl, ?_⟩; clear S a; intro a S; replace M := M.grow hK
  refine st_go [1, 1, 1] S rfl (by kernel_rfl) ?_; clear S a; intro a S
  refine st_split (t := 30) S rfl ?_ ?_
  · clear S; intro h30 S
    refine st_go [0, 0, 0, 0, 1, 1, 0, 0, 0, 0, 1] S rfl (by kernel_rfl) ?_; clear S a; intro a S
    replace S := S.sub [(0, _), (1, _), (2, _), (3, _), (4, _), (5, _), (6, _), (8, _), (10, _), (11, _), (12, _), (41, _)] rfl
    refine nxC ?_
    refine st_condT S rfl ?_
    refine nxD ?_
    refine st_y S rfl rfl rfl (y_build (ps := []) (pl := [(0, 1)]) (z := [.slice none 0 0]) (cs := [_]) S (by kernel_rfl) rfl (rfl)) ?_; clear S a; intro a S
    refine st_y S rfl rfl rfl (y_build (ps := []) (pl := [(0, 1), (1, 1), (2, 1)]) (z := [.slice none 0 0, .slice none 0 0, .slice none 0 0]) (cs := [_, _, _]) S (by kernel_rfl) rfl (rfl)) ?_; clear S a; intro a S
    refine st_store (sz := 1) (us := [_]) S M 1 rfl (by kernel_rfl) rfl rfl rfl rfl rfl rfl (by first | decide | (simp; done) | (simp; omega)) ?_; clear M; intro w11 M
    simp only [putL, List.set_cons_zero, List.set_cons_succ, Nat.reduceAdd] at M
    refine st_store (sz := 3) (us := [_, _, _]) S M 0 rfl (by kernel_rfl) rfl rfl rfl rfl rfl rfl (by first | decide | (simp; done) | (simp; omega)) ?_; clear M; intro w12 M
    simp only [putL, List.set_cons_zero, List.set_cons_succ, Nat.reduceAdd] at M
    refine st_go [1] S rfl (by kernel_rfl) ?_; clear S a; intro a S
    refine nxC ?_
    refine wp_ret ?_
    refine then_ret ?_
    refine end_three S rfl (res_agg (cs := [_]) (by kernel_rfl) rfl rfl (M.cellsAt (k := 1) 1 rfl rfl)) (res_agg (cs := [_, _, _]) (by kernel_rfl) rfl rfl (M.cellsAt (k := 3) 0 rfl rfl)) (res_tmp rfl) ?_
    refine ⟨2, _, res_nil M.below, .inr ⟨rfl, ?_⟩⟩
    rintro ⟨g1, g2⟩
    simp_all [changesB, writesB, writtenB, risingB]
  clear S; intro h30 S
  refine st_y S rfl rfl rfl (y_loadAgg (cs := [_, _]) S (by kernel_rfl) rfl rfl (M.cellsAt (k := 2) 2 rfl rfl)) ?_; clear S a; intro a S
  refine st_go [1] S rfl (by kernel_rfl) ?_; clear S a; intro a S
  refine st_call (xs := [(Operand.tmp 31), (Operand.tmp 32)]) S (enters_of Try.func22 (by decide) rfl) rfl rfl rfl (changes_any (-1) 0 n _) ?_
  rintro _ w13 ⟨rfl, hK⟩; refine ⟨_, rfl, ?_⟩; clear S a; intro a S; replace M := M.grow hK
  refine st_go [1, 1, 1] S rfl (by kernel_rfl) ?_; clear S a; intro a S
  refine st_split (t := 36) S rfl ?_ ?_
  · clear S; intro h36 S
    refine st_go [0, 0, 0, 0, 1] S rfl (by kernel_rfl) ?_; clear S a; intro a S
    replace S := S.sub [(0, _), (1, _), (2, _), (3, _), (4, _), (5, _), (6, _), (8, _), (10, _), (11, _), (12, _), (41, _)] rfl
    refine nxC ?_
    refine st_condT S rfl ?_
    refine nxD ?_
    refine st_y S rfl rfl rfl (y_build (ps := []) (pl := [(0, 1)]) (z := [.slice none 0 0]) (cs := [_]) S (by kernel_rfl) rfl (rfl)) ?_; clear S a; intro a S
    refine st_y S rfl rfl rfl (y_build (ps := []) (pl := [(0, 1), (1, 1), (2, 1)]) (z := [.slice none 0 0, .slice none 0 0, .slice none 0 0]) (cs := [_, _, _]) S (by kernel_rfl) rfl (rfl)) ?_; clear S a; intro a S
    refine st_store (sz := 1) (us := [_]) S M 1 rfl (by kernel_rfl) rfl rfl rfl rfl rfl rfl (by first | decide | (simp; done) | (simp; omega)) ?_; clear M; intro w14 M
    simp only [putL, List.set_cons_zero, List.set_cons_succ, Nat.reduceAdd] at M
    refine st_store (sz := 3) (us := [_, _, _]) S M 0 rfl (by kernel_rfl) rfl rfl rfl rfl rfl rfl (by first | decide | (simp; done) | (simp; omega)) ?_; clear M; intro w15 M
    simp only [putL, List.set_cons_zero, List.set_cons_succ, Nat.reduceAdd] at M
    refine st_go [1] S rfl (by kernel_rfl) ?_; clear S a; intro a S
    refine nxC ?_
    refine wp_ret ?_
    refine then_ret ?_
    refine end_three S rfl (res_agg (cs := [_]) (by kernel_rfl) rfl rfl (M.cellsAt (k := 1) 1 rfl rfl)) (res_agg (cs := [_, _, _]) (by kernel_rfl) rfl rfl (M.cellsAt (k := 3) 0 rfl rfl)) (res_tmp rfl) ?_
    refine ⟨2, _, res_nil M.below, .inr ⟨rfl, ?_⟩⟩
    rintro ⟨g1, g2⟩
    simp_all [changesB, writesB, writtenB, risingB]
  clear S; intro h36 S
  refine st_go [1] S rfl (by kernel_rfl) ?_; clear S a; intro a S
  refine st_y S rfl rfl rfl (y_loadAgg (cs := [_, _]) S (by kernel_rfl) rfl rfl (M.cellsAt (k := 2) 2 rfl rfl)) ?_; clear S a; intro a S
  refine st_call (xs := [(Operand.tmp 37), (Operand.tmp 38)]) S (enters_of Try.func23 (by decide) rfl) rfl rfl rfl (writesC_any none 0 [] (-1) 0 _ (Rd.nil _ _ _ _)) ?_
  rintro _ w16 ⟨rfl, hK⟩; refine ⟨_, rfl, ?_⟩; clear S a; intro a S; replace M := M.grow hK
  refine st_go [1, 1] S rfl (by kernel_rfl) ?_; clear S a; intro a S
  replace S := S.sub [(0, _), (1, _), (2, _), (3, _), (4, _), (5, _), (6, _), (8, _), (10, _), (11, _), (12, _), (41, _)] rfl
  refine nxC ?_
  refine st_if (t := 41) S rfl ?_ ?_
  · clear S; intro h41 S
    refine st_condT S rfl ?_
    refine nxD ?_
    refine st_y S rfl rfl rfl (y_build (ps := []) (pl := [(0, 1)]) (z := [.slice none 0 0]) (cs := [_]) S (by kernel_rfl) rfl (rfl)) ?_; clear S a; intro a S
    refine st_y S rfl rfl rfl (y_build (ps := []) (pl := [(0, 1), (1, 1), (2, 1)]) (z := [.slice none 0 0, .slice none 0 0, .slice none 0 0]) (cs := [_, _, _]) S (by kernel_rfl) rfl (rfl)) ?_; clear S a; intro a S
    refine st_store (sz := 1) (us := [_]) S M 1 rfl (by kernel_rfl) rfl rfl rfl rfl rfl rfl (by first | decide | (simp; done) | (simp; omega)) ?_; clear M; intro w17 M
    simp only [putL, List.set_cons_zero, List.set_cons_succ, Nat.reduceAdd] at M
    refine st_store (sz := 3) (us := [_, _, _]) S M 0 rfl (by kernel_rfl) rfl rfl rfl rfl rfl rfl (by first | decide | (simp; done) | (simp; omega)) ?_; clear M; intro w18 M
    simp only [putL, List.set_cons_zero, List.set_cons_succ, Nat.reduceAdd] at M
    refine st_go [1] S rfl (by kernel_rfl) ?_; clear S a; intro a S
    refine nxC ?_
    refine wp_ret ?_
    refine then_ret ?_
    refine end_three S rfl (res_agg (cs := [_]) (by kernel_rfl) rfl rfl (M.cellsAt (k := 1) 1 rfl rfl)) (res_agg (cs := [_, _, _]) (by kernel_rfl) rfl rfl (M.cellsAt (k := 3) 0 rfl rfl)) (res_tmp rfl) ?_
    refine ⟨2, _, res_nil M.below, .inr ⟨rfl, ?_⟩⟩
    rintro ⟨g1, g2⟩
    simp_all [changesB, writesB, writtenB, risingB]
  clear S; intro h41 S
  refine st_condF S rfl ?_
  refine wp_skip ?_
  refine then_normal ?_
  refine wp_seq ?_
  have hnm : nm.named = true ∧ shardsB n = true := by simp_all
  refine wp_region_lit ?_
  refine st_run [1, 5] S M rfl (by kernel_rfl) ?_; clear S a; intro a S
  refine st_y S rfl rfl rfl (y_loadAgg (cs := [_, _, _]) S (by kernel_rfl) rfl rfl (M.cellsAt (k := 3) 3 rfl rfl)) ?_; clear S a; intro a S
  refine st_call (xs := [(Operand.tmp 46), (Operand.tmp 47), (Operand.func 39)]) S (enters_of Try.func38 (by decide) rfl) rfl rfl rfl (find_any none 0 [] [] nm _ RowC.nil rfl (by simp)) ?_
  rintro _ w19 ⟨k, y, rfl, hK, hkl, hy⟩; refine ⟨_, rfl, ?_⟩; clear S a; intro a S; replace M := M.grow hK
  obtain rfl : k = 0 := by simpa using hkl
  obtain rfl : y = false := by
    rcases hy with ⟨-, q, h, -⟩ | ⟨h, -⟩
    · cases h
    · exact h
  refine st_go [1, 1, 1, 1, 1] S rfl (by kernel_rfl) ?_; clear S a; intro a S
  refine nxC ?_
  refine wp_seq ?_
  refine nxD ?_
  refine st_go [1] S rfl (by kernel_rfl) ?_; clear S a; intro a S
  refine nxC ?_
  refine st_if (t := 51) S rfl ?_ ?_
  · clear S; intro h51 S
    cases h51
  clear S; intro h51 S
  refine st_condF S rfl ?_
  refine wp_skip ?_
  refine then_normal ?_
  refine wp_seq ?_
  refine nxD ?_
  refine st_run [1, 5] S M rfl (by kernel_rfl) ?_; clear S a; intro a S
  refine st_y S rfl rfl rfl (y_lenS (E := 59) S rfl (by kernel_rfl)) ?_; clear S a; intro a S
  refine st_go [1] S rfl (by kernel_rfl) ?_; clear S a; intro a S
  refine nxC ?_
  refine st_if (t := 57) S rfl ?_ ?_
  · clear S; intro h57 S
    exfalso; omega
  clear S; intro h57 S
  refine st_condF S rfl ?_
  refine wp_skip ?_
  refine nxE ?_
  refine st_y S rfl rfl rfl (y_loadAgg (cs := [_]) S (by kernel_rfl) rfl rfl (M.cellsAt (k := 1) 4 rfl rfl)) ?_; clear S a; intro a S
  refine st_call (xs := [(Operand.tmp 60)]) S (enters_of Try.func25 (by decide) rfl) rfl rfl rfl (begin_any none 0 [] [] _ RowC.nil (by simp) (fun q hq => by cases hq)) ?_
  rintro _ w20 ⟨bB, es, rfl, W1⟩; refine ⟨_, rfl, ?_⟩; clear S a; intro a S; replace W1 := W1.beh M; clear M; have W2 := W1
  obtain ⟨la, ln, lc, llo, lhi, lcs, ma, mc, mlo, mhi, mcs, ka, kc, klo, khi, kcs, ea, ec, elo, ehi, ecs, hln, M, hD, hM, hK0, hEn⟩ := W2
  subst hln
  obtain rfl : lcs = [] := List.eq_nil_of_length_eq_zero hD.1
  refine st_go [1] S rfl (by kernel_rfl) ?_; clear S a; intro a S
  refine nxC ?_
  refine wp_seq ?_
  skip
  refine wp_regionK [7] #[false, false, false, false, false, false, false, false] rfl M (by kernel_rfl) ?_; clear M; intro w21 M
  refine k_read (listed' := #[true, false, false, false, false, false, false, false]) 0 S rfl rfl rfl rfl (by kernel_rfl) rfl (fun _ d _ _ _ h => by cases d <;> exact h) (fun w hW => have M := M.grow hW; y_loadAgg (cs := [_, _, _]) S (by kernel_rfl) rfl rfl (M.cellsAt (k := 3) 8 rfl rfl)) ?_; clear S a; intro a S
  refine k_pure (listed' := #[true, true, false, false, false, false, false, false]) 1 S rfl rfl rfl rfl (by kernel_rfl) rfl (fun _ d _ _ _ h => by cases d <;> exact h) (fun w => y_move S rfl) ?_; clear S a; intro a S
  refine k_read (listed' := #[true, true, true, false, false, false, false, false]) 2 S rfl rfl rfl rfl (by kernel_rfl) rfl (fun _ d _ _ _ h => by cases d <;> exact h) (fun w hW => have M := M.grow hW; y_loadAgg (cs := [_, _]) S (by kernel_rfl) rfl rfl (M.cellsAt (k := 2) 7 rfl rfl)) ?_; clear S a; intro a S
  refine k_pure (listed' := #[true, true, true, true, false, false, false, false]) 3 S rfl rfl rfl rfl (by kernel_rfl) rfl (fun _ d _ _ _ h => by cases d <;> exact h) (fun w => y_move S rfl) ?_; clear S a; intro a S
  refine k_two (l1 := #[true, true, true, true, true, false, false, false]) (l2 := #[true, true, true, true, false, false, true, false]) 4 6 rfl rfl (by kernel_rfl) rfl rfl ?_ ?_
  · skip
    refine st_call (xs := [(Operand.tmp 65)]) S (enters_of Try.func40 (by decide) rfl) rfl rfl rfl (cloneW_any _ [] _ (Rd.nil _ _ _ _) (by simp)) ?_
    rintro _ w22 ⟨v2, rfl, hF⟩; refine ⟨_, rfl, ?_⟩; clear S a; intro a S; have hK := hF.below
    obtain ⟨a2, c2, rfl, -, -⟩ := (hF.rd0 (by unfold maxLen; simp)).form
    obtain ⟨lo2, hi2, -, M⟩ := M.pushFresh hF
    refine wpList_nil ?_; refine then_normal ?_; refine ⟨fun _ => hK, ?_⟩
    refine k_pure (listed' := #[true, true, true, true, true, true, false, false]) 5 S rfl rfl rfl rfl (by kernel_rfl) rfl (fun _ d _ _ _ h => by cases d <;> exact h) (fun w => y_build (ps := [(0, (Operand.tmp 62)), (1, (Operand.const (Value.int IntKind.i8 1))), (2, (Operand.tmp 63)), (5, (Operand.tmp 64)), (6, (Operand.tmp 66))]) (pl := [(0, 3), (3, 1), (4, 1), (5, 1), (6, 1), (7, 2), (9, 1)]) (z := [.int .i64 0, .int .i64 0, .int .i64 0, .int .i8 0, .int .i64 0, .int .i64 0, .int .i64 0, .int .i64 0, .int .i64 0, .slice none 0 0]) (cs := [_, _, _, _, _, _, _, _, _, _]) S (by kernel_rfl) rfl (rfl)) ?_; clear S a; intro a S
    refine k_one (listed' := #[true, true, true, true, true, true, true, false]) 6 rfl (by kernel_rfl) rfl ?_
    refine st_alloc S M rfl rfl #[.int .i64 0, .int .i64 0, .int .i64 0, .int .i8 0, .int .i64 0, .int .i64 0, .int .i64 0, .int .i64 0, .int .i64 0, .slice none 0 0] (by kernel_rfl) ?_; clear S M a; intro a w23 bD S M hB
    refine wpList_nil ?_; refine then_normal ?_; refine ⟨fun _ => hB, ?_⟩
    refine k_one (listed' := #[true, true, true, true, true, true, true, true]) 7 rfl (by kernel_rfl) rfl ?_
    refine st_store (sz := 10) (us := [_, _, _, _, _, _, _, _, _, _]) S M 0 rfl (by kernel_rfl) rfl rfl rfl rfl rfl rfl (by first | decide | (simp; done) | (simp; omega)) ?_; clear M; intro w24 M
    simp only [putL, List.set_cons_zero, List.set_cons_succ, Nat.reduceAdd] at M
    refine wpList_nil ?_; refine then_normal ?_; refine ⟨fun h => absurd h (by decide), ?_⟩
    refine k_end (by kernel_rfl) ?_
    replace S := S.sub [(0, _), (1, _), (2, _), (3, _), (4, _), (5, _), (6, _), (8, _), (10, _), (11, _), (12, _), (41, _), (13, _), (14, _), (51, _), (57, _), (15, _), (16, _)] rfl
    refine then_normal ?_
    refine wp_seq ?_
    refine wp_regionK [9, 13] #[false, false, false, false, false, false, false, false, false, false, false, false, false, false] rfl M (by kernel_rfl) ?_; clear M; intro w25 M
    refine k_pure (listed' := #[true, false, false, false, false, false, false, false, false, false, false, false, false, false]) 0 S rfl rfl rfl rfl (by kernel_rfl) rfl (fun _ d _ _ _ h => by cases d <;> exact h) (fun w => y_move S rfl) ?_; clear S a; intro a S
    refine k_pure (listed' := #[true, true, false, false, false, false, false, false, false, false, false, false, false, false]) 1 S rfl rfl rfl rfl (by kernel_rfl) rfl (fun _ d _ _ _ h => by cases d <;> exact h) (fun w => y_move S rfl) ?_; clear S a; intro a S
    refine k_pure (listed' := #[true, true, true, false, false, false, false, false, false, false, false, false, false, false]) 2 S rfl rfl rfl rfl (by kernel_rfl) rfl (fun _ d _ _ _ h => by cases d <;> exact h) (fun w => y_nilCheck S rfl) ?_; clear S a; intro a S
    refine k_pure (listed' := #[true, true, true, true, false, false, false, false, false, false, false, false, false, false]) 3 S rfl rfl rfl rfl (by kernel_rfl) rfl (fun _ d _ _ _ h => by cases d <;> exact h) (fun w => y_fieldAddr (k := 0) S (by kernel_rfl) rfl) ?_; clear S a; intro a S
    refine k_pure (listed' := #[true, true, true, true, true, false, false, false, false, false, false, false, false, false]) 4 S rfl rfl rfl rfl (by kernel_rfl) rfl (fun _ d _ _ _ h => by cases d <;> exact h) (fun w => y_fieldAddr (k := 0) S (by kernel_rfl) rfl) ?_; clear S a; intro a S
    refine k_read (listed' := #[true, true, true, true, true, true, false, false, false, false, false, false, false, false]) 5 S rfl rfl rfl rfl (by kernel_rfl) rfl (fun _ d _ _ _ h => by cases d <;> exact h) (fun w hW => have M := M.grow hW; y_load S (by kernel_rfl) rfl (M.cell 2 rfl rfl)) ?_; clear S a; intro a S
    refine k_pure (listed' := #[true, true, true, true, true, true, true, false, false, false, false, false, false, false]) 6 S rfl rfl rfl rfl (by kernel_rfl) rfl (fun _ d _ _ _ h => by cases d <;> exact h) (fun w => y_move S rfl) ?_; clear S a; intro a S
    refine k_read (listed' := #[true, true, true, true, true, true, true, true, false, false, false, false, false, false]) 7 S rfl rfl rfl rfl (by kernel_rfl) rfl (fun _ d _ _ _ h => by cases d <;> exact h) (fun w hW => have M := M.grow hW; y_loadAgg (cs := [_, _, _, _, _, _, _, _, _, _]) S (by kernel_rfl) rfl rfl (M.cellsAt (k := 10) 0 rfl rfl)) ?_; clear S a; intro a S
    refine k_one (listed' := #[true, true, true, true, true, true, true, true, true, false, false, false, false, false]) 8 rfl (by kernel_rfl) rfl ?_
    refine st_lit (ps := [(0, (Operand.tmp 75))]) (e := 59) (sz := 10) (zl := [.int .i64 0, .int .i64 0, .int .i64 0, .int .i8 0, .int .i64 0, .int .i64 0, .int .i64 0, .int .i64 0, .int .i64 0, .slice none 0 0]) (cs := ((⟨nm, 1, n, 0, 0, -1, 0⟩ : Dr).cells (.slice a2 ([] : List Wr).length c2)).toList) S M rfl rfl (by kernel_rfl) rfl (by kernel_rfl) ?_; clear S M a; intro a w26 bZ S M hB
    refine wpList_nil ?_; refine then_normal ?_; refine ⟨fun _ => hB, ?_⟩
    refine k_one (listed' := #[true, true, true, true, true, true, true, true, true, true, false, false, false, false]) 9 rfl (by kernel_rfl) rfl ?_
    skip
    replace M := M.front 4 rfl
    simp only [List.eraseIdx_cons_succ, List.eraseIdx_cons_zero] at M
    refine st_call (xs := [(Operand.tmp 73), (Operand.tmp 74), (Operand.tmp 76)]) S (enters_of Try.func41 (by decide) rfl) rfl rfl rfl (insertD_any M ((show Rd _ _ _ 10 _ 1 ((⟨nm, 1, n, 0, 0, -1, 0⟩ : Dr).cells (.slice a2 ([] : List Wr).length c2)).toList from M.sliceAt 1 rfl (M.cellsAt (k := 10) 1 rfl rfl) rfl (Nat.le_refl _) (by unfold maxLen; omega)).wide (Nat.zero_le _) (Nat.le_refl _)) rfl) ?_
    rintro _ w27 ⟨la', lc', lo', hi', rfl, M1⟩; refine ⟨_, rfl, ?_⟩; clear S a; intro a S; replace M := M1; clear M1
    refine wpList_nil ?_; refine then_normal ?_; refine ⟨fun h => absurd h (by decide), ?_⟩
    refine k_pure (listed' := #[true, true, true, true, true, true, true, true, true, true, true, false, false, false]) 10 S rfl rfl rfl rfl (by kernel_rfl) rfl (fun _ d _ _ _ h => by cases d <;> exact h) (fun w => y_nilCheck S rfl) ?_; clear S a; intro a S
    refine k_pure (listed' := #[true, true, true, true, true, true, true, true, true, true, true, true, false, false]) 11 S rfl rfl rfl rfl (by kernel_rfl) rfl (fun _ d _ _ _ h => by cases d <;> exact h) (fun w => y_fieldAddr (k := 0) S (by kernel_rfl) rfl) ?_; clear S a; intro a S
    refine k_pure (listed' := #[true, true, true, true, true, true, true, true, true, true, true, true, true, false]) 12 S rfl rfl rfl rfl (by kernel_rfl) rfl (fun _ d _ _ _ h => by cases d <;> exact h) (fun w => y_fieldAddr (k := 0) S (by kernel_rfl) rfl) ?_; clear S a; intro a S
    refine k_one (listed' := #[true, true, true, true, true, true, true, true, true, true, true, true, true, true]) 13 rfl (by kernel_rfl) rfl ?_
    refine st_store (sz := 1) (us := [_]) S M 4 rfl (by kernel_rfl) rfl rfl rfl rfl rfl rfl (by first | decide | (simp; done) | (simp; omega)) ?_; clear M; intro w28 M
    simp only [putL, List.set_cons_zero, List.set_cons_succ, Nat.reduceAdd] at M
    refine wpList_nil ?_; refine then_normal ?_; refine ⟨fun h => absurd h (by decide), ?_⟩
    refine k_end (by kernel_rfl) ?_
    refine then_normal ?_
    refine wp_seq ?_
    replace M := M.drop 1
    simp only [List.eraseIdx_cons_succ, List.eraseIdx_cons_zero] at M
    replace M := M.front 1 rfl
    simp only [List.eraseIdx_cons_succ, List.eraseIdx_cons_zero] at M
    replace M := M.front 2 rfl
    simp only [List.eraseIdx_cons_succ, List.eraseIdx_cons_zero] at M
    replace M := M.front 6 rfl
    simp only [List.eraseIdx_cons_succ, List.eraseIdx_cons_zero] at M
    replace M := M.front 6 rfl
    simp only [List.eraseIdx_cons_succ, List.eraseIdx_cons_zero] at M
    replace M := M.front 6 rfl
    simp only [List.eraseIdx_cons_succ, List.eraseIdx_cons_zero] at M
    replace M := M.front 5 rfl
    simp only [List.eraseIdx_cons_succ, List.eraseIdx_cons_zero] at M
    replace M := M.front 6 rfl
    simp only [List.eraseIdx_cons_succ, List.eraseIdx_cons_zero] at M
    have hwN : WrAt (.slice a2 ([] : List Wr).length c2) [] (rowE lo2 hi2 80 9 (.slice a2 ([] : List Wr).length c2) ([] : List Wr).length (wcells []) :: es) := .inr ⟨a2, c2, lo2, hi2, rfl, List.mem_cons_self .., by simp⟩
    have hD3 := (BkG.nil (S := drS)).more (q := ((⟨nm, 1, n, 0, 0, -1, 0⟩ : Dr), [])) hwN
    have W3 : MacE w w28 [.blk bD ((⟨nm, 1, n, 0, 0, -1, 0⟩ : Dr).cells (.slice a2 ([] : List Wr).length c2)) 59, .blk bT #[.slice none 0 0, .slice none 0 0, .slice none 0 0] 41, .blk bR #[.slice none 0 0] 24, .blk bY #[.int .i64 (-1), .int .i64 0] 52, .blk bX nm.cells 26, .blk bC #[.slice none 0 0] 24] bB [((⟨nm, 1, n, 0, 0, -1, 0⟩ : Dr), [])] [] [] [] (rowE lo2 hi2 80 9 (.slice a2 ([] : List Wr).length c2) ([] : List Wr).length (wcells []) :: es) := ⟨la', 1, lc', lo', hi', _, ma, mc, mlo, mhi, mcs, ka, kc, klo, khi, kcs, ea, ec, elo, ehi, ecs, rfl, M.perm (perm_in (Hm := [Ent.blk bD ((⟨nm, 1, n, 0, 0, -1, 0⟩ : Dr).cells (.slice a2 ([] : List Wr).length c2)) 59, Ent.blk bT #[.slice none 0 0, .slice none 0 0, .slice none 0 0] 41, Ent.blk bR #[.slice none 0 0] 24, Ent.blk bY #[.int .i64 (-1), .int .i64 0] 52, Ent.blk bX nm.cells 26, Ent.blk bC #[.slice none 0 0] 24]) (es := es)), hD3, hM.mono fun _ h => List.mem_cons_of_mem _ h, hK0.mono fun _ h => List.mem_cons_of_mem _ h, hEn.mono fun _ h => List.mem_cons_of_mem _ h⟩
    refine wp_region_lit ?_
    refine st_go [1] S rfl (by kernel_rfl) ?_; clear S a; intro a S
    refine st_y S rfl rfl rfl (y_loadAgg (cs := [_, _, _, _, _, _, _, _, _, _]) S (by kernel_rfl) rfl rfl (M.cellsAt (k := 10) 6 rfl rfl)) ?_; clear S a; intro a S
    refine st_go [1] S rfl (by kernel_rfl) ?_; clear S a; intro a S
    refine st_call (xs := [(Operand.tmp 81), (Operand.tmp 82), (Operand.tmp 83)]) S (enters_of Try.func42 (by decide) rfl) rfl rfl rfl (prepares_any W3 (⟨nm, 1, n, 0, 0, -1, 0⟩ : Dr) _ [] n (by simp) hwN (by show (-1 : Int) < 8; omega)) ?_
    rintro _ w29 ⟨rfl, es5, -, W4⟩; refine ⟨_, rfl, ?_⟩; clear S a M hD hM hK0 hEn hD3 W3 W1; intro a S
    replace S := S.sub [(0, _), (1, _), (2, _), (3, _), (4, _), (5, _), (6, _), (8, _), (10, _), (11, _), (12, _), (41, _), (13, _), (14, _), (51, _), (57, _), (15, _), (16, _)] rfl
    refine nxC ?_
    refine wp_seq ?_
    obtain ⟨la, ln, lc, llo, lhi, lcs, ma, mc, mlo, mhi, mcs, ka, kc, klo, khi, kcs, ea, ec, elo, ehi, ecs, hln, M, hD, hM, hK0, hEn⟩ := W4
    subst hln
    refine wp_regionKC (C := fun W => Blk W bB #[.slice la [((⟨nm, 1, n, 0, 0, -1, 0⟩ : Dr), ([] : List Wr))].length lc, .slice ma ([] ++ (bitsK n 4).map (prepM ⟨nm, 1, n, 0, 0, -1, 0⟩ [])).length mc, .slice ka ([] : Kl).length kc, .slice ea ([] : El).length ec] 71) [8, 9] #[false, false, false, false, false, false, false, false, false, false, false] rfl M (by kernel_rfl) ?_; clear M; intro w30 M; have hC := M.blk 0 rfl
    refine kc_readC (listed' := #[true, false, false, false, false, false, false, false, false, false, false]) 0 S rfl rfl rfl rfl (by kernel_rfl) rfl (fun _ d _ _ _ h => by cases d <;> exact h) hC (fun w _ => y_move S rfl) ?_; clear S a; intro a S
    refine kc_readC (listed' := #[true, true, false, false, false, false, false, false, false, false, false]) 1 S rfl rfl rfl rfl (by kernel_rfl) rfl (fun _ d _ _ _ h => by cases d <;> exact h) hC (fun w _ => y_nilCheck S rfl) ?_; clear S a; intro a S
    refine kc_readC (listed' := #[true, true, true, false, false, false, false, false, false, false, false]) 2 S rfl rfl rfl rfl (by kernel_rfl) rfl (fun _ d _ _ _ h => by cases d <;> exact h) hC (fun w _ => y_fieldAddr (k := 0) S (by kernel_rfl) rfl) ?_; clear S a; intro a S
    refine kc_readC (listed' := #[true, true, true, true, false, false, false, false, false, false, false]) 3 S rfl rfl rfl rfl (by kernel_rfl) rfl (fun _ d _ _ _ h => by cases d <;> exact h) hC (fun w hC => y_loadAgg (cs := [_]) S (by kernel_rfl) rfl rfl (Blk.cellsAt (o := 0) (k := 1) hC rfl)) ?_; clear S a; intro a S
    refine kc_readC (listed' := #[true, true, true, true, true, false, false, false, false, false, false]) 4 S rfl rfl rfl rfl (by kernel_rfl) rfl (fun _ d _ _ _ h => by cases d <;> exact h) hC (fun w _ => y_move S rfl) ?_; clear S a; intro a S
    refine kc_readC (listed' := #[true, true, true, true, true, true, false, false, false, false, false]) 5 S rfl rfl rfl rfl (by kernel_rfl) rfl (fun _ d _ _ _ h => by cases d <;> exact h) hC (fun w _ => y_nilCheck S rfl) ?_; clear S a; intro a S
    refine kc_readC (listed' := #[true, true, true, true, true, true, true, false, false, false, false]) 6 S rfl rfl rfl rfl (by kernel_rfl) rfl (fun _ d _ _ _ h => by cases d <;> exact h) hC (fun w _ => y_fieldAddr (k := 1) S (by kernel_rfl) rfl) ?_; clear S a; intro a S
    refine kc_readC (listed' := #[true, true, true, true, true, true, true, true, false, false, false]) 7 S rfl rfl rfl rfl (by kernel_rfl) rfl (fun _ d _ _ _ h => by cases d <;> exact h) hC (fun w hC => y_loadAgg (cs := [_, _, _]) S (by kernel_rfl) rfl rfl (Blk.cellsAt (o := 1) (k := 3) hC rfl)) ?_; clear S a; intro a S
    refine kc_one (listed' := #[true, true, true, true, true, true, true, true, true, false, false]) 8 rfl (by kernel_rfl) rfl ?_
    refine st_store (sz := 1) (us := [_]) S M 7 rfl (by kernel_rfl) rfl rfl rfl rfl rfl rfl (by first | decide | (simp; done) | (simp; omega)) ?_; clear M; intro w31 M
    simp only [putL, List.set_cons_zero, List.set_cons_succ, Nat.reduceAdd] at M
    replace hC := M.blk 0 rfl
    refine wpList_nil ?_; refine then_normal ?_; refine ⟨fun h => absurd h (by decide), hC, ?_⟩
    refine kc_one (listed' := #[true, true, true, true, true, true, true, true, true, true, false]) 9 rfl (by kernel_rfl) rfl ?_
    refine st_store (sz := 3) (us := [_, _, _]) S M 6 rfl (by kernel_rfl) rfl rfl rfl rfl rfl rfl (by first | decide | (simp; done) | (simp; omega)) ?_; clear M; intro w32 M
    simp only [putL, List.set_cons_zero, List.set_cons_succ, Nat.reduceAdd] at M
    replace hC := M.blk 0 rfl
    refine wpList_nil ?_; refine then_normal ?_; refine ⟨fun h => absurd h (by decide), hC, ?_⟩
    refine kc_readC (listed' := #[true, true, true, true, true, true, true, true, true, true, true]) 10 S rfl rfl rfl rfl (by kernel_rfl) rfl (fun _ d _ _ _ h => by cases d <;> exact h) hC (fun w _ => y_assign S rfl) ?_; clear S a; intro a S
    refine kc_end (by kernel_rfl) ?_
    refine then_normal ?_
    refine wp_ret ?_
    refine end_three S rfl (res_agg (cs := [_]) (by kernel_rfl) rfl rfl (M.cellsAt (k := 1) 7 rfl rfl)) (res_agg (cs := [_, _, _]) (by kernel_rfl) rfl rfl (M.cellsAt (k := 3) 6 rfl rfl)) (res_tmp rfl) ?_
    have hb4 := bits_small n
    exact ⟨0, comR nm n, ⟨_, _, _, _, rfl, M.below, out_of M (List.mem_of_getElem? (show _[1]? = _ from rfl)) (List.mem_of_getElem? (show _[2]? = _ from rfl)) (List.mem_of_getElem? (show _[3]? = _ from rfl)) (List.mem_of_getElem? (show _[4]? = _ from rfl)) (fun e he => by simp [he]) hD hM hK0 hEn (by unfold maxLen; simp) (by rw [List.length_map]; unfold maxLen; omega) (by unfold maxLen; simp) (by unfold maxLen; simp)⟩, .inl ⟨rfl, hnm.1, hnm.2, rfl⟩⟩
  · skip
    refine st_alloc S M rfl rfl #[.int .i64 0, .int .i64 0, .int .i64 0, .int .i8 0, .int .i64 0, .int .i64 0, .int .i64 0, .int .i64 0, .int .i64 0, .slice none 0 0] (by kernel_rfl) ?_; clear S M a; intro a w33 bD S M hB
    refine wpList_nil ?_; refine then_normal ?_; refine ⟨fun _ => hB, ?_⟩
    refine k_one (listed' := #[true, true, true, true, true, false, true, false]) 4 rfl (by kernel_rfl) rfl ?_
    refine st_call (xs := [(Operand.tmp 65)]) S (enters_of Try.func40 (by decide) rfl) rfl rfl rfl (cloneW_any _ [] _ (Rd.nil _ _ _ _) (by simp)) ?_
    rintro _ w34 ⟨v2, rfl, hF⟩; refine ⟨_, rfl, ?_⟩; clear S a; intro a S; have hK := hF.below
    obtain ⟨a2, c2, rfl, -, -⟩ := (hF.rd0 (by unfold maxLen; simp)).form
    obtain ⟨lo2, hi2, -, M⟩ := M.pushFresh hF
    refine wpList_nil ?_; refine then_normal ?_; refine ⟨fun _ => hK, ?_⟩
    refine k_pure (listed' := #[true, true, true, true, true, true, true, false]) 5 S rfl rfl rfl rfl (by kernel_rfl) rfl (fun _ d _ _ _ h => by cases d <;> exact h) (fun w => y_build (ps := [(0, (Operand.tmp 62)), (1, (Operand.const (Value.int IntKind.i8 1))), (2, (Operand.tmp 63)), (5, (Operand.tmp 64)), (6, (Operand.tmp 66))]) (pl := [(0, 3), (3, 1), (4, 1), (5, 1), (6, 1), (7, 2), (9, 1)]) (z := [.int .i64 0, .int .i64 0, .int .i64 0, .int .i8 0, .int .i64 0, .int .i64 0, .int .i64 0, .int .i64 0, .int .i64 0, .slice none 0 0]) (cs := [_, _, _, _, _, _, _, _, _, _]) S (by kernel_rfl) rfl (rfl)) ?_; clear S a; intro a S
    refine k_one (listed' := #[true, true, true, true, true, true, true, true]) 7 rfl (by kernel_rfl) rfl ?_
    refine st_store (sz := 10) (us := [_, _, _, _, _, _, _, _, _, _]) S M 1 rfl (by kernel_rfl) rfl rfl rfl rfl rfl rfl (by first | decide | (simp; done) | (simp; omega)) ?_; clear M; intro w35 M
    simp only [putL, List.set_cons_zero, List.set_cons_succ, Nat.reduceAdd] at M
    refine wpList_nil ?_; refine then_normal ?_; refine ⟨fun h => absurd h (by decide), ?_⟩
    refine k_end (by kernel_rfl) ?_
    replace S := S.sub [(0, _), (1, _), (2, _), (3, _), (4, _), (5, _), (6, _), (8, _), (10, _), (11, _), (12, _), (41, _), (13, _), (14, _), (51, _), (57, _), (15, _), (16, _)] rfl
    refine then_normal ?_
    refine wp_seq ?_
    refine wp_regionK [9, 13] #[false, false, false, false, false, false, false, false, false, false, false, false, false, false] rfl M (by kernel_rfl) ?_; clear M; intro w36 M
    refine k_pure (listed' := #[true, false, false, false, false, false, false, false, false, false, false, false, false, false]) 0 S rfl rfl rfl rfl (by kernel_rfl) rfl (fun _ d _ _ _ h => by cases d <;> exact h) (fun w => y_move S rfl) ?_; clear S a; intro a S
    refine k_pure (listed' := #[true, true, false, false, false, false, false, false, false, false, false, false, false, false]) 1 S rfl rfl rfl rfl (by kernel_rfl) rfl (fun _ d _ _ _ h => by cases d <;> exact h) (fun w => y_move S rfl) ?_; clear S a; intro a S
    refine k_pure (listed' := #[true, true, true, false, false, false, false, false, false, false, false, false, false, false]) 2 S rfl rfl rfl rfl (by kernel_rfl) rfl (fun _ d _ _ _ h => by cases d <;> exact h) (fun w => y_nilCheck S rfl) ?_; clear S a; intro a S
    refine k_pure (listed' := #[true, true, true, true, false, false, false, false, false, false, false, false, false, false]) 3 S rfl rfl rfl rfl (by kernel_rfl) rfl (fun _ d _ _ _ h => by cases d <;> exact h) (fun w => y_fieldAddr (k := 0) S (by kernel_rfl) rfl) ?_; clear S a; intro a S
    refine k_pure (listed' := #[true, true, true, true, true, false, false, false, false, false, false, false, false, false]) 4 S rfl rfl rfl rfl (by kernel_rfl) rfl (fun _ d _ _ _ h => by cases d <;> exact h) (fun w => y_fieldAddr (k := 0) S (by kernel_rfl) rfl) ?_; clear S a; intro a S
    refine k_read (listed' := #[true, true, true, true, true, true, false, false, false, false, false, false, false, false]) 5 S rfl rfl rfl rfl (by kernel_rfl) rfl (fun _ d _ _ _ h => by cases d <;> exact h) (fun w hW => have M := M.grow hW; y_load S (by kernel_rfl) rfl (M.cell 2 rfl rfl)) ?_; clear S a; intro a S
    refine k_pure (listed' := #[true, true, true, true, true, true, true, false, false, false, false, false, false, false]) 6 S rfl rfl rfl rfl (by kernel_rfl) rfl (fun _ d _ _ _ h => by cases d <;> exact h) (fun w => y_move S rfl) ?_; clear S a; intro a S
    refine k_read (listed' := #[true, true, true, true, true, true, true, true, false, false, false, false, false, false]) 7 S rfl rfl rfl rfl (by kernel_rfl) rfl (fun _ d _ _ _ h => by cases d <;> exact h) (fun w hW => have M := M.grow hW; y_loadAgg (cs := [_, _, _, _, _, _, _, _, _, _]) S (by kernel_rfl) rfl rfl (M.cellsAt (k := 10) 1 rfl rfl)) ?_; clear S a; intro a S
    refine k_one (listed' := #[true, true, true, true, true, true, true, true, true, false, false, false, false, false]) 8 rfl (by kernel_rfl) rfl ?_
    refine st_lit (ps := [(0, (Operand.tmp 75))]) (e := 59) (sz := 10) (zl := [.int .i64 0, .int .i64 0, .int .i64 0, .int .i8 0, .int .i64 0, .int .i64 0, .int .i64 0, .int .i64 0, .int .i64 0, .slice none 0 0]) (cs := ((⟨nm, 1, n, 0, 0, -1, 0⟩ : Dr).cells (.slice a2 ([] : List Wr).length c2)).toList) S M rfl rfl (by kernel_rfl) rfl (by kernel_rfl) ?_; clear S M a; intro a w37 bZ S M hB
    refine wpList_nil ?_; refine then_normal ?_; refine ⟨fun _ => hB, ?_⟩
    refine k_one (listed' := #[true, true, true, true, true, true, true, true, true, true, false, false, false, false]) 9 rfl (by kernel_rfl) rfl ?_
    skip
    replace M := M.front 4 rfl
    simp only [List.eraseIdx_cons_succ, List.eraseIdx_cons_zero] at M
    refine st_call (xs := [(Operand.tmp 73), (Operand.tmp 74), (Operand.tmp 76)]) S (enters_of Try.func41 (by decide) rfl) rfl rfl rfl (insertD_any M ((show Rd _ _ _ 10 _ 1 ((⟨nm, 1, n, 0, 0, -1, 0⟩ : Dr).cells (.slice a2 ([] : List Wr).length c2)).toList from M.sliceAt 1 rfl (M.cellsAt (k := 10) 1 rfl rfl) rfl (Nat.le_refl _) (by unfold maxLen; omega)).wide (Nat.zero_le _) (Nat.le_refl _)) rfl) ?_
    rintro _ w38 ⟨la', lc', lo', hi', rfl, M1⟩; refine ⟨_, rfl, ?_⟩; clear S a; intro a S; replace M := M1; clear M1
    refine wpList_nil ?_; refine then_normal ?_; refine ⟨fun h => absurd h (by decide), ?_⟩
    refine k_pure (listed' := #[true, true, true, true, true, true, true, true, true, true, true, false, false, false]) 10 S rfl rfl rfl rfl (by kernel_rfl) rfl (fun _ d _ _ _ h => by cases d <;> exact h) (fun w => y_nilCheck S rfl) ?_; clear S a; intro a S
    refine k_pure (listed' := #[true, true, true, true, true, true, true, true, true, true, true, true, false, false]) 11 S rfl rfl rfl rfl (by kernel_rfl) rfl (fun _ d _ _ _ h => by cases d <;> exact h) (fun w => y_fieldAddr (k := 0) S (by kernel_rfl) rfl) ?_; clear S a; intro a S
    refine k_pure (listed' := #[true, true, true, true, true, true, true, true, true, true, true, true, true, false]) 12 S rfl rfl rfl rfl (by kernel_rfl) rfl (fun _ d _ _ _ h => by cases d <;> exact h) (fun w => y_fieldAddr (k := 0) S (by kernel_rfl) rfl) ?_; clear S a; intro a S
    refine k_one (listed' := #[true, true, true, true, true, true, true, true, true, true, true, true, true, true]) 13 rfl (by kernel_rfl) rfl ?_
    refine st_store (sz := 1) (us := [_]) S M 4 rfl (by kernel_rfl) rfl rfl rfl rfl rfl rfl (by first | decide | (simp; done) | (simp; omega)) ?_; clear M; intro w39 M
    simp only [putL, List.set_cons_zero, List.set_cons_succ, Nat.reduceAdd] at M
    refine wpList_nil ?_; refine then_normal ?_; refine ⟨fun h => absurd h (by decide), ?_⟩
    refine k_end (by kernel_rfl) ?_
    refine then_normal ?_
    refine wp_seq ?_
    replace M := M.drop 1
    simp only [List.eraseIdx_cons_succ, List.eraseIdx_cons_zero] at M
    replace M := M.front 2 rfl
    simp only [List.eraseIdx_cons_succ, List.eraseIdx_cons_zero] at M
    replace M := M.front 2 rfl
    simp only [List.eraseIdx_cons_succ, List.eraseIdx_cons_zero] at M
    replace M := M.front 6 rfl
    simp only [List.eraseIdx_cons_succ, List.eraseIdx_cons_zero] at M
    replace M := M.front 6 rfl
    simp only [List.eraseIdx_cons_succ, List.eraseIdx_cons_zero] at M
    replace M := M.front 6 rfl
    simp only [List.eraseIdx_cons_succ, List.eraseIdx_cons_zero] at M
    replace M := M.front 5 rfl
    simp only [List.eraseIdx_cons_succ, List.eraseIdx_cons_zero] at M
    replace M := M.front 6 rfl
    simp only [List.eraseIdx_cons_succ, List.eraseIdx_cons_zero] at M
    have hwN : WrAt (.slice a2 ([] : List Wr).length c2) [] (rowE lo2 hi2 80 9 (.slice a2 ([] : List Wr).length c2) ([] : List Wr).length (wcells []) :: es) := .inr ⟨a2, c2, lo2, hi2, rfl, List.mem_cons_self .., by simp⟩
    have hD3 := (BkG.nil (S := drS)).more (q := ((⟨nm, 1, n, 0, 0, -1, 0⟩ : Dr), [])) hwN
    have W3 : MacE w w39 [.blk bD ((⟨nm, 1, n, 0, 0, -1, 0⟩ : Dr).cells (.slice a2 ([] : List Wr).length c2)) 59, .blk bT #[.slice none 0 0, .slice none 0 0, .slice none 0 0] 41, .blk bR #[.slice none 0 0] 24, .blk bY #[.int .i64 (-1), .int .i64 0] 52, .blk bX nm.cells 26, .blk bC #[.slice none 0 0] 24] bB [((⟨nm, 1, n, 0, 0, -1, 0⟩ : Dr), [])] [] [] [] (rowE lo2 hi2 80 9 (.slice a2 ([] : List Wr).length c2) ([] : List Wr).length (wcells []) :: es) := ⟨la', 1, lc', lo', hi', _, ma, mc, mlo, mhi, mcs, ka, kc, klo, khi, kcs, ea, ec, elo, ehi, ecs, rfl, M.perm (perm_in (Hm := [Ent.blk bD ((⟨nm, 1, n, 0, 0, -1, 0⟩ : Dr).cells (.slice a2 ([] : List Wr).length c2)) 59, Ent.blk bT #[.slice none 0 0, .slice none 0 0, .slice none 0 0] 41, Ent.blk bR #[.slice none 0 0] 24, Ent.blk bY #[.int .i64 (-1), .int .i64 0] 52, Ent.blk bX nm.cells 26, Ent.blk bC #[.slice none 0 0] 24]) (es := es)), hD3, hM.mono fun _ h => List.mem_cons_of_mem _ h, hK0.mono fun _ h => List.mem_cons_of_mem _ h, hEn.mono fun _ h => List.mem_cons_of_mem _ h⟩
    refine wp_region_lit ?_
    refine st_go [1] S rfl (by kernel_rfl) ?_; clear S a; intro a S
    refine st_y S rfl rfl rfl (y_loadAgg (cs := [_, _, _, _, _, _, _, _, _, _]) S (by kernel_rfl) rfl rfl (M.cellsAt (k := 10) 6 rfl rfl)) ?_; clear S a; intro a S
    refine st_go [1] S rfl (by kernel_rfl) ?_; clear S a; intro a S
    refine st_call (xs := [(Operand.tmp 81), (Operand.tmp 82), (Operand.tmp 83)]) S (enters_of Try.func42 (by decide) rfl) rfl rfl rfl (prepares_any W3 (⟨nm, 1, n, 0, 0, -1, 0⟩ : Dr) _ [] n (by simp) hwN (by show (-1 : Int) < 8; omega)) ?_
    rintro _ w40 ⟨rfl, es5, -, W4⟩; refine ⟨_, rfl, ?_⟩; clear S a M hD hM hK0 hEn hD3 W3 W1; intro a S
    replace S := S.sub [(0, _), (1, _), (2, _), (3, _), (4, _), (5, _), (6, _), (8, _), (10, _), (11, _), (12, _), (41, _), (13, _), (14, _), (51, _), (57, _), (15, _), (16, _)] rfl
    refine nxC ?_
    refine wp_seq ?_
    obtain ⟨la, ln, lc, llo, lhi, lcs, ma, mc, mlo, mhi, mcs, ka, kc, klo, khi, kcs, ea, ec, elo, ehi, ecs, hln, M, hD, hM, hK0, hEn⟩ := W4
    subst hln
    refine wp_regionKC (C := fun W => Blk W bB #[.slice la [((⟨nm, 1, n, 0, 0, -1, 0⟩ : Dr), ([] : List Wr))].length lc, .slice ma ([] ++ (bitsK n 4).map (prepM ⟨nm, 1, n, 0, 0, -1, 0⟩ [])).length mc, .slice ka ([] : Kl).length kc, .slice ea ([] : El).length ec] 71) [8, 9] #[false, false, false, false, false, false, false, false, false, false, false] rfl M (by kernel_rfl) ?_; clear M; intro w41 M; have hC := M.blk 0 rfl
    refine kc_readC (listed' := #[true, false, false, false, false, false, false, false, false, false, false]) 0 S rfl rfl rfl rfl (by kernel_rfl) rfl (fun _ d _ _ _ h => by cases d <;> exact h) hC (fun w _ => y_move S rfl) ?_; clear S a; intro a S
    refine kc_readC (listed' := #[true, true, false, false, false, false, false, false, false, false, false]) 1 S rfl rfl rfl rfl (by kernel_rfl) rfl (fun _ d _ _ _ h => by cases d <;> exact h) hC (fun w _ => y_nilCheck S rfl) ?_; clear S a; intro a S
    refine kc_readC (listed' := #[true, true, true, false, false, false, false, false, false, false, false]) 2 S rfl rfl rfl rfl (by kernel_rfl) rfl (fun _ d _ _ _ h => by cases d <;> exact h) hC (fun w _ => y_fieldAddr (k := 0) S (by kernel_rfl) rfl) ?_; clear S a; intro a S
    refine kc_readC (listed' := #[true, true, true, true, false, false, false, false, false, false, false]) 3 S rfl rfl rfl rfl (by kernel_rfl) rfl (fun _ d _ _ _ h => by cases d <;> exact h) hC (fun w hC => y_loadAgg (cs := [_]) S (by kernel_rfl) rfl rfl (Blk.cellsAt (o := 0) (k := 1) hC rfl)) ?_; clear S a; intro a S
    refine kc_readC (listed' := #[true, true, true, true, true, false, false, false, false, false, false]) 4 S rfl rfl rfl rfl (by kernel_rfl) rfl (fun _ d _ _ _ h => by cases d <;> exact h) hC (fun w _ => y_move S rfl) ?_; clear S a; intro a S
    refine kc_readC (listed' := #[true, true, true, true, true, true, false, false, false, false, false]) 5 S rfl rfl rfl rfl (by kernel_rfl) rfl (fun _ d _ _ _ h => by cases d <;> exact h) hC (fun w _ => y_nilCheck S rfl) ?_; clear S a; intro a S
    refine kc_readC (listed' := #[true, true, true, true, true, true, true, false, false, false, false]) 6 S rfl rfl rfl rfl (by kernel_rfl) rfl (fun _ d _ _ _ h => by cases d <;> exact h) hC (fun w _ => y_fieldAddr (k := 1) S (by kernel_rfl) rfl) ?_; clear S a; intro a S
    refine kc_readC (listed' := #[true, true, true, true, true, true, true, true, false, false, false]) 7 S rfl rfl rfl rfl (by kernel_rfl) rfl (fun _ d _ _ _ h => by cases d <;> exact h) hC (fun w hC => y_loadAgg (cs := [_, _, _]) S (by kernel_rfl) rfl rfl (Blk.cellsAt (o := 1) (k := 3) hC rfl)) ?_; clear S a; intro a S
    refine kc_one (listed' := #[true, true, true, true, true, true, true, true, true, false, false]) 8 rfl (by kernel_rfl) rfl ?_
    refine st_store (sz := 1) (us := [_]) S M 7 rfl (by kernel_rfl) rfl rfl rfl rfl rfl rfl (by first | decide | (simp; done) | (simp; omega)) ?_; clear M; intro w42 M
    simp only [putL, List.set_cons_zero, List.set_cons_succ, Nat.reduceAdd] at M
    replace hC := M.blk 0 rfl
    refine wpList_nil ?_; refine then_normal ?_; refine ⟨fun h => absurd h (by decide), hC, ?_⟩
    refine kc_one (listed' := #[true, true, true, true, true, true, true, true, true, true, false]) 9 rfl (by kernel_rfl) rfl ?_
    refine st_store (sz := 3) (us := [_, _, _]) S M 6 rfl (by kernel_rfl) rfl rfl rfl rfl rfl rfl (by first | decide | (simp; done) | (simp; omega)) ?_; clear M; intro w43 M
    simp only [putL, List.set_cons_zero, List.set_cons_succ, Nat.reduceAdd] at M
    replace hC := M.blk 0 rfl
    refine wpList_nil ?_; refine then_normal ?_; refine ⟨fun h => absurd h (by decide), hC, ?_⟩
    refine kc_readC (listed' := #[true, true, true, true, true, true, true, true, true, true, true]) 10 S rfl rfl rfl rfl (by kernel_rfl) rfl (fun _ d _ _ _ h => by cases d <;> exact h) hC (fun w _ => y_assign S rfl) ?_; clear S a; intro a S
    refine kc_end (by kernel_rfl) ?_
    refine then_normal ?_
    refine wp_ret ?_
    refine end_three S rfl (res_agg (cs := [_]) (by kernel_rfl) rfl rfl (M.cellsAt (k := 1) 7 rfl rfl)) (res_agg (cs := [_, _, _]) (by kernel_rfl) rfl rfl (M.cellsAt (k := 3) 6 rfl rfl)) (res_tmp rfl) ?_
    have hb4 := bits_small n
    exact ⟨0, comR nm n, ⟨_, _, _, _, rfl, M.below, out_of M (List.mem_of_getElem? (show _[1]? = _ from rfl)) (List.mem_of_getElem? (show _[2]? = _ from rfl)) (List.mem_of_getElem? (show _[3]? = _ from rfl)) (List.mem_of_getElem? (show _[4]? = _ from rfl)) (fun e he => by simp [he]) hD hM hK0 hEn (by unfold maxLen; simp) (by rw [List.length_map]; unfold maxLen; omega) (by unfold maxLen; simp) (by unfold maxLen; simp)⟩, .inl ⟨rfl, hnm.1, hnm.2, rfl⟩⟩


end Go.Proofs.Ytidpeojkkfmgeaa
