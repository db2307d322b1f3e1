/-
  law25: wakes.
-/
import Derived.Test.YtgocjpcmjljeoaaMc
namespace Go.Proofs.Ytgocjpcmjljeoaa
open Go.RowKit Go.Sort

theorem Rd.cellAt {lo hi sz n j : Nat} {w : World} {v u : Value} {cs : List Value} (h : Rd lo hi w sz v n cs) (hj : cs[j]? = some u) : w.cell? ⟨(adr v).block, (adr v).off + j, none⟩ = some u := by
  rw [h.at_ j (List.getElem?_eq_some_iff.1 hj).1, hj]

def wkM (k : Nat) : Mv := if k < 5 then ⟨1, nm25, 2, 3, 1, (k : Int)⟩ else ⟨2, nm25, 2, 3, 1, 4⟩
def wkV : Nat → List V8
  | 0 => []
  | 1 => []
  | 2 => [⟨1, 0, 0, 0, 0, 0, 0, 0⟩]
  | 3 => [⟨1, 0, 0, 0, 0, 0, 0, 0⟩, ⟨2, 0, 0, 0, 0, 0, 0, 0⟩]
  | 4 => [⟨1, 0, 0, 0, 0, 0, 0, 0⟩, ⟨2, 0, 0, 0, 0, 0, 0, 0⟩, ⟨3, 0, 0, 0, 0, 0, 0, 0⟩]
  | _ => [⟨1, 0, 0, 0, 0, 0, 0, 0⟩, ⟨2, 0, 0, 0, 0, 0, 0, 0⟩, ⟨3, 0, 0, 0, 0, 0, 0, 0⟩, ⟨4, 0, 0, 0, 0, 0, 0, 0⟩]
def wkHow (k : Nat) : Int := if k = 5 then 1 else 0
def wkMs (k : Nat) : List Msg := if k = 5 then [] else [execM (wkM k)]
theorem wkV_len (k : Nat) : (wkV k).length ≤ 4 := by unfold wkV; split <;> simp
theorem wkOk {k : Nat} (h : 1 ≤ k ∧ k ≤ 4) : (wkM k).ok (wkV k) = true := by
  obtain rfl | rfl | rfl | rfl : k = 1 ∨ k = 2 ∨ k = 3 ∨ k = 4 := by omega
  all_goals (unfold Mv.ok; rw [if_neg (by decide), if_pos (by decide)]; decide +kernel)
theorem wkMay {k : Nat} (h : 1 ≤ k ∧ k ≤ 4) : (didM k 0 (byteOf k)).may [] = true := by
  obtain rfl | rfl | rfl | rfl : k = 1 ∨ k = 2 ∨ k = 3 ∨ k = 4 := by omega
  all_goals decide +kernel
theorem wkMayK : (didM 1 120 0).may [] = true := by decide +kernel
theorem wkHear {k : Nat} (h : 1 ≤ k ∧ k ≤ 4) : hearM (wkM k) (wkV k) (didM k 0 (byteOf k)) [] = (wkM (k + 1), wkV (k + 1), wkMs (k + 1), wkHow (k + 1), 0) := by
  have h1 := wkOk h
  have h2 := wkMay h
  unfold hearM
  rw [if_pos ⟨h1, rfl, h2⟩]
  clear h1 h2
  obtain rfl | rfl | rfl | rfl : k = 1 ∨ k = 2 ∨ k = 3 ∨ k = 4 := by omega
  · rw [if_pos ⟨rfl, rfl, rfl, rfl⟩]; exact (if_pos rfl).trans ((if_neg (by decide)).trans rfl)
  · rw [if_pos ⟨rfl, rfl, rfl, rfl⟩]; exact (if_pos rfl).trans ((if_neg (by decide)).trans rfl)
  · rw [if_pos ⟨rfl, rfl, rfl, rfl⟩]; exact (if_pos rfl).trans ((if_neg (by decide)).trans rfl)
  · rw [if_pos ⟨rfl, rfl, rfl, rfl⟩]; exact (if_pos rfl).trans ((if_pos (by decide)).trans rfl)
theorem wkBad : hearM (begunM 2 3 1 nm25) [] (didM 1 120 0) [] = (Mv.zero, [], [], 2, 0) := by
  have h1 : (begunM 2 3 1 nm25).ok [] = true := wkOk (k := 1) (by omega)
  unfold hearM
  rw [if_pos ⟨h1, rfl, wkMayK⟩, if_pos ⟨rfl, rfl, rfl, rfl⟩, if_neg (by decide)]
def wkWs : List Wr := [⟨8, ⟨1, 0, 0, 0, 0, 0, 0, 0⟩⟩, ⟨9, ⟨2, 0, 0, 0, 0, 0, 0, 0⟩⟩, ⟨10, ⟨3, 0, 0, 0, 0, 0, 0, 0⟩⟩, ⟨11, ⟨4, 0, 0, 0, 0, 0, 0, 0⟩⟩]
theorem wkWr : wrM (wkM 5) (wkV 5) = wkWs := by
  have h1 : (wkM 5).ok (wkV 5) = true := by unfold Mv.ok; rw [if_neg (by decide), if_neg (by decide), if_pos (by decide)]; decide +kernel
  unfold wrM
  rw [if_pos ⟨rfl, h1⟩]
  rfl
theorem wkWay : wayB 2 3 1 nm25 = true := by decide +kernel

theorem wakes_any (w : World) : Calls Try.prog 5 #[] w fun e w' => e = .returned (.bool true) ∧ Below w.heap.size w w' := by
  have M := Mem.start w
  refine calls_enter Try.func5 rfl 108 rfl rfl ?_; intro a S
  refine wp_seq ?_
  -- region 0 law.go:26
  refine wp_region_lit ?_
  refine st_y S rfl rfl rfl (y_assign S rfl) ?_; clear S a; intro a S
  refine wpList_nil ?_
  replace S := S.sub [(0, _)] rfl
  refine then_normal ?_
  refine wp_seq ?_
  -- region 1 law.go:27
  refine wp_region_lit ?_
  refine st_y S rfl rfl rfl (y_build (ps := []) (pl := [(0, 1), (1, 3), (4, 2), (6, 1), (7, 1), (8, 1)]) (z := [.int .i8 0, .int .i64 0, .int .i64 0, .int .i64 0, .int .i64 0, .int .i64 0, .int .i64 0, .int .i64 0, .slice none 0 0]) (cs := [_, _, _, _, _, _, _, _, _]) S (by kernel_rfl) rfl (rfl)) ?_; clear S a; intro a S
  refine st_y S rfl rfl rfl (y_build (ps := [(0, (Operand.const (Value.int IntKind.i64 2))), (1, (Operand.const (Value.int IntKind.i64 3)))]) (pl := [(0, 1), (1, 1)]) (z := [.int .i64 0, .int .i64 0]) (cs := [_, _]) S (by kernel_rfl) rfl (rfl)) ?_; clear S a; intro a S
  refine st_call (xs := []) S (enters_of Try.func14 (by decide) rfl) rfl rfl rfl (name25_any _) ?_
  rintro _ w1 ⟨rfl, hK⟩; refine ⟨_, rfl, ?_⟩; clear S a; intro a S; replace M := M.grow hK
  refine st_call (xs := [(Operand.tmp 15), (Operand.tmp 16), (Operand.const (Value.int IntKind.i64 1)), (Operand.tmp 17)]) S (enters_of Try.func6 (by decide) rfl) rfl rfl rfl (begin_any 2 3 1 nm25 _ wkWay) ?_
  rintro _ w2 ⟨lv, l1, h1, rfl, M1⟩; refine ⟨_, rfl, ?_⟩; clear S a; intro a S
  have hK := M1.below
  obtain ⟨lb, lo0, lc, hE, -, -⟩ := (M1.readRow 0 rfl (by unfold maxLen; omega)).place (by omega)
  subst hE
  replace M := M.join M1
  simp only [List.cons_append, List.nil_append] at M
  refine st_y S rfl rfl rfl (y_move S rfl) ?_; clear S a; intro a S
  refine st_y S rfl rfl rfl (y_extract S rfl rfl) ?_; clear S a; intro a S
  refine st_y S rfl rfl rfl (y_extract S rfl rfl) ?_; clear S a; intro a S
  refine st_y S rfl rfl rfl (y_extract S rfl rfl) ?_; clear S a; intro a S
  refine st_alloc S M rfl rfl #[.int .i8 0, .int .i64 0, .int .i64 0, .int .i64 0, .int .i64 0, .int .i64 0, .int .i64 0, .int .i64 0, .slice none 0 0] (by kernel_rfl) ?_; clear S M a; intro a w3 bK S M hB
  refine st_store (sz := 9) (us := [_, _, _, _, _, _, _, _, _]) S M 0 rfl (by kernel_rfl) rfl rfl rfl rfl rfl rfl (by first | decide | (simp; done) | (simp; omega)) ?_; clear M; intro w4 M
  simp only [putL, List.set_cons_zero, List.set_cons_succ, Nat.reduceAdd] at M
  refine st_y S rfl rfl rfl (y_assign S rfl) ?_; clear S a; intro a S
  refine st_y S rfl rfl rfl (y_assign S rfl) ?_; clear S a; intro a S
  refine wpList_nil ?_
  replace S := S.sub [(0, _), (1, _), (2, _), (3, _)] rfl
  refine then_normal ?_
  refine wp_seq ?_
  -- region 2 law.go:28
  refine wp_region_lit ?_
  refine st_y S rfl rfl rfl (y_assign S rfl) ?_; clear S a; intro a S
  refine wpList_nil ?_
  replace S := S.sub [(0, _), (1, _), (2, _), (3, _), (4, _)] rfl
  refine then_normal ?_
  refine wp_seq ?_
  refine wp_seq ?_
  -- region 3 law.go:29
  refine wp_region_lit ?_
  refine st_y S rfl rfl rfl (y_assign S rfl) ?_; clear S a; intro a S
  refine wpList_nil ?_
  replace S := S.sub [(0, _), (1, _), (2, _), (3, _), (4, _), (5, _)] rfl
  refine then_normal ?_
  refine wp_block ?_
  refine wp_loop_g (fun q a w' => ∃ (k : Nat) (ad : Option Addr) (cp lo hi : Nat), (1 ≤ k ∧ k ≤ 5) ∧ q = 5 - k ∧ Sees 108 a [(1, .pointer (some ⟨bK, 0, none⟩)), (2, .slice (some ⟨lb, lo0, none⟩) 1 lc), (3, .int .i64 0), (4, .int .i8 (wkHow k)), (5, .int .i64 (k : Int))] ∧ Mem w w' [.blk bK ((wkM k).cells (.slice ad (wkV k).length cp)) 31, rowE lo hi 36 8 (.slice ad (wkV k).length cp) (wkV k).length (vcells (wkV k)), rowE l1 h1 39 24 (.slice (some ⟨lb, lo0, none⟩) 1 lc) 1 (msC [execM (begunM 2 3 1 nm25)])]) (4) ?_ ?_
  · skip
    exact ⟨1, none, 0, _, _, by omega, rfl, S.sub _ rfl, (M.rowNil 36 8).front 1 rfl⟩
  · clear S M a; intro m a wl
    rintro ⟨k, ad, cp, lo, hi, hk, rfl, S, M⟩
    have hvl := wkV_len k
    refine wp_seq ?_
    refine wp_seq ?_
    -- region 4 law.go:29
    refine wp_region_lit ?_
    refine st_y S rfl rfl rfl (y_move S rfl) ?_; clear S a; intro a S
    refine st_y S rfl rfl rfl (y_int S rfl rfl rfl) ?_; clear S a; intro a S
    refine wpList_nil ?_
    replace S := S.sub [(1, _), (2, _), (3, _), (4, _), (5, _), (23, _)] rfl
    refine then_normal ?_
    refine st_split (t := 23) S rfl ?_ ?_
    · clear S; intro h23 S
      first | replace h23 := nrmA h23 | replace h23 := nrmB h23 | skip
      first | replace h23 := nrm1 h23 | replace h23 := nrm2 h23 | replace h23 := nrm3 h23 | replace h23 := nrm4 h23 | replace h23 := nrm5 h23 | replace h23 := nrm6 h23 | replace h23 := of_decide_eq_true h23 | replace h23 := of_decide_eq_false h23 | skip
      refine st_condT S rfl ?_
      refine wp_skip ?_
      refine then_normal ?_
      refine wp_seq ?_
      refine wp_block ?_
      -- region 6 law.go:30
      refine wp_regionK [11] #[false, false, false, false, false, false, false, false, false, false, false, false, false] rfl M (by kernel_rfl) ?_; clear M; intro w5 M
      refine k_read (listed' := #[true, false, false, false, false, false, false, false, false, false, false, false, false]) 0 S rfl rfl rfl rfl (by kernel_rfl) rfl (fun _ d _ _ _ h => by cases d <;> exact h) (fun w hW => have M := M.grow hW; y_loadAgg (cs := [_, _, _, _, _, _, _, _, _]) S (by kernel_rfl) rfl rfl (M.cellsAt (k := 9) 0 rfl rfl)) ?_; clear S a; intro a S
      refine k_pure (listed' := #[true, true, false, false, false, false, false, false, false, false, false, false, false]) 1 S rfl rfl rfl rfl (by kernel_rfl) rfl (fun _ d _ _ _ h => by cases d <;> exact h) (fun w => y_move S rfl) ?_; clear S a; intro a S
      refine k_pure (listed' := #[true, true, true, false, false, false, false, false, false, false, false, false, false]) 2 S rfl rfl rfl rfl (by kernel_rfl) rfl (fun _ d _ _ _ h => by cases d <;> exact h) (fun w => y_move S rfl) ?_; clear S a; intro a S
      refine k_pure (listed' := #[true, true, true, true, false, false, false, false, false, false, false, false, false]) 3 S rfl rfl rfl rfl (by kernel_rfl) rfl (fun _ d _ _ _ h => by cases d <;> exact h) (fun w => y_to8 S rfl (by kernel_rfl) (by kernel_rfl)) ?_; clear S a; intro a S
      refine k_one (listed' := #[true, true, true, true, true, false, false, false, false, false, false, false, false]) 4 rfl (by kernel_rfl) rfl ?_
      refine st_call (xs := [(Operand.tmp 28), (Operand.const (Value.int IntKind.i64 0)), (Operand.tmp 30)]) S (enters_of Try.func15 (by decide) rfl) rfl rfl rfl (did_any _ 0 (byteOf (k : Int)) _) ?_
      rintro _ w6 ⟨rfl, hK⟩; refine ⟨_, rfl, ?_⟩; clear S a; intro a S; replace M := M.grow hK
      refine wpList_nil ?_; refine then_normal ?_; refine ⟨fun _ => hK, ?_⟩
      refine k_one (listed' := #[true, true, true, true, true, true, false, false, false, false, false, false, false]) 5 rfl (by kernel_rfl) rfl ?_
      refine st_call (xs := [(Operand.tmp 27), (Operand.tmp 31)]) S (enters_of Try.func10 (by decide) rfl) rfl rfl rfl (hearM_any (wkM k) ad (wkV k).length cp (wkV k) (didM k 0 (byteOf k)) none 0 0 [] _ (M.readAll 1 rfl (by unfold maxLen; omega)) (Rd.nil _ _ _ _)) ?_
      rintro _ w7 hP; rw [wkHear (by omega)] at hP; obtain ⟨ad2, cp2, lv2, l3, h3, l2, h2, rfl, M1⟩ := hP; refine ⟨_, rfl, ?_⟩; clear S a; intro a S
      have hK := M1.below
      replace M := M.join M1
      simp only [List.cons_append, List.nil_append] at M
      refine wpList_nil ?_; refine then_normal ?_; refine ⟨fun _ => hK, ?_⟩
      refine k_pure (listed' := #[true, true, true, true, true, true, true, false, false, false, false, false, false]) 6 S rfl rfl rfl rfl (by kernel_rfl) rfl (fun _ d _ _ _ h => by cases d <;> exact h) (fun w => y_move S rfl) ?_; clear S a; intro a S
      refine k_pure (listed' := #[true, true, true, true, true, true, true, true, false, false, false, false, false]) 7 S rfl rfl rfl rfl (by kernel_rfl) rfl (fun _ d _ _ _ h => by cases d <;> exact h) (fun w => y_extract S rfl rfl) ?_; clear S a; intro a S
      refine k_pure (listed' := #[true, true, true, true, true, true, true, true, true, false, false, false, false]) 8 S rfl rfl rfl rfl (by kernel_rfl) rfl (fun _ d _ _ _ h => by cases d <;> exact h) (fun w => y_extract S rfl rfl) ?_; clear S a; intro a S
      refine k_pure (listed' := #[true, true, true, true, true, true, true, true, true, true, false, false, false]) 9 S rfl rfl rfl rfl (by kernel_rfl) rfl (fun _ d _ _ _ h => by cases d <;> exact h) (fun w => y_extract S rfl rfl) ?_; clear S a; intro a S
      refine k_pure (listed' := #[true, true, true, true, true, true, true, true, true, true, true, false, false]) 10 S rfl rfl rfl rfl (by kernel_rfl) rfl (fun _ d _ _ _ h => by cases d <;> exact h) (fun w => y_extract S rfl rfl) ?_; clear S a; intro a S
      refine k_one (listed' := #[true, true, true, true, true, true, true, true, true, true, true, true, false]) 11 rfl (by kernel_rfl) rfl ?_
      refine st_store (sz := 9) (us := [_, _, _, _, _, _, _, _, _]) S M 2 rfl (by kernel_rfl) rfl rfl rfl rfl rfl rfl (by first | decide | (simp; done) | (simp; omega)) ?_; clear M; intro w8 M
      simp only [putL, List.set_cons_zero, List.set_cons_succ, Nat.reduceAdd] at M
      refine wpList_nil ?_; refine then_normal ?_; refine ⟨fun h => absurd h (by decide), ?_⟩
      refine k_pure (listed' := #[true, true, true, true, true, true, true, true, true, true, true, true, true]) 12 S rfl rfl rfl rfl (by kernel_rfl) rfl (fun _ d _ _ _ h => by cases d <;> exact h) (fun w => y_assign S rfl) ?_; clear S a; intro a S
      refine k_end (by kernel_rfl) ?_
      replace S := S.sub [(1, _), (2, _), (3, _), (5, _), (23, _), (4, _)] rfl
      refine block_normal ?_
      refine then_normal ?_
      -- region 5 law.go:29
      refine wp_region_lit ?_
      refine st_y S rfl rfl rfl (y_move S rfl) ?_; clear S a; intro a S
      (first | refine st_y S rfl rfl rfl (y_addN S rfl rfl (by omega)) ?_ | refine st_y S rfl rfl rfl (y_int S rfl rfl rfl) ?_); clear S a; intro a S
      refine st_y S rfl rfl rfl (y_assign S rfl) ?_; clear S a; intro a S
      refine wpList_nil ?_
      replace S := S.sub [(1, _), (2, _), (3, _), (23, _), (4, _), (5, _)] rfl
      refine then_normal ?_
      replace M := M.front 1 rfl
      simp only [List.eraseIdx_cons_succ, List.eraseIdx_cons_zero] at M
      replace M := M.front 2 rfl
      simp only [List.eraseIdx_cons_succ, List.eraseIdx_cons_zero] at M
      exact ⟨5 - (k + 1), by omega, k + 1, ad2, cp2, l2, h2, by omega, rfl, S.sub _ rfl, (M.drop 2).drop 2⟩
    · clear S; intro h23 S
      first | replace h23 := nrmA h23 | replace h23 := nrmB h23 | skip
      first | replace h23 := nrm1 h23 | replace h23 := nrm2 h23 | replace h23 := nrm3 h23 | replace h23 := nrm4 h23 | replace h23 := nrm5 h23 | replace h23 := nrm6 h23 | replace h23 := of_decide_eq_true h23 | replace h23 := of_decide_eq_false h23 | skip
      refine st_condF S rfl ?_
      refine wp_exit ?_
      refine then_exit ?_
      refine then_exit ?_
      refine block_hit ?_
      refine then_normal ?_
      refine wp_seq ?_
      -- region 7 law.go:32
      obtain rfl : k = 5 := by omega
      refine wp_region_lit ?_
      refine st_y S rfl rfl rfl (y_loadAgg (cs := [_, _, _, _, _, _, _, _, _]) S (by kernel_rfl) rfl rfl (M.cellsAt (k := 9) 0 rfl rfl)) ?_; clear S a; intro a S
      refine st_call (xs := [(Operand.tmp 37)]) S (enters_of Try.func12 (by decide) rfl) rfl rfl rfl (writesM_any (wkM 5) ad (wkV 5).length cp (wkV 5) _ (M.readAll 1 rfl (by unfold maxLen; omega))) ?_
      rintro _ w9 ⟨v', rfl, hF⟩; refine ⟨_, rfl, ?_⟩; clear S a; intro a S
      have hK := hF.below
      rw [wkWr] at hF
      obtain ⟨wb, wo, wcp, hE, -, -⟩ := (hF.rd (by unfold maxLen; decide)).place (by decide)
      subst hE
      obtain ⟨lo5, hi5, -, M⟩ := M.pushFresh hF
      refine st_y S rfl rfl rfl (y_assign S rfl) ?_; clear S a; intro a S
      refine wpList_nil ?_
      replace S := S.sub [(1, _), (2, _), (3, _), (4, _), (5, _), (23, _), (6, _)] rfl
      refine then_normal ?_
      refine wp_seq ?_
      -- region 8 law.go:33
      refine wp_region_lit ?_
      refine st_y S rfl rfl rfl (y_build (ps := []) (pl := [(0, 1), (1, 3), (4, 2), (6, 1), (7, 1), (8, 1)]) (z := [.int .i8 0, .int .i64 0, .int .i64 0, .int .i64 0, .int .i64 0, .int .i64 0, .int .i64 0, .int .i64 0, .slice none 0 0]) (cs := [_, _, _, _, _, _, _, _, _]) S (by kernel_rfl) rfl (rfl)) ?_; clear S a; intro a S
      refine st_y S rfl rfl rfl (y_build (ps := [(0, (Operand.const (Value.int IntKind.i64 2))), (1, (Operand.const (Value.int IntKind.i64 3)))]) (pl := [(0, 1), (1, 1)]) (z := [.int .i64 0, .int .i64 0]) (cs := [_, _]) S (by kernel_rfl) rfl (rfl)) ?_; clear S a; intro a S
      refine st_call (xs := []) S (enters_of Try.func14 (by decide) rfl) rfl rfl rfl (name25_any _) ?_
      rintro _ w10 ⟨rfl, hK⟩; refine ⟨_, rfl, ?_⟩; clear S a; intro a S; replace M := M.grow hK
      refine st_call (xs := [(Operand.tmp 40), (Operand.tmp 41), (Operand.const (Value.int IntKind.i64 1)), (Operand.tmp 42)]) S (enters_of Try.func6 (by decide) rfl) rfl rfl rfl (begin_any 2 3 1 nm25 _ wkWay) ?_
      rintro _ w11 ⟨lv3, l6, h6, rfl, M1⟩; refine ⟨_, rfl, ?_⟩; clear S a; intro a S
      have hK := M1.below
      replace M := M.join M1
      simp only [List.cons_append, List.nil_append] at M
      refine st_y S rfl rfl rfl (y_move S rfl) ?_; clear S a; intro a S
      refine st_y S rfl rfl rfl (y_extract S rfl rfl) ?_; clear S a; intro a S
      refine st_y S rfl rfl rfl (y_extract S rfl rfl) ?_; clear S a; intro a S
      refine st_y S rfl rfl rfl (y_extract S rfl rfl) ?_; clear S a; intro a S
      refine st_alloc S M rfl rfl #[.int .i8 0, .int .i64 0, .int .i64 0, .int .i64 0, .int .i64 0, .int .i64 0, .int .i64 0, .int .i64 0, .slice none 0 0] (by kernel_rfl) ?_; clear S M a; intro a w12 bP S M hB
      refine st_store (sz := 9) (us := [_, _, _, _, _, _, _, _, _]) S M 0 rfl (by kernel_rfl) rfl rfl rfl rfl rfl rfl (by first | decide | (simp; done) | (simp; omega)) ?_; clear M; intro w13 M
      simp only [putL, List.set_cons_zero, List.set_cons_succ, Nat.reduceAdd] at M
      refine st_y S rfl rfl rfl (y_assign S rfl) ?_; clear S a; intro a S
      refine st_y S rfl rfl rfl (y_assign S rfl) ?_; clear S a; intro a S
      refine wpList_nil ?_
      replace S := S.sub [(1, _), (2, _), (3, _), (4, _), (5, _), (23, _), (6, _), (7, _)] rfl
      refine then_normal ?_
      refine wp_seq ?_
      -- region 9 law.go:34
      refine wp_regionK [9] #[false, false, false, false, false, false, false, false, false, false, false, false, false] rfl M (by kernel_rfl) ?_; clear M; intro w14 M
      refine k_read (listed' := #[true, false, false, false, false, false, false, false, false, false, false, false, false]) 0 S rfl rfl rfl rfl (by kernel_rfl) rfl (fun _ d _ _ _ h => by cases d <;> exact h) (fun w hW => have M := M.grow hW; y_loadAgg (cs := [_, _, _, _, _, _, _, _, _]) S (by kernel_rfl) rfl rfl (M.cellsAt (k := 9) 0 rfl rfl)) ?_; clear S a; intro a S
      refine k_two (l1 := #[true, true, false, false, false, false, false, false, false, false, false, false, false]) (l2 := #[true, false, false, false, false, false, false, false, true, false, false, false, false]) 1 8 rfl rfl (by kernel_rfl) rfl rfl ?_ ?_
      · skip
        refine st_call (xs := [(Operand.const (Value.int IntKind.i64 1)), (Operand.const (Value.int IntKind.i64 120)), (Operand.const (Value.int IntKind.u8 0))]) S (enters_of Try.func15 (by decide) rfl) rfl rfl rfl (did_any 1 120 0 _) ?_
        rintro _ w15 ⟨rfl, hK⟩; refine ⟨_, rfl, ?_⟩; clear S a; intro a S; replace M := M.grow hK
        refine wpList_nil ?_; refine then_normal ?_; refine ⟨fun _ => hK, ?_⟩
        refine k_two (l1 := #[true, true, true, false, false, false, false, false, false, false, false, false, false]) (l2 := #[true, true, false, false, false, false, false, false, true, false, false, false, false]) 2 8 rfl rfl (by kernel_rfl) rfl rfl ?_ ?_
        · skip
          refine st_call (xs := [(Operand.tmp 48), (Operand.tmp 49)]) S (enters_of Try.func10 (by decide) rfl) rfl rfl rfl (hearM_any (begunM 2 3 1 nm25) none 0 0 [] (didM 1 120 0) none 0 0 [] _ (Rd.nil _ _ _ _) (Rd.nil _ _ _ _)) ?_
          rintro _ w16 hP; rw [wkBad] at hP; obtain ⟨ad7, cp7, lv7, l7, h7, l8, h8, rfl, M1⟩ := hP; refine ⟨_, rfl, ?_⟩; clear S a; intro a S
          have hK := M1.below
          replace M := M.join M1
          simp only [List.cons_append, List.nil_append] at M
          refine wpList_nil ?_; refine then_normal ?_; refine ⟨fun _ => hK, ?_⟩
          refine k_pure (listed' := #[true, true, true, true, false, false, false, false, false, false, false, false, false]) 3 S rfl rfl rfl rfl (by kernel_rfl) rfl (fun _ d _ _ _ h => by cases d <;> exact h) (fun w => y_move S rfl) ?_; clear S a; intro a S
          refine k_pure (listed' := #[true, true, true, true, true, false, false, false, false, false, false, false, false]) 4 S rfl rfl rfl rfl (by kernel_rfl) rfl (fun _ d _ _ _ h => by cases d <;> exact h) (fun w => y_extract S rfl rfl) ?_; clear S a; intro a S
          refine k_pure (listed' := #[true, true, true, true, true, true, false, false, false, false, false, false, false]) 5 S rfl rfl rfl rfl (by kernel_rfl) rfl (fun _ d _ _ _ h => by cases d <;> exact h) (fun w => y_extract S rfl rfl) ?_; clear S a; intro a S
          refine k_pure (listed' := #[true, true, true, true, true, true, true, false, false, false, false, false, false]) 6 S rfl rfl rfl rfl (by kernel_rfl) rfl (fun _ d _ _ _ h => by cases d <;> exact h) (fun w => y_extract S rfl rfl) ?_; clear S a; intro a S
          refine k_pure (listed' := #[true, true, true, true, true, true, true, true, false, false, false, false, false]) 7 S rfl rfl rfl rfl (by kernel_rfl) rfl (fun _ d _ _ _ h => by cases d <;> exact h) (fun w => y_extract S rfl rfl) ?_; clear S a; intro a S
          refine k_one (listed' := #[true, true, true, true, true, true, true, true, true, false, false, false, false]) 8 rfl (by kernel_rfl) rfl ?_
          refine st_alloc S M rfl rfl #[.int .i8 0, .int .i64 0, .int .i64 0, .int .i64 0, .int .i64 0, .int .i64 0, .int .i64 0, .int .i64 0, .slice none 0 0] (by kernel_rfl) ?_; clear S M a; intro a w17 bQ S M hB
          refine wpList_nil ?_; refine then_normal ?_; refine ⟨fun _ => hB, ?_⟩
          refine k_one (listed' := #[true, true, true, true, true, true, true, true, true, true, false, false, false]) 9 rfl (by kernel_rfl) rfl ?_
          refine st_store (sz := 9) (us := [_, _, _, _, _, _, _, _, _]) S M 0 rfl (by kernel_rfl) rfl rfl rfl rfl rfl rfl (by first | decide | (simp; done) | (simp; omega)) ?_; clear M; intro w18 M
          simp only [putL, List.set_cons_zero, List.set_cons_succ, Nat.reduceAdd] at M
          refine wpList_nil ?_; refine then_normal ?_; refine ⟨fun h => absurd h (by decide), ?_⟩
          refine k_pure (listed' := #[true, true, true, true, true, true, true, true, true, true, true, false, false]) 10 S rfl rfl rfl rfl (by kernel_rfl) rfl (fun _ d _ _ _ h => by cases d <;> exact h) (fun w => y_assign S rfl) ?_; clear S a; intro a S
          refine k_pure (listed' := #[true, true, true, true, true, true, true, true, true, true, true, true, false]) 11 S rfl rfl rfl rfl (by kernel_rfl) rfl (fun _ d _ _ _ h => by cases d <;> exact h) (fun w => y_assign S rfl) ?_; clear S a; intro a S
          refine k_pure (listed' := #[true, true, true, true, true, true, true, true, true, true, true, true, true]) 12 S rfl rfl rfl rfl (by kernel_rfl) rfl (fun _ d _ _ _ h => by cases d <;> exact h) (fun w => y_assign S rfl) ?_; clear S a; intro a S
          refine k_end (by kernel_rfl) ?_
          replace S := S.sub [(1, _), (2, _), (3, _), (4, _), (5, _), (23, _), (6, _), (7, _), (12, _), (13, _)] rfl
          refine then_normal ?_
          refine wp_seq ?_
          -- region 10 law.go:35
          refine wp_region_lit ?_
          refine st_y S rfl rfl rfl (y_move S rfl) ?_; clear S a; intro a S
          refine st_y S rfl rfl rfl (y_int S rfl rfl rfl) ?_; clear S a; intro a S
          refine st_y S rfl rfl rfl (y_move S rfl) ?_; clear S a; intro a S
          refine st_split (t := 57) S rfl ?_ ?_
          · clear S; intro h57 S
            first | replace h57 := nrmA h57 | replace h57 := nrmB h57 | skip
            first | replace h57 := nrm1 h57 | replace h57 := nrm2 h57 | replace h57 := nrm3 h57 | replace h57 := nrm4 h57 | replace h57 := nrm5 h57 | replace h57 := nrm6 h57 | replace h57 := of_decide_eq_true h57 | replace h57 := of_decide_eq_false h57 | skip
            refine st_y S rfl rfl rfl (y_move S rfl) ?_; clear S a; intro a S
            refine st_y S rfl rfl rfl (y_lenS (E := 39) S rfl (by kernel_rfl)) ?_; clear S a; intro a S
            refine st_y S rfl rfl rfl (y_int S rfl rfl rfl) ?_; clear S a; intro a S
            refine st_y S rfl rfl rfl (y_pickT S rfl rfl) ?_; clear S a; intro a S
            refine st_y S rfl rfl rfl (y_move S rfl) ?_; clear S a; intro a S
            refine st_split (t := 62) S rfl ?_ ?_
            · clear S; intro h62 S
              first | replace h62 := nrmA h62 | replace h62 := nrmB h62 | skip
              first | replace h62 := nrm1 h62 | replace h62 := nrm2 h62 | replace h62 := nrm3 h62 | replace h62 := nrm4 h62 | replace h62 := nrm5 h62 | replace h62 := nrm6 h62 | replace h62 := of_decide_eq_true h62 | replace h62 := of_decide_eq_false h62 | skip
              refine st_y S rfl rfl rfl (y_move S rfl) ?_; clear S a; intro a S
              refine st_y S rfl rfl rfl (y_indexS (e := 39) (sz := 24) S (by kernel_rfl) rfl rfl (by first | omega | (simp; done) | (simp; omega))) ?_; clear S a; intro a S
              refine st_y S rfl rfl rfl (y_fieldAddr (k := 10) S (by kernel_rfl) rfl) ?_; clear S a; intro a S
              refine st_y S rfl rfl rfl (y_load S (by kernel_rfl) rfl ((M.readRow 8 rfl (by unfold maxLen; omega)).cellAt (j := 10) rfl)) ?_; clear S a; intro a S
              refine st_y S rfl rfl rfl (y_int S rfl rfl rfl) ?_; clear S a; intro a S
              refine st_y S rfl rfl rfl (y_pickT S rfl rfl) ?_; clear S a; intro a S
              refine st_y S rfl rfl rfl (y_move S rfl) ?_; clear S a; intro a S
              refine st_split (t := 69) S rfl ?_ ?_
              · clear S; intro h69 S
                first | replace h69 := nrmA h69 | replace h69 := nrmB h69 | skip
                first | replace h69 := nrm1 h69 | replace h69 := nrm2 h69 | replace h69 := nrm3 h69 | replace h69 := nrm4 h69 | replace h69 := nrm5 h69 | replace h69 := nrm6 h69 | replace h69 := of_decide_eq_true h69 | replace h69 := of_decide_eq_false h69 | skip
                refine st_y S rfl rfl rfl (y_move S rfl) ?_; clear S a; intro a S
                refine st_y S rfl rfl rfl (y_indexS (e := 39) (sz := 24) S (by kernel_rfl) rfl rfl (by first | omega | (simp; done) | (simp; omega))) ?_; clear S a; intro a S
                refine st_y S rfl rfl rfl (y_fieldAddr (k := 9) S (by kernel_rfl) rfl) ?_; clear S a; intro a S
                refine st_y S rfl rfl rfl (y_load S (by kernel_rfl) rfl ((M.readRow 8 rfl (by unfold maxLen; omega)).cellAt (j := 9) rfl)) ?_; clear S a; intro a S
                refine st_y S rfl rfl rfl (y_int S rfl rfl rfl) ?_; clear S a; intro a S
                refine st_y S rfl rfl rfl (y_pickT S rfl rfl) ?_; clear S a; intro a S
                refine st_y S rfl rfl rfl (y_move S rfl) ?_; clear S a; intro a S
                refine st_split (t := 76) S rfl ?_ ?_
                · clear S; intro h76 S
                  first | replace h76 := nrmA h76 | replace h76 := nrmB h76 | skip
                  first | replace h76 := nrm1 h76 | replace h76 := nrm2 h76 | replace h76 := nrm3 h76 | replace h76 := nrm4 h76 | replace h76 := nrm5 h76 | replace h76 := nrm6 h76 | replace h76 := of_decide_eq_true h76 | replace h76 := of_decide_eq_false h76 | skip
                  refine st_y S rfl rfl rfl (y_move S rfl) ?_; clear S a; intro a S
                  refine st_y S rfl rfl rfl (y_int S rfl rfl rfl) ?_; clear S a; intro a S
                  refine st_y S rfl rfl rfl (y_pickT S rfl rfl) ?_; clear S a; intro a S
                  refine st_y S rfl rfl rfl (y_move S rfl) ?_; clear S a; intro a S
                  refine st_split (t := 80) S rfl ?_ ?_
                  · clear S; intro h80 S
                    first | replace h80 := nrmA h80 | replace h80 := nrmB h80 | skip
                    first | replace h80 := nrm1 h80 | replace h80 := nrm2 h80 | replace h80 := nrm3 h80 | replace h80 := nrm4 h80 | replace h80 := nrm5 h80 | replace h80 := nrm6 h80 | replace h80 := of_decide_eq_true h80 | replace h80 := of_decide_eq_false h80 | skip
                    refine st_y S rfl rfl rfl (y_move S rfl) ?_; clear S a; intro a S
                    refine st_y S rfl rfl rfl (y_lenS (E := 48) S rfl (by kernel_rfl)) ?_; clear S a; intro a S
                    refine st_y S rfl rfl rfl (y_int S rfl rfl rfl) ?_; clear S a; intro a S
                    refine st_y S rfl rfl rfl (y_pickT S rfl rfl) ?_; clear S a; intro a S
                    refine st_y S rfl rfl rfl (y_move S rfl) ?_; clear S a; intro a S
                    refine st_split (t := 85) S rfl ?_ ?_
                    · clear S; intro h85 S
                      first | replace h85 := nrmA h85 | replace h85 := nrmB h85 | skip
                      first | replace h85 := nrm1 h85 | replace h85 := nrm2 h85 | replace h85 := nrm3 h85 | replace h85 := nrm4 h85 | replace h85 := nrm5 h85 | replace h85 := nrm6 h85 | replace h85 := of_decide_eq_true h85 | replace h85 := of_decide_eq_false h85 | skip
                      refine st_y S rfl rfl rfl (y_move S rfl) ?_; clear S a; intro a S
                      refine st_y S rfl rfl rfl (y_indexS (e := 48) (sz := 9) S (by kernel_rfl) rfl rfl (by first | omega | (simp; done) | (simp; omega))) ?_; clear S a; intro a S
                      refine st_y S rfl rfl rfl (y_fieldAddr (k := 0) S (by kernel_rfl) rfl) ?_; clear S a; intro a S
                      refine st_y S rfl rfl rfl (y_load S (by kernel_rfl) rfl ((M.readRow 5 rfl (by unfold maxLen; decide)).cellAt (j := 9) rfl)) ?_; clear S a; intro a S
                      refine st_y S rfl rfl rfl (y_int S rfl rfl rfl) ?_; clear S a; intro a S
                      refine st_y S rfl rfl rfl (y_pickT S rfl rfl) ?_; clear S a; intro a S
                      refine st_y S rfl rfl rfl (y_move S rfl) ?_; clear S a; intro a S
                      refine st_split (t := 92) S rfl ?_ ?_
                      · clear S; intro h92 S
                        first | replace h92 := nrmA h92 | replace h92 := nrmB h92 | skip
                        first | replace h92 := nrm1 h92 | replace h92 := nrm2 h92 | replace h92 := nrm3 h92 | replace h92 := nrm4 h92 | replace h92 := nrm5 h92 | replace h92 := nrm6 h92 | replace h92 := of_decide_eq_true h92 | replace h92 := of_decide_eq_false h92 | skip
                        refine st_y S rfl rfl rfl (y_move S rfl) ?_; clear S a; intro a S
                        refine st_y S rfl rfl rfl (y_indexS (e := 48) (sz := 9) S (by kernel_rfl) rfl rfl (by first | omega | (simp; done) | (simp; omega))) ?_; clear S a; intro a S
                        refine st_y S rfl rfl rfl (y_fieldAddr (k := 1) S (by kernel_rfl) rfl) ?_; clear S a; intro a S
                        refine st_y S rfl rfl rfl (y_indexA (m := 8) (sz := 1) S (by kernel_rfl) rfl rfl (by first | omega | (simp; done) | (simp; omega))) ?_; clear S a; intro a S
                        refine st_y S rfl rfl rfl (y_load S (by kernel_rfl) rfl ((M.readRow 5 rfl (by unfold maxLen; decide)).cellAt (j := 10) rfl)) ?_; clear S a; intro a S
                        refine st_y S rfl rfl rfl (y_int S rfl rfl rfl) ?_; clear S a; intro a S
                        refine st_y S rfl rfl rfl (y_pickT S rfl rfl) ?_; clear S a; intro a S
                        refine st_y S rfl rfl rfl (y_move S rfl) ?_; clear S a; intro a S
                        refine st_split (t := 100) S rfl ?_ ?_
                        · clear S; intro h100 S
                          first | replace h100 := nrmA h100 | replace h100 := nrmB h100 | skip
                          first | replace h100 := nrm1 h100 | replace h100 := nrm2 h100 | replace h100 := nrm3 h100 | replace h100 := nrm4 h100 | replace h100 := nrm5 h100 | replace h100 := nrm6 h100 | replace h100 := of_decide_eq_true h100 | replace h100 := of_decide_eq_false h100 | skip
                          refine st_y S rfl rfl rfl (y_move S rfl) ?_; clear S a; intro a S
                          refine st_y S rfl rfl rfl (y_int S rfl rfl rfl) ?_; clear S a; intro a S
                          refine st_y S rfl rfl rfl (y_pickT S rfl rfl) ?_; clear S a; intro a S
                          refine st_y S rfl rfl rfl (y_move S rfl) ?_; clear S a; intro a S
                          refine st_split (t := 104) S rfl ?_ ?_
                          · clear S; intro h104 S
                            first | replace h104 := nrmA h104 | replace h104 := nrmB h104 | skip
                            first | replace h104 := nrm1 h104 | replace h104 := nrm2 h104 | replace h104 := nrm3 h104 | replace h104 := nrm4 h104 | replace h104 := nrm5 h104 | replace h104 := nrm6 h104 | replace h104 := of_decide_eq_true h104 | replace h104 := of_decide_eq_false h104 | skip
                            refine st_y S rfl rfl rfl (y_move S rfl) ?_; clear S a; intro a S
                            refine st_y S rfl rfl rfl (y_int S rfl rfl rfl) ?_; clear S a; intro a S
                            refine st_y S rfl rfl rfl (y_pickT S rfl rfl) ?_; clear S a; intro a S
                            refine st_y S rfl rfl rfl (y_assign S rfl) ?_; clear S a; intro a S
                            refine wpList_nil ?_
                            replace S := S.sub [(1, _), (2, _), (3, _), (4, _), (5, _), (23, _), (6, _), (7, _), (12, _), (13, _), (0, _)] rfl
                            refine then_normal ?_
                            refine wp_ret ?_
                            refine end_one S rfl (res_tmp rfl) ?_
                            exact ⟨rfl, M.below⟩
                          · clear S; intro h104 S
                            first | replace h104 := nrmA h104 | replace h104 := nrmB h104 | skip
                            first | replace h104 := nrm1 h104 | replace h104 := nrm2 h104 | replace h104 := nrm3 h104 | replace h104 := nrm4 h104 | replace h104 := nrm5 h104 | replace h104 := nrm6 h104 | replace h104 := of_decide_eq_true h104 | replace h104 := of_decide_eq_false h104 | skip
                            first | (simp at h104; done) | exact absurd (by decide) h104
                        · clear S; intro h100 S
                          first | replace h100 := nrmA h100 | replace h100 := nrmB h100 | skip
                          first | replace h100 := nrm1 h100 | replace h100 := nrm2 h100 | replace h100 := nrm3 h100 | replace h100 := nrm4 h100 | replace h100 := nrm5 h100 | replace h100 := nrm6 h100 | replace h100 := of_decide_eq_true h100 | replace h100 := of_decide_eq_false h100 | skip
                          first | (simp at h100; done) | exact absurd (by decide) h100
                      · clear S; intro h92 S
                        first | replace h92 := nrmA h92 | replace h92 := nrmB h92 | skip
                        first | replace h92 := nrm1 h92 | replace h92 := nrm2 h92 | replace h92 := nrm3 h92 | replace h92 := nrm4 h92 | replace h92 := nrm5 h92 | replace h92 := nrm6 h92 | replace h92 := of_decide_eq_true h92 | replace h92 := of_decide_eq_false h92 | skip
                        first | (simp at h92; done) | exact absurd (by decide) h92
                    · clear S; intro h85 S
                      first | replace h85 := nrmA h85 | replace h85 := nrmB h85 | skip
                      first | replace h85 := nrm1 h85 | replace h85 := nrm2 h85 | replace h85 := nrm3 h85 | replace h85 := nrm4 h85 | replace h85 := nrm5 h85 | replace h85 := nrm6 h85 | replace h85 := of_decide_eq_true h85 | replace h85 := of_decide_eq_false h85 | skip
                      first | (simp at h85; done) | exact absurd (by decide) h85
                  · clear S; intro h80 S
                    first | replace h80 := nrmA h80 | replace h80 := nrmB h80 | skip
                    first | replace h80 := nrm1 h80 | replace h80 := nrm2 h80 | replace h80 := nrm3 h80 | replace h80 := nrm4 h80 | replace h80 := nrm5 h80 | replace h80 := nrm6 h80 | replace h80 := of_decide_eq_true h80 | replace h80 := of_decide_eq_false h80 | skip
                    first | (simp at h80; done) | exact absurd (by decide) h80
                · clear S; intro h76 S
                  first | replace h76 := nrmA h76 | replace h76 := nrmB h76 | skip
                  first | replace h76 := nrm1 h76 | replace h76 := nrm2 h76 | replace h76 := nrm3 h76 | replace h76 := nrm4 h76 | replace h76 := nrm5 h76 | replace h76 := nrm6 h76 | replace h76 := of_decide_eq_true h76 | replace h76 := of_decide_eq_false h76 | skip
                  first | (simp at h76; done) | exact absurd (by decide) h76
              · clear S; intro h69 S
                first | replace h69 := nrmA h69 | replace h69 := nrmB h69 | skip
                first | replace h69 := nrm1 h69 | replace h69 := nrm2 h69 | replace h69 := nrm3 h69 | replace h69 := nrm4 h69 | replace h69 := nrm5 h69 | replace h69 := nrm6 h69 | replace h69 := of_decide_eq_true h69 | replace h69 := of_decide_eq_false h69 | skip
                first | (simp at h69; done) | exact absurd (by decide) h69
            · clear S; intro h62 S
              first | replace h62 := nrmA h62 | replace h62 := nrmB h62 | skip
              first | replace h62 := nrm1 h62 | replace h62 := nrm2 h62 | replace h62 := nrm3 h62 | replace h62 := nrm4 h62 | replace h62 := nrm5 h62 | replace h62 := nrm6 h62 | replace h62 := of_decide_eq_true h62 | replace h62 := of_decide_eq_false h62 | skip
              first | (simp at h62; done) | exact absurd (by decide) h62
          · clear S; intro h57 S
            first | replace h57 := nrmA h57 | replace h57 := nrmB h57 | skip
            first | replace h57 := nrm1 h57 | replace h57 := nrm2 h57 | replace h57 := nrm3 h57 | replace h57 := nrm4 h57 | replace h57 := nrm5 h57 | replace h57 := nrm6 h57 | replace h57 := of_decide_eq_true h57 | replace h57 := of_decide_eq_false h57 | skip
            first | (simp at h57; done) | exact absurd (by decide) h57
        · skip
          refine st_alloc S M rfl rfl #[.int .i8 0, .int .i64 0, .int .i64 0, .int .i64 0, .int .i64 0, .int .i64 0, .int .i64 0, .int .i64 0, .slice none 0 0] (by kernel_rfl) ?_; clear S M a; intro a w19 bQ S M hB
          refine wpList_nil ?_; refine then_normal ?_; refine ⟨fun _ => hB, ?_⟩
          refine k_one (listed' := #[true, true, true, false, false, false, false, false, true, false, false, false, false]) 2 rfl (by kernel_rfl) rfl ?_
          refine st_call (xs := [(Operand.tmp 48), (Operand.tmp 49)]) S (enters_of Try.func10 (by decide) rfl) rfl rfl rfl (hearM_any (begunM 2 3 1 nm25) none 0 0 [] (didM 1 120 0) none 0 0 [] _ (Rd.nil _ _ _ _) (Rd.nil _ _ _ _)) ?_
          rintro _ w20 hP; rw [wkBad] at hP; obtain ⟨ad7, cp7, lv7, l7, h7, l8, h8, rfl, M1⟩ := hP; refine ⟨_, rfl, ?_⟩; clear S a; intro a S
          have hK := M1.below
          replace M := M.join M1
          simp only [List.cons_append, List.nil_append] at M
          refine wpList_nil ?_; refine then_normal ?_; refine ⟨fun _ => hK, ?_⟩
          refine k_pure (listed' := #[true, true, true, true, false, false, false, false, true, false, false, false, false]) 3 S rfl rfl rfl rfl (by kernel_rfl) rfl (fun _ d _ _ _ h => by cases d <;> exact h) (fun w => y_move S rfl) ?_; clear S a; intro a S
          refine k_pure (listed' := #[true, true, true, true, true, false, false, false, true, false, false, false, false]) 4 S rfl rfl rfl rfl (by kernel_rfl) rfl (fun _ d _ _ _ h => by cases d <;> exact h) (fun w => y_extract S rfl rfl) ?_; clear S a; intro a S
          refine k_pure (listed' := #[true, true, true, true, true, true, false, false, true, false, false, false, false]) 5 S rfl rfl rfl rfl (by kernel_rfl) rfl (fun _ d _ _ _ h => by cases d <;> exact h) (fun w => y_extract S rfl rfl) ?_; clear S a; intro a S
          refine k_pure (listed' := #[true, true, true, true, true, true, true, false, true, false, false, false, false]) 6 S rfl rfl rfl rfl (by kernel_rfl) rfl (fun _ d _ _ _ h => by cases d <;> exact h) (fun w => y_extract S rfl rfl) ?_; clear S a; intro a S
          refine k_pure (listed' := #[true, true, true, true, true, true, true, true, true, false, false, false, false]) 7 S rfl rfl rfl rfl (by kernel_rfl) rfl (fun _ d _ _ _ h => by cases d <;> exact h) (fun w => y_extract S rfl rfl) ?_; clear S a; intro a S
          refine k_one (listed' := #[true, true, true, true, true, true, true, true, true, true, false, false, false]) 9 rfl (by kernel_rfl) rfl ?_
          refine st_store (sz := 9) (us := [_, _, _, _, _, _, _, _, _]) S M 2 rfl (by kernel_rfl) rfl rfl rfl rfl rfl rfl (by first | decide | (simp; done) | (simp; omega)) ?_; clear M; intro w21 M
          simp only [putL, List.set_cons_zero, List.set_cons_succ, Nat.reduceAdd] at M
          refine wpList_nil ?_; refine then_normal ?_; refine ⟨fun h => absurd h (by decide), ?_⟩
          refine k_pure (listed' := #[true, true, true, true, true, true, true, true, true, true, true, false, false]) 10 S rfl rfl rfl rfl (by kernel_rfl) rfl (fun _ d _ _ _ h => by cases d <;> exact h) (fun w => y_assign S rfl) ?_; clear S a; intro a S
          refine k_pure (listed' := #[true, true, true, true, true, true, true, true, true, true, true, true, false]) 11 S rfl rfl rfl rfl (by kernel_rfl) rfl (fun _ d _ _ _ h => by cases d <;> exact h) (fun w => y_assign S rfl) ?_; clear S a; intro a S
          refine k_pure (listed' := #[true, true, true, true, true, true, true, true, true, true, true, true, true]) 12 S rfl rfl rfl rfl (by kernel_rfl) rfl (fun _ d _ _ _ h => by cases d <;> exact h) (fun w => y_assign S rfl) ?_; clear S a; intro a S
          refine k_end (by kernel_rfl) ?_
          replace S := S.sub [(1, _), (2, _), (3, _), (4, _), (5, _), (23, _), (6, _), (7, _), (12, _), (13, _)] rfl
          refine then_normal ?_
          refine wp_seq ?_
          -- region 10 law.go:35
          refine wp_region_lit ?_
          refine st_y S rfl rfl rfl (y_move S rfl) ?_; clear S a; intro a S
          refine st_y S rfl rfl rfl (y_int S rfl rfl rfl) ?_; clear S a; intro a S
          refine st_y S rfl rfl rfl (y_move S rfl) ?_; clear S a; intro a S
          refine st_split (t := 57) S rfl ?_ ?_
          · clear S; intro h57 S
            first | replace h57 := nrmA h57 | replace h57 := nrmB h57 | skip
            first | replace h57 := nrm1 h57 | replace h57 := nrm2 h57 | replace h57 := nrm3 h57 | replace h57 := nrm4 h57 | replace h57 := nrm5 h57 | replace h57 := nrm6 h57 | replace h57 := of_decide_eq_true h57 | replace h57 := of_decide_eq_false h57 | skip
            refine st_y S rfl rfl rfl (y_move S rfl) ?_; clear S a; intro a S
            refine st_y S rfl rfl rfl (y_lenS (E := 39) S rfl (by kernel_rfl)) ?_; clear S a; intro a S
            refine st_y S rfl rfl rfl (y_int S rfl rfl rfl) ?_; clear S a; intro a S
            refine st_y S rfl rfl rfl (y_pickT S rfl rfl) ?_; clear S a; intro a S
            refine st_y S rfl rfl rfl (y_move S rfl) ?_; clear S a; intro a S
            refine st_split (t := 62) S rfl ?_ ?_
            · clear S; intro h62 S
              first | replace h62 := nrmA h62 | replace h62 := nrmB h62 | skip
              first | replace h62 := nrm1 h62 | replace h62 := nrm2 h62 | replace h62 := nrm3 h62 | replace h62 := nrm4 h62 | replace h62 := nrm5 h62 | replace h62 := nrm6 h62 | replace h62 := of_decide_eq_true h62 | replace h62 := of_decide_eq_false h62 | skip
              refine st_y S rfl rfl rfl (y_move S rfl) ?_; clear S a; intro a S
              refine st_y S rfl rfl rfl (y_indexS (e := 39) (sz := 24) S (by kernel_rfl) rfl rfl (by first | omega | (simp; done) | (simp; omega))) ?_; clear S a; intro a S
              refine st_y S rfl rfl rfl (y_fieldAddr (k := 10) S (by kernel_rfl) rfl) ?_; clear S a; intro a S
              refine st_y S rfl rfl rfl (y_load S (by kernel_rfl) rfl ((M.readRow 8 rfl (by unfold maxLen; omega)).cellAt (j := 10) rfl)) ?_; clear S a; intro a S
              refine st_y S rfl rfl rfl (y_int S rfl rfl rfl) ?_; clear S a; intro a S
              refine st_y S rfl rfl rfl (y_pickT S rfl rfl) ?_; clear S a; intro a S
              refine st_y S rfl rfl rfl (y_move S rfl) ?_; clear S a; intro a S
              refine st_split (t := 69) S rfl ?_ ?_
              · clear S; intro h69 S
                first | replace h69 := nrmA h69 | replace h69 := nrmB h69 | skip
                first | replace h69 := nrm1 h69 | replace h69 := nrm2 h69 | replace h69 := nrm3 h69 | replace h69 := nrm4 h69 | replace h69 := nrm5 h69 | replace h69 := nrm6 h69 | replace h69 := of_decide_eq_true h69 | replace h69 := of_decide_eq_false h69 | skip
                refine st_y S rfl rfl rfl (y_move S rfl) ?_; clear S a; intro a S
                refine st_y S rfl rfl rfl (y_indexS (e := 39) (sz := 24) S (by kernel_rfl) rfl rfl (by first | omega | (simp; done) | (simp; omega))) ?_; clear S a; intro a S
                refine st_y S rfl rfl rfl (y_fieldAddr (k := 9) S (by kernel_rfl) rfl) ?_; clear S a; intro a S
                refine st_y S rfl rfl rfl (y_load S (by kernel_rfl) rfl ((M.readRow 8 rfl (by unfold maxLen; omega)).cellAt (j := 9) rfl)) ?_; clear S a; intro a S
                refine st_y S rfl rfl rfl (y_int S rfl rfl rfl) ?_; clear S a; intro a S
                refine st_y S rfl rfl rfl (y_pickT S rfl rfl) ?_; clear S a; intro a S
                refine st_y S rfl rfl rfl (y_move S rfl) ?_; clear S a; intro a S
                refine st_split (t := 76) S rfl ?_ ?_
                · clear S; intro h76 S
                  first | replace h76 := nrmA h76 | replace h76 := nrmB h76 | skip
                  first | replace h76 := nrm1 h76 | replace h76 := nrm2 h76 | replace h76 := nrm3 h76 | replace h76 := nrm4 h76 | replace h76 := nrm5 h76 | replace h76 := nrm6 h76 | replace h76 := of_decide_eq_true h76 | replace h76 := of_decide_eq_false h76 | skip
                  refine st_y S rfl rfl rfl (y_move S rfl) ?_; clear S a; intro a S
                  refine st_y S rfl rfl rfl (y_int S rfl rfl rfl) ?_; clear S a; intro a S
                  refine st_y S rfl rfl rfl (y_pickT S rfl rfl) ?_; clear S a; intro a S
                  refine st_y S rfl rfl rfl (y_move S rfl) ?_; clear S a; intro a S
                  refine st_split (t := 80) S rfl ?_ ?_
                  · clear S; intro h80 S
                    first | replace h80 := nrmA h80 | replace h80 := nrmB h80 | skip
                    first | replace h80 := nrm1 h80 | replace h80 := nrm2 h80 | replace h80 := nrm3 h80 | replace h80 := nrm4 h80 | replace h80 := nrm5 h80 | replace h80 := nrm6 h80 | replace h80 := of_decide_eq_true h80 | replace h80 := of_decide_eq_false h80 | skip
                    refine st_y S rfl rfl rfl (y_move S rfl) ?_; clear S a; intro a S
                    refine st_y S rfl rfl rfl (y_lenS (E := 48) S rfl (by kernel_rfl)) ?_; clear S a; intro a S
                    refine st_y S rfl rfl rfl (y_int S rfl rfl rfl) ?_; clear S a; intro a S
                    refine st_y S rfl rfl rfl (y_pickT S rfl rfl) ?_; clear S a; intro a S
                    refine st_y S rfl rfl rfl (y_move S rfl) ?_; clear S a; intro a S
                    refine st_split (t := 85) S rfl ?_ ?_
                    · clear S; intro h85 S
                      first | replace h85 := nrmA h85 | replace h85 := nrmB h85 | skip
                      first | replace h85 := nrm1 h85 | replace h85 := nrm2 h85 | replace h85 := nrm3 h85 | replace h85 := nrm4 h85 | replace h85 := nrm5 h85 | replace h85 := nrm6 h85 | replace h85 := of_decide_eq_true h85 | replace h85 := of_decide_eq_false h85 | skip
                      refine st_y S rfl rfl rfl (y_move S rfl) ?_; clear S a; intro a S
                      refine st_y S rfl rfl rfl (y_indexS (e := 48) (sz := 9) S (by kernel_rfl) rfl rfl (by first | omega | (simp; done) | (simp; omega))) ?_; clear S a; intro a S
                      refine st_y S rfl rfl rfl (y_fieldAddr (k := 0) S (by kernel_rfl) rfl) ?_; clear S a; intro a S
                      refine st_y S rfl rfl rfl (y_load S (by kernel_rfl) rfl ((M.readRow 5 rfl (by unfold maxLen; decide)).cellAt (j := 9) rfl)) ?_; clear S a; intro a S
                      refine st_y S rfl rfl rfl (y_int S rfl rfl rfl) ?_; clear S a; intro a S
                      refine st_y S rfl rfl rfl (y_pickT S rfl rfl) ?_; clear S a; intro a S
                      refine st_y S rfl rfl rfl (y_move S rfl) ?_; clear S a; intro a S
                      refine st_split (t := 92) S rfl ?_ ?_
                      · clear S; intro h92 S
                        first | replace h92 := nrmA h92 | replace h92 := nrmB h92 | skip
                        first | replace h92 := nrm1 h92 | replace h92 := nrm2 h92 | replace h92 := nrm3 h92 | replace h92 := nrm4 h92 | replace h92 := nrm5 h92 | replace h92 := nrm6 h92 | replace h92 := of_decide_eq_true h92 | replace h92 := of_decide_eq_false h92 | skip
                        refine st_y S rfl rfl rfl (y_move S rfl) ?_; clear S a; intro a S
                        refine st_y S rfl rfl rfl (y_indexS (e := 48) (sz := 9) S (by kernel_rfl) rfl rfl (by first | omega | (simp; done) | (simp; omega))) ?_; clear S a; intro a S
                        refine st_y S rfl rfl rfl (y_fieldAddr (k := 1) S (by kernel_rfl) rfl) ?_; clear S a; intro a S
                        refine st_y S rfl rfl rfl (y_indexA (m := 8) (sz := 1) S (by kernel_rfl) rfl rfl (by first | omega | (simp; done) | (simp; omega))) ?_; clear S a; intro a S
                        refine st_y S rfl rfl rfl (y_load S (by kernel_rfl) rfl ((M.readRow 5 rfl (by unfold maxLen; decide)).cellAt (j := 10) rfl)) ?_; clear S a; intro a S
                        refine st_y S rfl rfl rfl (y_int S rfl rfl rfl) ?_; clear S a; intro a S
                        refine st_y S rfl rfl rfl (y_pickT S rfl rfl) ?_; clear S a; intro a S
                        refine st_y S rfl rfl rfl (y_move S rfl) ?_; clear S a; intro a S
                        refine st_split (t := 100) S rfl ?_ ?_
                        · clear S; intro h100 S
                          first | replace h100 := nrmA h100 | replace h100 := nrmB h100 | skip
                          first | replace h100 := nrm1 h100 | replace h100 := nrm2 h100 | replace h100 := nrm3 h100 | replace h100 := nrm4 h100 | replace h100 := nrm5 h100 | replace h100 := nrm6 h100 | replace h100 := of_decide_eq_true h100 | replace h100 := of_decide_eq_false h100 | skip
                          refine st_y S rfl rfl rfl (y_move S rfl) ?_; clear S a; intro a S
                          refine st_y S rfl rfl rfl (y_int S rfl rfl rfl) ?_; clear S a; intro a S
                          refine st_y S rfl rfl rfl (y_pickT S rfl rfl) ?_; clear S a; intro a S
                          refine st_y S rfl rfl rfl (y_move S rfl) ?_; clear S a; intro a S
                          refine st_split (t := 104) S rfl ?_ ?_
                          · clear S; intro h104 S
                            first | replace h104 := nrmA h104 | replace h104 := nrmB h104 | skip
                            first | replace h104 := nrm1 h104 | replace h104 := nrm2 h104 | replace h104 := nrm3 h104 | replace h104 := nrm4 h104 | replace h104 := nrm5 h104 | replace h104 := nrm6 h104 | replace h104 := of_decide_eq_true h104 | replace h104 := of_decide_eq_false h104 | skip
                            refine st_y S rfl rfl rfl (y_move S rfl) ?_; clear S a; intro a S
                            refine st_y S rfl rfl rfl (y_int S rfl rfl rfl) ?_; clear S a; intro a S
                            refine st_y S rfl rfl rfl (y_pickT S rfl rfl) ?_; clear S a; intro a S
                            refine st_y S rfl rfl rfl (y_assign S rfl) ?_; clear S a; intro a S
                            refine wpList_nil ?_
                            replace S := S.sub [(1, _), (2, _), (3, _), (4, _), (5, _), (23, _), (6, _), (7, _), (12, _), (13, _), (0, _)] rfl
                            refine then_normal ?_
                            refine wp_ret ?_
                            refine end_one S rfl (res_tmp rfl) ?_
                            exact ⟨rfl, M.below⟩
                          · clear S; intro h104 S
                            first | replace h104 := nrmA h104 | replace h104 := nrmB h104 | skip
                            first | replace h104 := nrm1 h104 | replace h104 := nrm2 h104 | replace h104 := nrm3 h104 | replace h104 := nrm4 h104 | replace h104 := nrm5 h104 | replace h104 := nrm6 h104 | replace h104 := of_decide_eq_true h104 | replace h104 := of_decide_eq_false h104 | skip
                            first | (simp at h104; done) | exact absurd (by decide) h104
                        · clear S; intro h100 S
                          first | replace h100 := nrmA h100 | replace h100 := nrmB h100 | skip
                          first | replace h100 := nrm1 h100 | replace h100 := nrm2 h100 | replace h100 := nrm3 h100 | replace h100 := nrm4 h100 | replace h100 := nrm5 h100 | replace h100 := nrm6 h100 | replace h100 := of_decide_eq_true h100 | replace h100 := of_decide_eq_false h100 | skip
                          first | (simp at h100; done) | exact absurd (by decide) h100
                      · clear S; intro h92 S
                        first | replace h92 := nrmA h92 | replace h92 := nrmB h92 | skip
                        first | replace h92 := nrm1 h92 | replace h92 := nrm2 h92 | replace h92 := nrm3 h92 | replace h92 := nrm4 h92 | replace h92 := nrm5 h92 | replace h92 := nrm6 h92 | replace h92 := of_decide_eq_true h92 | replace h92 := of_decide_eq_false h92 | skip
                        first | (simp at h92; done) | exact absurd (by decide) h92
                    · clear S; intro h85 S
                      first | replace h85 := nrmA h85 | replace h85 := nrmB h85 | skip
                      first | replace h85 := nrm1 h85 | replace h85 := nrm2 h85 | replace h85 := nrm3 h85 | replace h85 := nrm4 h85 | replace h85 := nrm5 h85 | replace h85 := nrm6 h85 | replace h85 := of_decide_eq_true h85 | replace h85 := of_decide_eq_false h85 | skip
                      first | (simp at h85; done) | exact absurd (by decide) h85
                  · clear S; intro h80 S
                    first | replace h80 := nrmA h80 | replace h80 := nrmB h80 | skip
                    first | replace h80 := nrm1 h80 | replace h80 := nrm2 h80 | replace h80 := nrm3 h80 | replace h80 := nrm4 h80 | replace h80 := nrm5 h80 | replace h80 := nrm6 h80 | replace h80 := of_decide_eq_true h80 | replace h80 := of_decide_eq_false h80 | skip
                    first | (simp at h80; done) | exact absurd (by decide) h80
                · clear S; intro h76 S
                  first | replace h76 := nrmA h76 | replace h76 := nrmB h76 | skip
                  first | replace h76 := nrm1 h76 | replace h76 := nrm2 h76 | replace h76 := nrm3 h76 | replace h76 := nrm4 h76 | replace h76 := nrm5 h76 | replace h76 := nrm6 h76 | replace h76 := of_decide_eq_true h76 | replace h76 := of_decide_eq_false h76 | skip
                  first | (simp at h76; done) | exact absurd (by decide) h76
              · clear S; intro h69 S
                first | replace h69 := nrmA h69 | replace h69 := nrmB h69 | skip
                first | replace h69 := nrm1 h69 | replace h69 := nrm2 h69 | replace h69 := nrm3 h69 | replace h69 := nrm4 h69 | replace h69 := nrm5 h69 | replace h69 := nrm6 h69 | replace h69 := of_decide_eq_true h69 | replace h69 := of_decide_eq_false h69 | skip
                first | (simp at h69; done) | exact absurd (by decide) h69
            · clear S; intro h62 S
              first | replace h62 := nrmA h62 | replace h62 := nrmB h62 | skip
              first | replace h62 := nrm1 h62 | replace h62 := nrm2 h62 | replace h62 := nrm3 h62 | replace h62 := nrm4 h62 | replace h62 := nrm5 h62 | replace h62 := nrm6 h62 | replace h62 := of_decide_eq_true h62 | replace h62 := of_decide_eq_false h62 | skip
              first | (simp at h62; done) | exact absurd (by decide) h62
          · clear S; intro h57 S
            first | replace h57 := nrmA h57 | replace h57 := nrmB h57 | skip
            first | replace h57 := nrm1 h57 | replace h57 := nrm2 h57 | replace h57 := nrm3 h57 | replace h57 := nrm4 h57 | replace h57 := nrm5 h57 | replace h57 := nrm6 h57 | replace h57 := of_decide_eq_true h57 | replace h57 := of_decide_eq_false h57 | skip
            first | (simp at h57; done) | exact absurd (by decide) h57
      · skip
        refine st_alloc S M rfl rfl #[.int .i8 0, .int .i64 0, .int .i64 0, .int .i64 0, .int .i64 0, .int .i64 0, .int .i64 0, .int .i64 0, .slice none 0 0] (by kernel_rfl) ?_; clear S M a; intro a w22 bQ S M hB
        refine wpList_nil ?_; refine then_normal ?_; refine ⟨fun _ => hB, ?_⟩
        refine k_one (listed' := #[true, true, false, false, false, false, false, false, true, false, false, false, false]) 1 rfl (by kernel_rfl) rfl ?_
        refine st_call (xs := [(Operand.const (Value.int IntKind.i64 1)), (Operand.const (Value.int IntKind.i64 120)), (Operand.const (Value.int IntKind.u8 0))]) S (enters_of Try.func15 (by decide) rfl) rfl rfl rfl (did_any 1 120 0 _) ?_
        rintro _ w23 ⟨rfl, hK⟩; refine ⟨_, rfl, ?_⟩; clear S a; intro a S; replace M := M.grow hK
        refine wpList_nil ?_; refine then_normal ?_; refine ⟨fun _ => hK, ?_⟩
        refine k_one (listed' := #[true, true, true, false, false, false, false, false, true, false, false, false, false]) 2 rfl (by kernel_rfl) rfl ?_
        refine st_call (xs := [(Operand.tmp 48), (Operand.tmp 49)]) S (enters_of Try.func10 (by decide) rfl) rfl rfl rfl (hearM_any (begunM 2 3 1 nm25) none 0 0 [] (didM 1 120 0) none 0 0 [] _ (Rd.nil _ _ _ _) (Rd.nil _ _ _ _)) ?_
        rintro _ w24 hP; rw [wkBad] at hP; obtain ⟨ad7, cp7, lv7, l7, h7, l8, h8, rfl, M1⟩ := hP; refine ⟨_, rfl, ?_⟩; clear S a; intro a S
        have hK := M1.below
        replace M := M.join M1
        simp only [List.cons_append, List.nil_append] at M
        refine wpList_nil ?_; refine then_normal ?_; refine ⟨fun _ => hK, ?_⟩
        refine k_pure (listed' := #[true, true, true, true, false, false, false, false, true, false, false, false, false]) 3 S rfl rfl rfl rfl (by kernel_rfl) rfl (fun _ d _ _ _ h => by cases d <;> exact h) (fun w => y_move S rfl) ?_; clear S a; intro a S
        refine k_pure (listed' := #[true, true, true, true, true, false, false, false, true, false, false, false, false]) 4 S rfl rfl rfl rfl (by kernel_rfl) rfl (fun _ d _ _ _ h => by cases d <;> exact h) (fun w => y_extract S rfl rfl) ?_; clear S a; intro a S
        refine k_pure (listed' := #[true, true, true, true, true, true, false, false, true, false, false, false, false]) 5 S rfl rfl rfl rfl (by kernel_rfl) rfl (fun _ d _ _ _ h => by cases d <;> exact h) (fun w => y_extract S rfl rfl) ?_; clear S a; intro a S
        refine k_pure (listed' := #[true, true, true, true, true, true, true, false, true, false, false, false, false]) 6 S rfl rfl rfl rfl (by kernel_rfl) rfl (fun _ d _ _ _ h => by cases d <;> exact h) (fun w => y_extract S rfl rfl) ?_; clear S a; intro a S
        refine k_pure (listed' := #[true, true, true, true, true, true, true, true, true, false, false, false, false]) 7 S rfl rfl rfl rfl (by kernel_rfl) rfl (fun _ d _ _ _ h => by cases d <;> exact h) (fun w => y_extract S rfl rfl) ?_; clear S a; intro a S
        refine k_one (listed' := #[true, true, true, true, true, true, true, true, true, true, false, false, false]) 9 rfl (by kernel_rfl) rfl ?_
        refine st_store (sz := 9) (us := [_, _, _, _, _, _, _, _, _]) S M 2 rfl (by kernel_rfl) rfl rfl rfl rfl rfl rfl (by first | decide | (simp; done) | (simp; omega)) ?_; clear M; intro w25 M
        simp only [putL, List.set_cons_zero, List.set_cons_succ, Nat.reduceAdd] at M
        refine wpList_nil ?_; refine then_normal ?_; refine ⟨fun h => absurd h (by decide), ?_⟩
        refine k_pure (listed' := #[true, true, true, true, true, true, true, true, true, true, true, false, false]) 10 S rfl rfl rfl rfl (by kernel_rfl) rfl (fun _ d _ _ _ h => by cases d <;> exact h) (fun w => y_assign S rfl) ?_; clear S a; intro a S
        refine k_pure (listed' := #[true, true, true, true, true, true, true, true, true, true, true, true, false]) 11 S rfl rfl rfl rfl (by kernel_rfl) rfl (fun _ d _ _ _ h => by cases d <;> exact h) (fun w => y_assign S rfl) ?_; clear S a; intro a S
        refine k_pure (listed' := #[true, true, true, true, true, true, true, true, true, true, true, true, true]) 12 S rfl rfl rfl rfl (by kernel_rfl) rfl (fun _ d _ _ _ h => by cases d <;> exact h) (fun w => y_assign S rfl) ?_; clear S a; intro a S
        refine k_end (by kernel_rfl) ?_
        replace S := S.sub [(1, _), (2, _), (3, _), (4, _), (5, _), (23, _), (6, _), (7, _), (12, _), (13, _)] rfl
        refine then_normal ?_
        refine wp_seq ?_
        -- region 10 law.go:35
        refine wp_region_lit ?_
        refine st_y S rfl rfl rfl (y_move S rfl) ?_; clear S a; intro a S
        refine st_y S rfl rfl rfl (y_int S rfl rfl rfl) ?_; clear S a; intro a S
        refine st_y S rfl rfl rfl (y_move S rfl) ?_; clear S a; intro a S
        refine st_split (t := 57) S rfl ?_ ?_
        · clear S; intro h57 S
          first | replace h57 := nrmA h57 | replace h57 := nrmB h57 | skip
          first | replace h57 := nrm1 h57 | replace h57 := nrm2 h57 | replace h57 := nrm3 h57 | replace h57 := nrm4 h57 | replace h57 := nrm5 h57 | replace h57 := nrm6 h57 | replace h57 := of_decide_eq_true h57 | replace h57 := of_decide_eq_false h57 | skip
          refine st_y S rfl rfl rfl (y_move S rfl) ?_; clear S a; intro a S
          refine st_y S rfl rfl rfl (y_lenS (E := 39) S rfl (by kernel_rfl)) ?_; clear S a; intro a S
          refine st_y S rfl rfl rfl (y_int S rfl rfl rfl) ?_; clear S a; intro a S
          refine st_y S rfl rfl rfl (y_pickT S rfl rfl) ?_; clear S a; intro a S
          refine st_y S rfl rfl rfl (y_move S rfl) ?_; clear S a; intro a S
          refine st_split (t := 62) S rfl ?_ ?_
          · clear S; intro h62 S
            first | replace h62 := nrmA h62 | replace h62 := nrmB h62 | skip
            first | replace h62 := nrm1 h62 | replace h62 := nrm2 h62 | replace h62 := nrm3 h62 | replace h62 := nrm4 h62 | replace h62 := nrm5 h62 | replace h62 := nrm6 h62 | replace h62 := of_decide_eq_true h62 | replace h62 := of_decide_eq_false h62 | skip
            refine st_y S rfl rfl rfl (y_move S rfl) ?_; clear S a; intro a S
            refine st_y S rfl rfl rfl (y_indexS (e := 39) (sz := 24) S (by kernel_rfl) rfl rfl (by first | omega | (simp; done) | (simp; omega))) ?_; clear S a; intro a S
            refine st_y S rfl rfl rfl (y_fieldAddr (k := 10) S (by kernel_rfl) rfl) ?_; clear S a; intro a S
            refine st_y S rfl rfl rfl (y_load S (by kernel_rfl) rfl ((M.readRow 8 rfl (by unfold maxLen; omega)).cellAt (j := 10) rfl)) ?_; clear S a; intro a S
            refine st_y S rfl rfl rfl (y_int S rfl rfl rfl) ?_; clear S a; intro a S
            refine st_y S rfl rfl rfl (y_pickT S rfl rfl) ?_; clear S a; intro a S
            refine st_y S rfl rfl rfl (y_move S rfl) ?_; clear S a; intro a S
            refine st_split (t := 69) S rfl ?_ ?_
            · clear S; intro h69 S
              first | replace h69 := nrmA h69 | replace h69 := nrmB h69 | skip
              first | replace h69 := nrm1 h69 | replace h69 := nrm2 h69 | replace h69 := nrm3 h69 | replace h69 := nrm4 h69 | replace h69 := nrm5 h69 | replace h69 := nrm6 h69 | replace h69 := of_decide_eq_true h69 | replace h69 := of_decide_eq_false h69 | skip
              refine st_y S rfl rfl rfl (y_move S rfl) ?_; clear S a; intro a S
              refine st_y S rfl rfl rfl (y_indexS (e := 39) (sz := 24) S (by kernel_rfl) rfl rfl (by first | omega | (simp; done) | (simp; omega))) ?_; clear S a; intro a S
              refine st_y S rfl rfl rfl (y_fieldAddr (k := 9) S (by kernel_rfl) rfl) ?_; clear S a; intro a S
              refine st_y S rfl rfl rfl (y_load S (by kernel_rfl) rfl ((M.readRow 8 rfl (by unfold maxLen; omega)).cellAt (j := 9) rfl)) ?_; clear S a; intro a S
              refine st_y S rfl rfl rfl (y_int S rfl rfl rfl) ?_; clear S a; intro a S
              refine st_y S rfl rfl rfl (y_pickT S rfl rfl) ?_; clear S a; intro a S
              refine st_y S rfl rfl rfl (y_move S rfl) ?_; clear S a; intro a S
              refine st_split (t := 76) S rfl ?_ ?_
              · clear S; intro h76 S
                first | replace h76 := nrmA h76 | replace h76 := nrmB h76 | skip
                first | replace h76 := nrm1 h76 | replace h76 := nrm2 h76 | replace h76 := nrm3 h76 | replace h76 := nrm4 h76 | replace h76 := nrm5 h76 | replace h76 := nrm6 h76 | replace h76 := of_decide_eq_true h76 | replace h76 := of_decide_eq_false h76 | skip
                refine st_y S rfl rfl rfl (y_move S rfl) ?_; clear S a; intro a S
                refine st_y S rfl rfl rfl (y_int S rfl rfl rfl) ?_; clear S a; intro a S
                refine st_y S rfl rfl rfl (y_pickT S rfl rfl) ?_; clear S a; intro a S
                refine st_y S rfl rfl rfl (y_move S rfl) ?_; clear S a; intro a S
                refine st_split (t := 80) S rfl ?_ ?_
                · clear S; intro h80 S
                  first | replace h80 := nrmA h80 | replace h80 := nrmB h80 | skip
                  first | replace h80 := nrm1 h80 | replace h80 := nrm2 h80 | replace h80 := nrm3 h80 | replace h80 := nrm4 h80 | replace h80 := nrm5 h80 | replace h80 := nrm6 h80 | replace h80 := of_decide_eq_true h80 | replace h80 := of_decide_eq_false h80 | skip
                  refine st_y S rfl rfl rfl (y_move S rfl) ?_; clear S a; intro a S
                  refine st_y S rfl rfl rfl (y_lenS (E := 48) S rfl (by kernel_rfl)) ?_; clear S a; intro a S
                  refine st_y S rfl rfl rfl (y_int S rfl rfl rfl) ?_; clear S a; intro a S
                  refine st_y S rfl rfl rfl (y_pickT S rfl rfl) ?_; clear S a; intro a S
                  refine st_y S rfl rfl rfl (y_move S rfl) ?_; clear S a; intro a S
                  refine st_split (t := 85) S rfl ?_ ?_
                  · clear S; intro h85 S
                    first | replace h85 := nrmA h85 | replace h85 := nrmB h85 | skip
                    first | replace h85 := nrm1 h85 | replace h85 := nrm2 h85 | replace h85 := nrm3 h85 | replace h85 := nrm4 h85 | replace h85 := nrm5 h85 | replace h85 := nrm6 h85 | replace h85 := of_decide_eq_true h85 | replace h85 := of_decide_eq_false h85 | skip
                    refine st_y S rfl rfl rfl (y_move S rfl) ?_; clear S a; intro a S
                    refine st_y S rfl rfl rfl (y_indexS (e := 48) (sz := 9) S (by kernel_rfl) rfl rfl (by first | omega | (simp; done) | (simp; omega))) ?_; clear S a; intro a S
                    refine st_y S rfl rfl rfl (y_fieldAddr (k := 0) S (by kernel_rfl) rfl) ?_; clear S a; intro a S
                    refine st_y S rfl rfl rfl (y_load S (by kernel_rfl) rfl ((M.readRow 5 rfl (by unfold maxLen; decide)).cellAt (j := 9) rfl)) ?_; clear S a; intro a S
                    refine st_y S rfl rfl rfl (y_int S rfl rfl rfl) ?_; clear S a; intro a S
                    refine st_y S rfl rfl rfl (y_pickT S rfl rfl) ?_; clear S a; intro a S
                    refine st_y S rfl rfl rfl (y_move S rfl) ?_; clear S a; intro a S
                    refine st_split (t := 92) S rfl ?_ ?_
                    · clear S; intro h92 S
                      first | replace h92 := nrmA h92 | replace h92 := nrmB h92 | skip
                      first | replace h92 := nrm1 h92 | replace h92 := nrm2 h92 | replace h92 := nrm3 h92 | replace h92 := nrm4 h92 | replace h92 := nrm5 h92 | replace h92 := nrm6 h92 | replace h92 := of_decide_eq_true h92 | replace h92 := of_decide_eq_false h92 | skip
                      refine st_y S rfl rfl rfl (y_move S rfl) ?_; clear S a; intro a S
                      refine st_y S rfl rfl rfl (y_indexS (e := 48) (sz := 9) S (by kernel_rfl) rfl rfl (by first | omega | (simp; done) | (simp; omega))) ?_; clear S a; intro a S
                      refine st_y S rfl rfl rfl (y_fieldAddr (k := 1) S (by kernel_rfl) rfl) ?_; clear S a; intro a S
                      refine st_y S rfl rfl rfl (y_indexA (m := 8) (sz := 1) S (by kernel_rfl) rfl rfl (by first | omega | (simp; done) | (simp; omega))) ?_; clear S a; intro a S
                      refine st_y S rfl rfl rfl (y_load S (by kernel_rfl) rfl ((M.readRow 5 rfl (by unfold maxLen; decide)).cellAt (j := 10) rfl)) ?_; clear S a; intro a S
                      refine st_y S rfl rfl rfl (y_int S rfl rfl rfl) ?_; clear S a; intro a S
                      refine st_y S rfl rfl rfl (y_pickT S rfl rfl) ?_; clear S a; intro a S
                      refine st_y S rfl rfl rfl (y_move S rfl) ?_; clear S a; intro a S
                      refine st_split (t := 100) S rfl ?_ ?_
                      · clear S; intro h100 S
                        first | replace h100 := nrmA h100 | replace h100 := nrmB h100 | skip
                        first | replace h100 := nrm1 h100 | replace h100 := nrm2 h100 | replace h100 := nrm3 h100 | replace h100 := nrm4 h100 | replace h100 := nrm5 h100 | replace h100 := nrm6 h100 | replace h100 := of_decide_eq_true h100 | replace h100 := of_decide_eq_false h100 | skip
                        refine st_y S rfl rfl rfl (y_move S rfl) ?_; clear S a; intro a S
                        refine st_y S rfl rfl rfl (y_int S rfl rfl rfl) ?_; clear S a; intro a S
                        refine st_y S rfl rfl rfl (y_pickT S rfl rfl) ?_; clear S a; intro a S
                        refine st_y S rfl rfl rfl (y_move S rfl) ?_; clear S a; intro a S
                        refine st_split (t := 104) S rfl ?_ ?_
                        · clear S; intro h104 S
                          first | replace h104 := nrmA h104 | replace h104 := nrmB h104 | skip
                          first | replace h104 := nrm1 h104 | replace h104 := nrm2 h104 | replace h104 := nrm3 h104 | replace h104 := nrm4 h104 | replace h104 := nrm5 h104 | replace h104 := nrm6 h104 | replace h104 := of_decide_eq_true h104 | replace h104 := of_decide_eq_false h104 | skip
                          refine st_y S rfl rfl rfl (y_move S rfl) ?_; clear S a; intro a S
                          refine st_y S rfl rfl rfl (y_int S rfl rfl rfl) ?_; clear S a; intro a S
                          refine st_y S rfl rfl rfl (y_pickT S rfl rfl) ?_; clear S a; intro a S
                          refine st_y S rfl rfl rfl (y_assign S rfl) ?_; clear S a; intro a S
                          refine wpList_nil ?_
                          replace S := S.sub [(1, _), (2, _), (3, _), (4, _), (5, _), (23, _), (6, _), (7, _), (12, _), (13, _), (0, _)] rfl
                          refine then_normal ?_
                          refine wp_ret ?_
                          refine end_one S rfl (res_tmp rfl) ?_
                          exact ⟨rfl, M.below⟩
                        · clear S; intro h104 S
                          first | replace h104 := nrmA h104 | replace h104 := nrmB h104 | skip
                          first | replace h104 := nrm1 h104 | replace h104 := nrm2 h104 | replace h104 := nrm3 h104 | replace h104 := nrm4 h104 | replace h104 := nrm5 h104 | replace h104 := nrm6 h104 | replace h104 := of_decide_eq_true h104 | replace h104 := of_decide_eq_false h104 | skip
                          first | (simp at h104; done) | exact absurd (by decide) h104
                      · clear S; intro h100 S
                        first | replace h100 := nrmA h100 | replace h100 := nrmB h100 | skip
                        first | replace h100 := nrm1 h100 | replace h100 := nrm2 h100 | replace h100 := nrm3 h100 | replace h100 := nrm4 h100 | replace h100 := nrm5 h100 | replace h100 := nrm6 h100 | replace h100 := of_decide_eq_true h100 | replace h100 := of_decide_eq_false h100 | skip
                        first | (simp at h100; done) | exact absurd (by decide) h100
                    · clear S; intro h92 S
                      first | replace h92 := nrmA h92 | replace h92 := nrmB h92 | skip
                      first | replace h92 := nrm1 h92 | replace h92 := nrm2 h92 | replace h92 := nrm3 h92 | replace h92 := nrm4 h92 | replace h92 := nrm5 h92 | replace h92 := nrm6 h92 | replace h92 := of_decide_eq_true h92 | replace h92 := of_decide_eq_false h92 | skip
                      first | (simp at h92; done) | exact absurd (by decide) h92
                  · clear S; intro h85 S
                    first | replace h85 := nrmA h85 | replace h85 := nrmB h85 | skip
                    first | replace h85 := nrm1 h85 | replace h85 := nrm2 h85 | replace h85 := nrm3 h85 | replace h85 := nrm4 h85 | replace h85 := nrm5 h85 | replace h85 := nrm6 h85 | replace h85 := of_decide_eq_true h85 | replace h85 := of_decide_eq_false h85 | skip
                    first | (simp at h85; done) | exact absurd (by decide) h85
                · clear S; intro h80 S
                  first | replace h80 := nrmA h80 | replace h80 := nrmB h80 | skip
                  first | replace h80 := nrm1 h80 | replace h80 := nrm2 h80 | replace h80 := nrm3 h80 | replace h80 := nrm4 h80 | replace h80 := nrm5 h80 | replace h80 := nrm6 h80 | replace h80 := of_decide_eq_true h80 | replace h80 := of_decide_eq_false h80 | skip
                  first | (simp at h80; done) | exact absurd (by decide) h80
              · clear S; intro h76 S
                first | replace h76 := nrmA h76 | replace h76 := nrmB h76 | skip
                first | replace h76 := nrm1 h76 | replace h76 := nrm2 h76 | replace h76 := nrm3 h76 | replace h76 := nrm4 h76 | replace h76 := nrm5 h76 | replace h76 := nrm6 h76 | replace h76 := of_decide_eq_true h76 | replace h76 := of_decide_eq_false h76 | skip
                first | (simp at h76; done) | exact absurd (by decide) h76
            · clear S; intro h69 S
              first | replace h69 := nrmA h69 | replace h69 := nrmB h69 | skip
              first | replace h69 := nrm1 h69 | replace h69 := nrm2 h69 | replace h69 := nrm3 h69 | replace h69 := nrm4 h69 | replace h69 := nrm5 h69 | replace h69 := nrm6 h69 | replace h69 := of_decide_eq_true h69 | replace h69 := of_decide_eq_false h69 | skip
              first | (simp at h69; done) | exact absurd (by decide) h69
          · clear S; intro h62 S
            first | replace h62 := nrmA h62 | replace h62 := nrmB h62 | skip
            first | replace h62 := nrm1 h62 | replace h62 := nrm2 h62 | replace h62 := nrm3 h62 | replace h62 := nrm4 h62 | replace h62 := nrm5 h62 | replace h62 := nrm6 h62 | replace h62 := of_decide_eq_true h62 | replace h62 := of_decide_eq_false h62 | skip
            first | (simp at h62; done) | exact absurd (by decide) h62
        · clear S; intro h57 S
          first | replace h57 := nrmA h57 | replace h57 := nrmB h57 | skip
          first | replace h57 := nrm1 h57 | replace h57 := nrm2 h57 | replace h57 := nrm3 h57 | replace h57 := nrm4 h57 | replace h57 := nrm5 h57 | replace h57 := nrm6 h57 | replace h57 := of_decide_eq_true h57 | replace h57 := of_decide_eq_false h57 | skip
          first | (simp at h57; done) | exact absurd (by decide) h57

end Go.Proofs.Ytgocjpcmjljeoaa
