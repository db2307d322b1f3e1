/-
  What SessionNumbers rests on, part 2.
-/
import Derived.Test.YtniijiipkfhjgaaP1
namespace Go.Proofs.Ytniijiipkfhjgaa
open Go.RowKit Go.Sort
theorem clientIs_any (n : Int) (w : World) : Calls Try.prog 29 #[.int .i64 n] w fun e w' => e = .returned (.bool (decide (1 ≤ n ∧ n ≤ 1048576))) ∧ Below w.heap.size w w' := by
  have M := Mem.start w
  refine calls_enter Try.func29 rfl 9 rfl rfl ?_; intro a S
  refine nxD ?_
  refine st_go [1] S rfl (by kernel_rfl) ?_; clear S a; intro a S
  refine nxA ?_
  refine st_go [1, 1, 1] S rfl (by kernel_rfl) ?_; clear S a; intro a S
  refine st_if (t := 5) S rfl ?_ ?_
  · clear S; intro h5 S
    refine st_go [1, 1, 1, 1] S rfl (by kernel_rfl) ?_; clear S a; intro a S
    refine nxC ?_
    refine wp_ret ?_
    refine end_one S rfl (res_tmp rfl) ?_
    refine ⟨ret_bool ?_, M.below⟩; clear S M; rw [Bool.eq_iff_iff]; simp only [decide_eq_true_eq]; first | omega | (simp; omega)
  clear S; intro h5 S
  refine st_go [0, 0, 1, 1] S rfl (by kernel_rfl) ?_; clear S a; intro a S
  refine nxC ?_
  refine wp_ret ?_
  refine end_one S rfl (res_tmp rfl) ?_
  refine ⟨ret_bool ?_, M.below⟩; clear S M; rw [Bool.eq_iff_iff]; simp only [decide_eq_true_eq]; first | omega | (simp; omega)
/-- the same; its row of open ones begins at pa, and is pc long at most -/
def DeskR (b : Nat) (pa : Option Addr) (pc : Nat) (D : Dsk) (E : List Ent) : Prop := ∃ rl ro rm ra rs rc re : Rw, rl.a = pa ∧ rl.c = pc ∧ E = dskE b D rl ro rm ra rs rc re
theorem DeskR.desk {b : Nat} {pa : Option Addr} {pc : Nat} {D : Dsk} {E : List Ent} : DeskR b pa pc D E → DeskE b D E := fun ⟨rl, ro, rm, ra, rs, rc, re, _, _, h⟩ => ⟨rl, ro, rm, ra, rs, rc, re, h⟩
theorem DeskE.ref {b : Nat} {D : Dsk} {E : List Ent} : DeskE b D E → ∃ pa pc, DeskR b pa pc D E := fun ⟨rl, ro, rm, ra, rs, rc, re, h⟩ => ⟨rl.a, rl.c, rl, ro, rm, ra, rs, rc, re, rfl, rfl, h⟩
theorem Dsk.open {wc w : World} {A E : List Ent} {b : Nat} {D : Dsk} (hE : DeskE b D E) (M : Mem wc w (A ++ E)) : ∃ rl ro rm ra rs rc re : Rw, Mem wc w (.blk b (dskL D rl ro rm ra rs rc re).toArray 79 :: rl.ent 65 37 D.s.l.length (fm Ope.cellsL D.s.l) :: ro.ent 91 5 D.s.over.length (fm End_.cellsL D.s.over) :: rm.ent 45 24 D.t.mail.length (fm msgL D.t.mail) :: ra.ent 69 13 D.t.ans.length (fm Ans.cellsL D.t.ans) :: rs.ent 71 14 D.t.seen.length (fm Seen_.cellsL D.t.seen) :: rc.ent 40 3 D.t.com.length (fm nmL D.t.com) :: re.ent 40 3 D.t.ends.length (fm nmL D.t.ends) :: A) := by
  obtain ⟨rl, ro, rm, ra, rs, rc, re, rfl⟩ := hE
  exact ⟨rl, ro, rm, ra, rs, rc, re, M.perm List.perm_append_comm⟩
theorem Dsk.openR {wc w : World} {A E : List Ent} {b : Nat} {pa : Option Addr} {pc : Nat} {D : Dsk} (hE : DeskR b pa pc D E) (M : Mem wc w (A ++ E)) : ∃ rl ro rm ra rs rc re : Rw, rl.a = pa ∧ rl.c = pc ∧ Mem wc w (.blk b (dskL D rl ro rm ra rs rc re).toArray 79 :: rl.ent 65 37 D.s.l.length (fm Ope.cellsL D.s.l) :: ro.ent 91 5 D.s.over.length (fm End_.cellsL D.s.over) :: rm.ent 45 24 D.t.mail.length (fm msgL D.t.mail) :: ra.ent 69 13 D.t.ans.length (fm Ans.cellsL D.t.ans) :: rs.ent 71 14 D.t.seen.length (fm Seen_.cellsL D.t.seen) :: rc.ent 40 3 D.t.com.length (fm nmL D.t.com) :: re.ent 40 3 D.t.ends.length (fm nmL D.t.ends) :: A) := by
  obtain ⟨rl, ro, rm, ra, rs, rc, re, h1, h2, rfl⟩ := hE
  exact ⟨rl, ro, rm, ra, rs, rc, re, h1, h2, M.perm List.perm_append_comm⟩
theorem Dsk.close {wc w : World} {A : List Ent} {b : Nat} {D : Dsk} (rl ro rm ra rs rc re : Rw) (M : Mem wc w (dskE b D rl ro rm ra rs rc re ++ A)) : ∃ E, DeskE b D E ∧ Mem wc w (A ++ E) := ⟨_, ⟨rl, ro, rm, ra, rs, rc, re, rfl⟩, M.perm List.perm_append_comm⟩
theorem Dsk.closeR {wc w : World} {A : List Ent} {b : Nat} {D : Dsk} (rl ro rm ra rs rc re : Rw) (M : Mem wc w (dskE b D rl ro rm ra rs rc re ++ A)) : ∃ E, DeskR b rl.a rl.c D E ∧ Mem wc w (A ++ E) := ⟨_, ⟨rl, ro, rm, ra, rs, rc, re, rfl, rfl, rfl⟩, M.perm List.perm_append_comm⟩
set_option maxHeartbeats 1000000 in
theorem answer_any {wc w : World} {A E : List Ent} {b : Nat} {D : Dsk} (x : Ans) (hE : DeskE b D E) (M : Mem wc w (A ++ E)) (hs : D.small) :
    Calls Try.prog 33 #[.pointer (some ⟨b, 0, none⟩), .agg x.cellsL.toArray] w fun e w' => e = .returned (.tuple #[]) ∧ ∃ E', DeskE b (D.answer x) E' ∧ Mem wc w' (A ++ E') := by
  have hsa := hs.ans
  obtain ⟨rl, ro, rm, ra, rs, rc, re, M1⟩ := Dsk.open hE M
  clear M; have M := M1; clear M1
  refine calls_enter Try.func33 rfl 16 rfl rfl ?_; intro a S
  refine wp_seq ?_
  skip
  refine wp_region_lit ?_
  refine st_box S M rfl rfl rfl #[_, _, _, _, _, _, _, _, _, _, _, _, _] rfl ?_; clear S M a; intro a w1 bX S M hB
  refine nxC ?_
  refine wp_regionK [8, 12] #[false, false, false, false, false, false, false, false, false, false, false, false, false] rfl M (by kernel_rfl) ?_; clear M; intro w2 M
  refine k_pure (listed' := #[true, false, false, false, false, false, false, false, false, false, false, false, false]) 0 S rfl rfl rfl rfl (by kernel_rfl) rfl (fun _ d _ _ _ h => by cases d <;> exact h) (fun w => y_move S rfl) ?_; clear S a; intro a S
  refine k_pure (listed' := #[true, true, false, false, false, false, false, false, false, false, false, false, false]) 1 S rfl rfl rfl rfl (by kernel_rfl) rfl (fun _ d _ _ _ h => by cases d <;> exact h) (fun w => y_move S rfl) ?_; clear S a; intro a S
  refine k_pure (listed' := #[true, true, true, false, false, false, false, false, false, false, false, false, false]) 2 S rfl rfl rfl rfl (by kernel_rfl) rfl (fun _ d _ _ _ h => by cases d <;> exact h) (fun w => y_nilCheck S rfl) ?_; clear S a; intro a S
  refine k_pure (listed' := #[true, true, true, true, false, false, false, false, false, false, false, false, false]) 3 S rfl rfl rfl rfl (by kernel_rfl) rfl (fun _ d _ _ _ h => by cases d <;> exact h) (fun w => y_fieldAddr (k := 4) S (by kernel_rfl) rfl) ?_; clear S a; intro a S
  refine k_pure (listed' := #[true, true, true, true, true, false, false, false, false, false, false, false, false]) 4 S rfl rfl rfl rfl (by kernel_rfl) rfl (fun _ d _ _ _ h => by cases d <;> exact h) (fun w => y_fieldAddr (k := 1) S (by kernel_rfl) rfl) ?_; clear S a; intro a S
  refine k_read (listed' := #[true, true, true, true, true, true, false, false, false, false, false, false, false]) 5 S rfl rfl rfl rfl (by kernel_rfl) rfl (fun _ d _ _ _ h => by cases d <;> exact h) (fun w hW => have M := M.grow hW; y_load S (by kernel_rfl) rfl (M.cell 1 rfl rfl)) ?_; clear S a; intro a S
  refine k_read (listed' := #[true, true, true, true, true, true, true, false, false, false, false, false, false]) 6 S rfl rfl rfl rfl (by kernel_rfl) rfl (fun _ d _ _ _ h => by cases d <;> exact h) (fun w hW => have M := M.grow hW; y_loadAgg (cs := [_, _, _, _, _, _, _, _, _, _, _, _, _]) S (by kernel_rfl) rfl rfl (M.cellsAt (k := 13) 0 rfl rfl)) ?_; clear S a; intro a S
  refine k_one (listed' := #[true, true, true, true, true, true, true, true, false, false, false, false, false]) 7 rfl (by kernel_rfl) rfl ?_
  refine st_lit (ps := [(0, (Operand.tmp 10))]) (e := 69) (sz := 13) (zl := [.int .i64 0, .int .i64 0, .int .i64 0, .int .u8 0, .int .u8 0, .int .u8 0, .int .u8 0, .int .u8 0, .int .u8 0, .int .u8 0, .int .u8 0, .int .i64 0, .int .i8 0]) (cs := [_, _, _, _, _, _, _, _, _, _, _, _, _]) S M rfl rfl (by kernel_rfl) rfl (rfl) ?_; clear S M a; intro a w3 bZ S M hB
  refine wpList_nil ?_; refine then_normal ?_; refine ⟨fun _ => hB, ?_⟩
  refine k_one (listed' := #[true, true, true, true, true, true, true, true, true, false, false, false, false]) 8 rfl (by kernel_rfl) rfl ?_
  refine st_append (e := 69) (sz := 13) (by_ := 48) (zc := [.int .i64 0, .int .i64 0, .int .i64 0, .int .u8 0, .int .u8 0, .int .u8 0, .int .u8 0, .int .u8 0, .int .u8 0, .int .u8 0, .int .u8 0, .int .i64 0, .int .i8 0]) S M 6 rfl rfl (by kernel_rfl) rfl (by decide) rfl rfl rfl (show Rd _ _ _ 13 _ 1 x.cellsL from M.sliceAt 0 rfl (M.cellsAt (k := 13) 0 rfl rfl) rfl (Nat.le_refl _) (by unfold maxLen; omega)) (rfl) (by omega) (by unfold maxLen; omega) ?_; clear S M a; intro a w4 vA loA hiA S M
  refine wpList_nil ?_; refine then_normal ?_; refine ⟨fun h => absurd h (by decide), ?_⟩
  refine k_pure (listed' := #[true, true, true, true, true, true, true, true, true, true, false, false, false]) 9 S rfl rfl rfl rfl (by kernel_rfl) rfl (fun _ d _ _ _ h => by cases d <;> exact h) (fun w => y_nilCheck S rfl) ?_; clear S a; intro a S
  refine k_pure (listed' := #[true, true, true, true, true, true, true, true, true, true, true, false, false]) 10 S rfl rfl rfl rfl (by kernel_rfl) rfl (fun _ d _ _ _ h => by cases d <;> exact h) (fun w => y_fieldAddr (k := 4) S (by kernel_rfl) rfl) ?_; clear S a; intro a S
  refine k_pure (listed' := #[true, true, true, true, true, true, true, true, true, true, true, true, false]) 11 S rfl rfl rfl rfl (by kernel_rfl) rfl (fun _ d _ _ _ h => by cases d <;> exact h) (fun w => y_fieldAddr (k := 1) S (by kernel_rfl) rfl) ?_; clear S a; intro a S
  refine k_one (listed' := #[true, true, true, true, true, true, true, true, true, true, true, true, true]) 12 rfl (by kernel_rfl) rfl ?_
  obtain ⟨aA, cA, rfl, -, -⟩ := (M.readAll 0 rfl (by unfold maxLen; omega)).form
  refine st_store (sz := 1) (us := [_]) S M 3 rfl (by kernel_rfl) rfl rfl rfl rfl rfl rfl (by first | decide | (simp; done) | (simp; omega)) ?_; clear M; intro w5 M
  simp only [putL, List.set_cons_zero, List.set_cons_succ, Nat.reduceAdd] at M
  refine wpList_nil ?_; refine then_normal ?_; refine ⟨fun h => absurd h (by decide), ?_⟩
  refine k_end (by kernel_rfl) ?_
  refine end_noneN S rfl ?_
  refine ⟨rfl, ?_⟩
  replace M := M.drop 1
  simp only [List.eraseIdx_cons_succ, List.eraseIdx_cons_zero] at M
  replace M := M.drop 1
  simp only [List.eraseIdx_cons_succ, List.eraseIdx_cons_zero] at M
  replace M := M.front 4 rfl
  simp only [List.eraseIdx_cons_succ, List.eraseIdx_cons_zero] at M
  replace M := M.front 4 rfl
  simp only [List.eraseIdx_cons_succ, List.eraseIdx_cons_zero] at M
  replace M := M.front 4 rfl
  simp only [List.eraseIdx_cons_succ, List.eraseIdx_cons_zero] at M
  replace M := M.front 4 rfl
  simp only [List.eraseIdx_cons_succ, List.eraseIdx_cons_zero] at M
  refine Dsk.close (D := D.answer x) rl ro rm ⟨aA, cA, loA, hiA⟩ rs rc re ?_
  have h1 : (D.answer x).t.ans.length = D.t.ans.length + 1 := by simp
  have h2 : fm Ans.cellsL (D.answer x).t.ans = fm Ans.cellsL D.t.ans ++ x.cellsL := fm_snoc _ _ _
  show Mem wc _ (.blk b [rl.v D.s.l.length, .int .i64 D.s.last, .int .i64 D.s.inc, ro.v D.s.over.length, rm.v D.t.mail.length, .slice aA (D.answer x).t.ans.length cA, rs.v D.t.seen.length, rc.v D.t.com.length, re.v D.t.ends.length, _, _, _, _, _, _, _, _].toArray 79 :: _ :: _ :: _ :: rowE loA hiA 69 13 (.slice aA (D.answer x).t.ans.length cA) (D.answer x).t.ans.length (fm Ans.cellsL (D.answer x).t.ans) :: _)
  rw [h1, h2]
  exact M
set_option maxHeartbeats 1000000 in
theorem seen_anyR {wc w : World} {A E : List Ent} {b : Nat} {pa : Option Addr} {pc : Nat} {D : Dsk} (x : Seen_) (hE : DeskR b pa pc D E) (M : Mem wc w (A ++ E)) (hs : D.small) :
    Calls Try.prog 34 #[.pointer (some ⟨b, 0, none⟩), .agg x.cellsL.toArray] w fun e w' => e = .returned (.tuple #[]) ∧ ∃ E', DeskR b pa pc (D.seen x) E' ∧ Mem wc w' (A ++ E') := by
  have hsa := hs.seen
  obtain ⟨rl, ro, rm, ra, rs, rc, re, rfl, rfl, M1⟩ := Dsk.openR hE M
  clear M; have M := M1; clear M1
  refine calls_enter Try.func34 rfl 16 rfl rfl ?_; intro a S
  refine wp_seq ?_
  skip
  refine wp_region_lit ?_
  refine st_box S M rfl rfl rfl #[_, _, _, _, _, _, _, _, _, _, _, _, _, _] rfl ?_; clear S M a; intro a w1 bX S M hB
  refine nxC ?_
  refine wp_regionK [8, 12] #[false, false, false, false, false, false, false, false, false, false, false, false, false] rfl M (by kernel_rfl) ?_; clear M; intro w2 M
  refine k_pure (listed' := #[true, false, false, false, false, false, false, false, false, false, false, false, false]) 0 S rfl rfl rfl rfl (by kernel_rfl) rfl (fun _ d _ _ _ h => by cases d <;> exact h) (fun w => y_move S rfl) ?_; clear S a; intro a S
  refine k_pure (listed' := #[true, true, false, false, false, false, false, false, false, false, false, false, false]) 1 S rfl rfl rfl rfl (by kernel_rfl) rfl (fun _ d _ _ _ h => by cases d <;> exact h) (fun w => y_move S rfl) ?_; clear S a; intro a S
  refine k_pure (listed' := #[true, true, true, false, false, false, false, false, false, false, false, false, false]) 2 S rfl rfl rfl rfl (by kernel_rfl) rfl (fun _ d _ _ _ h => by cases d <;> exact h) (fun w => y_nilCheck S rfl) ?_; clear S a; intro a S
  refine k_pure (listed' := #[true, true, true, true, false, false, false, false, false, false, false, false, false]) 3 S rfl rfl rfl rfl (by kernel_rfl) rfl (fun _ d _ _ _ h => by cases d <;> exact h) (fun w => y_fieldAddr (k := 4) S (by kernel_rfl) rfl) ?_; clear S a; intro a S
  refine k_pure (listed' := #[true, true, true, true, true, false, false, false, false, false, false, false, false]) 4 S rfl rfl rfl rfl (by kernel_rfl) rfl (fun _ d _ _ _ h => by cases d <;> exact h) (fun w => y_fieldAddr (k := 2) S (by kernel_rfl) rfl) ?_; clear S a; intro a S
  refine k_read (listed' := #[true, true, true, true, true, true, false, false, false, false, false, false, false]) 5 S rfl rfl rfl rfl (by kernel_rfl) rfl (fun _ d _ _ _ h => by cases d <;> exact h) (fun w hW => have M := M.grow hW; y_load S (by kernel_rfl) rfl (M.cell 1 rfl rfl)) ?_; clear S a; intro a S
  refine k_read (listed' := #[true, true, true, true, true, true, true, false, false, false, false, false, false]) 6 S rfl rfl rfl rfl (by kernel_rfl) rfl (fun _ d _ _ _ h => by cases d <;> exact h) (fun w hW => have M := M.grow hW; y_loadAgg (cs := [_, _, _, _, _, _, _, _, _, _, _, _, _, _]) S (by kernel_rfl) rfl rfl (M.cellsAt (k := 14) 0 rfl rfl)) ?_; clear S a; intro a S
  refine k_one (listed' := #[true, true, true, true, true, true, true, true, false, false, false, false, false]) 7 rfl (by kernel_rfl) rfl ?_
  refine st_lit (ps := [(0, (Operand.tmp 10))]) (e := 71) (sz := 14) (zl := [.int .i8 0, .int .i64 0, .int .i64 0, .int .i64 0, .int .i64 0, .int .u8 0, .int .u8 0, .int .u8 0, .int .u8 0, .int .u8 0, .int .u8 0, .int .u8 0, .int .u8 0, .int .i64 0]) (cs := [_, _, _, _, _, _, _, _, _, _, _, _, _, _]) S M rfl rfl (by kernel_rfl) rfl (rfl) ?_; clear S M a; intro a w3 bZ S M hB
  refine wpList_nil ?_; refine then_normal ?_; refine ⟨fun _ => hB, ?_⟩
  refine k_one (listed' := #[true, true, true, true, true, true, true, true, true, false, false, false, false]) 8 rfl (by kernel_rfl) rfl ?_
  refine st_append (e := 71) (sz := 14) (by_ := 56) (zc := [.int .i8 0, .int .i64 0, .int .i64 0, .int .i64 0, .int .i64 0, .int .u8 0, .int .u8 0, .int .u8 0, .int .u8 0, .int .u8 0, .int .u8 0, .int .u8 0, .int .u8 0, .int .i64 0]) S M 7 rfl rfl (by kernel_rfl) rfl (by decide) rfl rfl rfl (show Rd _ _ _ 14 _ 1 x.cellsL from M.sliceAt 0 rfl (M.cellsAt (k := 14) 0 rfl rfl) rfl (Nat.le_refl _) (by unfold maxLen; omega)) (rfl) (by omega) (by unfold maxLen; omega) ?_; clear S M a; intro a w4 vA loA hiA S M
  refine wpList_nil ?_; refine then_normal ?_; refine ⟨fun h => absurd h (by decide), ?_⟩
  refine k_pure (listed' := #[true, true, true, true, true, true, true, true, true, true, false, false, false]) 9 S rfl rfl rfl rfl (by kernel_rfl) rfl (fun _ d _ _ _ h => by cases d <;> exact h) (fun w => y_nilCheck S rfl) ?_; clear S a; intro a S
  refine k_pure (listed' := #[true, true, true, true, true, true, true, true, true, true, true, false, false]) 10 S rfl rfl rfl rfl (by kernel_rfl) rfl (fun _ d _ _ _ h => by cases d <;> exact h) (fun w => y_fieldAddr (k := 4) S (by kernel_rfl) rfl) ?_; clear S a; intro a S
  refine k_pure (listed' := #[true, true, true, true, true, true, true, true, true, true, true, true, false]) 11 S rfl rfl rfl rfl (by kernel_rfl) rfl (fun _ d _ _ _ h => by cases d <;> exact h) (fun w => y_fieldAddr (k := 2) S (by kernel_rfl) rfl) ?_; clear S a; intro a S
  refine k_one (listed' := #[true, true, true, true, true, true, true, true, true, true, true, true, true]) 12 rfl (by kernel_rfl) rfl ?_
  obtain ⟨aA, cA, rfl, -, -⟩ := (M.readAll 0 rfl (by unfold maxLen; omega)).form
  refine st_store (sz := 1) (us := [_]) S M 3 rfl (by kernel_rfl) rfl rfl rfl rfl rfl rfl (by first | decide | (simp; done) | (simp; omega)) ?_; clear M; intro w5 M
  simp only [putL, List.set_cons_zero, List.set_cons_succ, Nat.reduceAdd] at M
  refine wpList_nil ?_; refine then_normal ?_; refine ⟨fun h => absurd h (by decide), ?_⟩
  refine k_end (by kernel_rfl) ?_
  refine end_noneN S rfl ?_
  refine ⟨rfl, ?_⟩
  replace M := M.drop 1
  simp only [List.eraseIdx_cons_succ, List.eraseIdx_cons_zero] at M
  replace M := M.drop 1
  simp only [List.eraseIdx_cons_succ, List.eraseIdx_cons_zero] at M
  replace M := M.front 5 rfl
  simp only [List.eraseIdx_cons_succ, List.eraseIdx_cons_zero] at M
  replace M := M.front 5 rfl
  simp only [List.eraseIdx_cons_succ, List.eraseIdx_cons_zero] at M
  replace M := M.front 5 rfl
  simp only [List.eraseIdx_cons_succ, List.eraseIdx_cons_zero] at M
  replace M := M.front 5 rfl
  simp only [List.eraseIdx_cons_succ, List.eraseIdx_cons_zero] at M
  replace M := M.front 5 rfl
  simp only [List.eraseIdx_cons_succ, List.eraseIdx_cons_zero] at M
  refine Dsk.closeR (D := D.seen x) rl ro rm ra ⟨aA, cA, loA, hiA⟩ rc re ?_
  have h1 : (D.seen x).t.seen.length = D.t.seen.length + 1 := by simp
  have h2 : fm Seen_.cellsL (D.seen x).t.seen = fm Seen_.cellsL D.t.seen ++ x.cellsL := fm_snoc _ _ _
  show Mem wc _ (.blk b [rl.v D.s.l.length, .int .i64 D.s.last, .int .i64 D.s.inc, ro.v D.s.over.length, rm.v D.t.mail.length, ra.v D.t.ans.length, .slice aA (D.seen x).t.seen.length cA, rc.v D.t.com.length, re.v D.t.ends.length, _, _, _, _, _, _, _, _].toArray 79 :: _ :: _ :: _ :: _ :: rowE loA hiA 71 14 (.slice aA (D.seen x).t.seen.length cA) (D.seen x).t.seen.length (fm Seen_.cellsL (D.seen x).t.seen) :: _)
  rw [h1, h2]
  exact M
theorem seen_any {wc w : World} {A E : List Ent} {b : Nat} {D : Dsk} (x : Seen_) (hE : DeskE b D E) (M : Mem wc w (A ++ E)) (hs : D.small) :
    Calls Try.prog 34 #[.pointer (some ⟨b, 0, none⟩), .agg x.cellsL.toArray] w fun e w' => e = .returned (.tuple #[]) ∧ ∃ E', DeskE b (D.seen x) E' ∧ Mem wc w' (A ++ E') := by
  obtain ⟨pa, pc, hR⟩ := hE.ref
  refine Calls.mono (seen_anyR x hR M hs) fun e w' h => ?_
  obtain ⟨h1, E', h2, h3⟩ := h
  exact ⟨h1, E', h2.desk, h3⟩
/-- a call but for its data -/
structure Cal where
  kind : Int
  c : Int
  h : Int
  block : Int
  stamp : Int
abbrev Cal.cellsL (c : Cal) (dv : Value) : List Value := [.int .i8 c.kind, .int .i64 c.c, .int .i64 c.h, .int .i64 c.block, dv, .int .i64 c.stamp]
def zV8 : V8 := ⟨0, 0, 0, 0, 0, 0, 0, 0⟩
abbrev Dsk.refused (D : Dsk) (c : Cal) (e : Int) : Dsk := D.answer ⟨c.c, c.h, e, zV8, 0, c.kind⟩
theorem refused_any {wc w : World} {A E : List Ent} {b : Nat} {D : Dsk} (c : Cal) (da : Option Addr) (dl dc : Nat) (er : Int) (hE : DeskE b D E) (M : Mem wc w (A ++ E)) (hs : D.small) :
    Calls Try.prog 32 #[.pointer (some ⟨b, 0, none⟩), .agg (c.cellsL (.slice da dl dc)).toArray, .int .i64 er] w fun e w' => e = .returned (.tuple #[]) ∧ ∃ E', DeskE b (D.refused c er) E' ∧ Mem wc w' (A ++ E') := by
  refine calls_enter Try.func32 rfl 16 rfl rfl ?_; intro a S
  refine nxD ?_
  refine st_box S M rfl rfl rfl #[_, _, _, _, _, _] rfl ?_; clear S M a; intro a w1 bX S M hB
  refine nxB ?_
  refine st_run [1, 2, 1, 3, 1, 1, 1, 1] S M rfl (by kernel_rfl) ?_; clear S a; intro a S
  refine st_y S rfl rfl rfl (y_build (ps := [(0, (Operand.tmp 8)), (1, (Operand.tmp 10)), (2, (Operand.tmp 11)), (5, (Operand.tmp 13))]) (pl := [(0, 1), (1, 1), (2, 1), (3, 8), (11, 1), (12, 1)]) (z := [.int .i64 0, .int .i64 0, .int .i64 0, .int .u8 0, .int .u8 0, .int .u8 0, .int .u8 0, .int .u8 0, .int .u8 0, .int .u8 0, .int .u8 0, .int .i64 0, .int .i8 0]) (cs := [_, _, _, _, _, _, _, _, _, _, _, _, _]) S (by kernel_rfl) rfl (rfl)) ?_; clear S a; intro a S
  refine st_call (xs := [(Operand.tmp 6), (Operand.tmp 14)]) S (enters_of Try.func33 (by decide) rfl) rfl rfl rfl (answer_any (A := _ :: A) ⟨c.c, c.h, er, zV8, 0, c.kind⟩ hE M hs) ?_
  rintro _ w2 ⟨rfl, E', hE', M1⟩; refine ⟨_, rfl, ?_⟩; clear S M a; intro a S; have M := M1; clear M1
  refine wpList_nil ?_
  refine end_noneN S rfl ?_
  exact ⟨rfl, E', hE', M.drop 0⟩
/-! find -/
def FirstP {α : Type} (l : List α) (p : α → Bool) (j : Int) : Prop := (∃ (k : Nat) (q : α), j = (k : Int) ∧ l[k]? = some q ∧ p q = true ∧ ∀ (i : Nat) (q' : α), i < k → l[i]? = some q' → p q' = false) ∨ (j = -1 ∧ ∀ q ∈ l, p q = false)
theorem findO_any {f : FuncId} {fi ca : List Value} (hE : Enters Try.prog f) (va : Option Addr) (vc : Nat) (l : List Ope) (p : Ope → Bool) (w : World) (hv : Rd 0 w.heap.size w 37 (.slice va l.length vc) l.length (fm Ope.cellsL l))
    (hstep : ∀ (x : Ope) (w' : World), Below w.heap.size w w' → Calls Try.prog f (fi ++ ([Value.agg x.cellsL.toArray] ++ ca)).toArray w' (fun e w'' => e = .returned (.bool (p x)) ∧ Below w'.heap.size w' w'')) :
    Calls Try.prog 37 #[.slice va l.length vc, .func (.func f) fi.toArray ca.toArray] w (fun e w' => ∃ j, e = .returned (.int .i64 j) ∧ Below w.heap.size w w' ∧ FirstP l p j) := by
  have M := Mem.start w
  have hl := hv.2.1
  unfold maxLen at hl
  refine calls_enter Try.func37 rfl 19 rfl rfl ?_; intro a S
  refine nxD ?_
  refine st_go [1] S rfl (by kernel_rfl) ?_; clear S a; intro a S
  refine nxC ?_
  refine wp_seq ?_
  refine nxD ?_
  refine st_go [1] S rfl (by kernel_rfl) ?_; clear S a; intro a S
  refine st_y S rfl rfl rfl (y_lenR (E := 65) S rfl (M.arg hv) (by kernel_rfl)) ?_; clear S a; intro a S
  refine st_go [1] S rfl (by kernel_rfl) ?_; clear S a; intro a S
  refine nxC ?_
  refine wp_block ?_
  refine wp_loop_g (fun m a w' => ∃ (k : Nat), k ≤ l.length ∧ m = l.length - k ∧ Sees 19 a [(0, .slice va l.length vc), (1, .func (.func f) fi.toArray ca.toArray), (7, .slice va l.length vc), (8, .int .i64 (l.length : Int)), (9, .int .i64 (k : Int))] ∧ Mem w w' [] ∧ ∀ (i : Nat) (q : Ope), i < k → l[i]? = some q → p q = false) (l.length) ?_ ?_
  · skip
    exact ⟨0, Nat.zero_le _, rfl, S.sub _ rfl, M, fun i q h => absurd h (by omega)⟩
  clear S M a; intro m a wl
  rintro ⟨k, hk, rfl, S, M, hpre⟩
  refine nxD ?_
  refine st_go [1] S rfl (by kernel_rfl) ?_; clear S a; intro a S
  refine nxC ?_
  refine wp_seq ?_
  refine st_fi (t := 10) S rfl ?_ ?_
  · clear S; intro h10 S
    refine st_condF S rfl ?_
    refine wp_exit ?_
    refine then_exit ?_
    refine then_exit ?_
    refine block_hit ?_
    refine nxE ?_
    refine st_go [1] S rfl (by kernel_rfl) ?_; clear S a; intro a S
    refine nxC ?_
    refine wp_ret ?_
    refine end_one S rfl (res_tmp rfl) ?_
    obtain rfl : k = l.length := by omega
    refine ⟨-1, rfl, M.below, .inr ⟨rfl, fun q hq => ?_⟩⟩
    obtain ⟨i, hi⟩ := List.getElem?_of_mem hq
    exact hpre i q (List.getElem?_eq_some_iff.1 hi).1 hi
  clear S; intro h10 S
  refine st_condT S rfl ?_
  refine wp_skip ?_
  refine then_normal ?_
  refine wp_seq ?_
  refine wp_block ?_
  refine wp_seq ?_
  obtain ⟨q, hq⟩ : ∃ q, l[k]? = some q := ⟨_, List.getElem?_eq_getElem (by omega)⟩
  refine wp_region_lit ?_
  refine st_go [1] S rfl (by kernel_rfl) ?_; clear S a; intro a S
  refine st_y S rfl rfl rfl (y_indexR (e := 65) (sz := 37) S (by kernel_rfl) rfl ((M.arg hv)) rfl (by first | omega | (simp; done) | (simp; omega))) ?_; clear S a; intro a S
  try simp only [Int.toNat_natCast, Nat.mul_one, Nat.zero_add] at S
  refine st_y S rfl rfl rfl (y_loadAgg S (by kernel_rfl) rfl rfl ((M.arg hv).at_.row (i := k) (fm_get len_ope hq) rfl)) ?_; clear S a; intro a S
  refine st_alloc S M rfl rfl #[.int .i64 0, .int .i64 0, .int .i64 0, .int .i64 0, .int .i64 0, .int .i8 0, .int .i64 0, .int .i64 0, .int .i64 0, .int .i64 0, .int .i64 0, .int .i64 0, .int .i64 0, .int .i8 0, .int .i64 0, .int .i64 0, .int .i64 0, .int .i64 0, .int .i64 0, .int .i64 0, .int .i64 0, .int .i64 0, .int .i8 0, .int .i64 0, .int .u8 0, .int .u8 0, .int .u8 0, .int .u8 0, .int .u8 0, .int .u8 0, .int .u8 0, .int .u8 0, .int .i64 0, .bool false, .int .i64 0, .int .i64 0, .slice none 0 0] (by kernel_rfl) ?_; clear S M a; intro a w1 bX S M hB
  refine st_go [1] S rfl (by kernel_rfl) ?_; clear S a; intro a S
  refine st_store (sz := 37) (us := [_, _, _, _, _, _, _, _, _, _, _, _, _, _, _, _, _, _, _, _, _, _, _, _, _, _, _, _, _, _, _, _, _, _, _, _, _]) S M 0 rfl (by kernel_rfl) rfl rfl rfl rfl rfl rfl (by first | decide | (simp; done) | (simp; omega)) ?_; clear M; intro w2 M
  simp only [putL, List.set_cons_zero, List.set_cons_succ, Nat.reduceAdd] at M
  refine nxA ?_
  refine st_go [1] S rfl (by kernel_rfl) ?_; clear S a; intro a S
  refine st_y S rfl rfl rfl (y_loadAgg (cs := [_, _, _, _, _, _, _, _, _, _, _, _, _, _, _, _, _, _, _, _, _, _, _, _, _, _, _, _, _, _, _, _, _, _, _, _, _]) S (by kernel_rfl) rfl rfl (M.cellsAt (k := 37) 0 rfl rfl)) ?_; clear S a; intro a S
  refine st_callB (xs := [(Operand.tmp 15)]) (fi := fi) (ca := ca) S (hE) rfl rfl (rfl) rfl (hstep q _ M.below) ?_
  rintro _ w3 ⟨rfl, hK⟩; refine ⟨_, rfl, ?_⟩; clear S a; intro a S; replace M := M.grow hK
  refine nxC ?_
  refine st_split (t := 16) S rfl ?_ ?_
  · clear S; intro h16 S
    refine st_condT S rfl ?_
    refine nxD ?_
    refine st_go [1, 1] S rfl (by kernel_rfl) ?_; clear S a; intro a S
    refine nxC ?_
    refine wp_ret ?_
    refine block_ret ?_
    refine then_ret ?_
    refine then_ret ?_
    refine block_ret ?_
    refine then_ret ?_
    refine end_one S rfl (res_tmp rfl) ?_
    exact ⟨(k : Int), rfl, M.below, .inl ⟨k, q, rfl, hq, h16, hpre⟩⟩
  clear S; intro h16 S
  refine st_condF S rfl ?_
  refine wp_skip ?_
  refine block_normal ?_
  refine nxF ?_
  (first | refine st_y S rfl rfl rfl (y_addN S rfl rfl (by omega)) ?_ | refine st_y S rfl rfl rfl (y_int S rfl rfl rfl) ?_); clear S a; intro a S
  refine st_go [1] S rfl (by kernel_rfl) ?_; clear S a; intro a S
  refine nxC ?_
  skip
  replace M := M.drop 0
  simp only [List.eraseIdx_cons_succ, List.eraseIdx_cons_zero] at M
  refine ⟨l.length - (k + 1), by omega, k + 1, by omega, rfl, S.sub _ rfl, M, fun i q' hi hq' => ?_⟩
  rcases Nat.lt_or_ge i k with h | h
  · exact hpre i q' h hq'
  · obtain rfl : i = k := by omega
    rw [hq] at hq'; obtain rfl := Option.some.inj hq'; exact h16
theorem findE_any {f : FuncId} {fi ca : List Value} (hE : Enters Try.prog f) (va : Option Addr) (vc : Nat) (l : List End_) (p : End_ → Bool) (w : World) (hv : Rd 0 w.heap.size w 5 (.slice va l.length vc) l.length (fm End_.cellsL l))
    (hstep : ∀ (x : End_) (w' : World), Below w.heap.size w w' → Calls Try.prog f (fi ++ ([Value.agg x.cellsL.toArray] ++ ca)).toArray w' (fun e w'' => e = .returned (.bool (p x)) ∧ Below w'.heap.size w' w'')) :
    Calls Try.prog 35 #[.slice va l.length vc, .func (.func f) fi.toArray ca.toArray] w (fun e w' => ∃ j, e = .returned (.int .i64 j) ∧ Below w.heap.size w w' ∧ FirstP l p j) := by
  have M := Mem.start w
  have hl := hv.2.1
  unfold maxLen at hl
  refine calls_enter Try.func35 rfl 19 rfl rfl ?_; intro a S
  refine nxD ?_
  refine st_go [1] S rfl (by kernel_rfl) ?_; clear S a; intro a S
  refine nxC ?_
  refine wp_seq ?_
  refine nxD ?_
  refine st_go [1] S rfl (by kernel_rfl) ?_; clear S a; intro a S
  refine st_y S rfl rfl rfl (y_lenR (E := 91) S rfl (M.arg hv) (by kernel_rfl)) ?_; clear S a; intro a S
  refine st_go [1] S rfl (by kernel_rfl) ?_; clear S a; intro a S
  refine nxC ?_
  refine wp_block ?_
  refine wp_loop_g (fun m a w' => ∃ (k : Nat), k ≤ l.length ∧ m = l.length - k ∧ Sees 19 a [(0, .slice va l.length vc), (1, .func (.func f) fi.toArray ca.toArray), (7, .slice va l.length vc), (8, .int .i64 (l.length : Int)), (9, .int .i64 (k : Int))] ∧ Mem w w' [] ∧ ∀ (i : Nat) (q : End_), i < k → l[i]? = some q → p q = false) (l.length) ?_ ?_
  · skip
    exact ⟨0, Nat.zero_le _, rfl, S.sub _ rfl, M, fun i q h => absurd h (by omega)⟩
  clear S M a; intro m a wl
  rintro ⟨k, hk, rfl, S, M, hpre⟩
  refine nxD ?_
  refine st_go [1] S rfl (by kernel_rfl) ?_; clear S a; intro a S
  refine nxC ?_
  refine wp_seq ?_
  refine st_fi (t := 10) S rfl ?_ ?_
  · clear S; intro h10 S
    refine st_condF S rfl ?_
    refine wp_exit ?_
    refine then_exit ?_
    refine then_exit ?_
    refine block_hit ?_
    refine nxE ?_
    refine st_go [1] S rfl (by kernel_rfl) ?_; clear S a; intro a S
    refine nxC ?_
    refine wp_ret ?_
    refine end_one S rfl (res_tmp rfl) ?_
    obtain rfl : k = l.length := by omega
    refine ⟨-1, rfl, M.below, .inr ⟨rfl, fun q hq => ?_⟩⟩
    obtain ⟨i, hi⟩ := List.getElem?_of_mem hq
    exact hpre i q (List.getElem?_eq_some_iff.1 hi).1 hi
  clear S; intro h10 S
  refine st_condT S rfl ?_
  refine wp_skip ?_
  refine then_normal ?_
  refine wp_seq ?_
  refine wp_block ?_
  refine wp_seq ?_
  obtain ⟨q, hq⟩ : ∃ q, l[k]? = some q := ⟨_, List.getElem?_eq_getElem (by omega)⟩
  refine wp_region_lit ?_
  refine st_go [1] S rfl (by kernel_rfl) ?_; clear S a; intro a S
  refine st_y S rfl rfl rfl (y_indexR (e := 91) (sz := 5) S (by kernel_rfl) rfl ((M.arg hv)) rfl (by first | omega | (simp; done) | (simp; omega))) ?_; clear S a; intro a S
  try simp only [Int.toNat_natCast, Nat.mul_one, Nat.zero_add] at S
  refine st_y S rfl rfl rfl (y_loadAgg S (by kernel_rfl) rfl rfl ((M.arg hv).at_.row (i := k) (fm_get len_end hq) rfl)) ?_; clear S a; intro a S
  refine st_alloc S M rfl rfl #[.int .i64 0, .int .i64 0, .int .i64 0, .int .i64 0, .int .i64 0] (by kernel_rfl) ?_; clear S M a; intro a w1 bX S M hB
  refine st_go [1] S rfl (by kernel_rfl) ?_; clear S a; intro a S
  refine st_store (sz := 5) (us := [_, _, _, _, _]) S M 0 rfl (by kernel_rfl) rfl rfl rfl rfl rfl rfl (by first | decide | (simp; done) | (simp; omega)) ?_; clear M; intro w2 M
  simp only [putL, List.set_cons_zero, List.set_cons_succ, Nat.reduceAdd] at M
  refine nxA ?_
  refine st_go [1] S rfl (by kernel_rfl) ?_; clear S a; intro a S
  refine st_y S rfl rfl rfl (y_loadAgg (cs := [_, _, _, _, _]) S (by kernel_rfl) rfl rfl (M.cellsAt (k := 5) 0 rfl rfl)) ?_; clear S a; intro a S
  refine st_callB (xs := [(Operand.tmp 15)]) (fi := fi) (ca := ca) S (hE) rfl rfl (rfl) rfl (hstep q _ M.below) ?_
  rintro _ w3 ⟨rfl, hK⟩; refine ⟨_, rfl, ?_⟩; clear S a; intro a S; replace M := M.grow hK
  refine nxC ?_
  refine st_split (t := 16) S rfl ?_ ?_
  · clear S; intro h16 S
    refine st_condT S rfl ?_
    refine nxD ?_
    refine st_go [1, 1] S rfl (by kernel_rfl) ?_; clear S a; intro a S
    refine nxC ?_
    refine wp_ret ?_
    refine block_ret ?_
    refine then_ret ?_
    refine then_ret ?_
    refine block_ret ?_
    refine then_ret ?_
    refine end_one S rfl (res_tmp rfl) ?_
    exact ⟨(k : Int), rfl, M.below, .inl ⟨k, q, rfl, hq, h16, hpre⟩⟩
  clear S; intro h16 S
  refine st_condF S rfl ?_
  refine wp_skip ?_
  refine block_normal ?_
  refine nxF ?_
  (first | refine st_y S rfl rfl rfl (y_addN S rfl rfl (by omega)) ?_ | refine st_y S rfl rfl rfl (y_int S rfl rfl rfl) ?_); clear S a; intro a S
  refine st_go [1] S rfl (by kernel_rfl) ?_; clear S a; intro a S
  refine nxC ?_
  skip
  replace M := M.drop 0
  simp only [List.eraseIdx_cons_succ, List.eraseIdx_cons_zero] at M
  refine ⟨l.length - (k + 1), by omega, k + 1, by omega, rfl, S.sub _ rfl, M, fun i q' hi hq' => ?_⟩
  rcases Nat.lt_or_ge i k with h | h
  · exact hpre i q' h hq'
  · obtain rfl : i = k := by omega
    rw [hq] at hq'; obtain rfl := Option.some.inj hq'; exact h16
end Go.Proofs.Ytniijiipkfhjgaa

namespace Go.Proofs.Ytniijiipkfhjgaa
open Go.RowKit Go.Sort
theorem Try.cellsByte : Try.prog.cellsOf 5 = 1 := by kernel_rfl
theorem Try.hasInfoByte : (Try.prog.info? 5).isSome = true := by kernel_rfl
abbrev V8.cells (a : V8) : Array Value := #[.int .u8 (a.v0.toNat : Int), .int .u8 (a.v1.toNat : Int), .int .u8 (a.v2.toNat : Int), .int .u8 (a.v3.toNat : Int), .int .u8 (a.v4.toNat : Int), .int .u8 (a.v5.toNat : Int), .int .u8 (a.v6.toNat : Int), .int .u8 (a.v7.toNat : Int)]
abbrev Wr.cells (a : Wr) : Array Value := #[.int .i64 a.block, .int .u8 (a.val.v0.toNat : Int), .int .u8 (a.val.v1.toNat : Int), .int .u8 (a.val.v2.toNat : Int), .int .u8 (a.val.v3.toNat : Int), .int .u8 (a.val.v4.toNat : Int), .int .u8 (a.val.v5.toNat : Int), .int .u8 (a.val.v6.toNat : Int), .int .u8 (a.val.v7.toNat : Int)]
theorem equalV8 (d : Nat) (a b : V8) (w : World) : (Op.equalIn (d + 2) 42 (.agg a.cells) (.agg b.cells)).run Try.prog w = .ok (a.eqb b) w := by
  obtain ⟨i, hi⟩ := Option.isSome_iff_exists.1 Try.hasInfoByte
  rw [run_equalIn_array w (d + 1) _ _ Try.underlying42 hi, Try.cellsByte]
  simp only [List.range, List.range.loop, Op.eqItems, part, isAgg, Sem.run_bind, run_underlying Try.underlying5, Result.andThen_ok]
  simp [run_equalIn_int w d 5 .u8 .u8 _ _ Try.underlying5, V8.eqb]
  (repeat' split) <;> simp_all
theorem equalNm (d : Nat) (a b : Nm) (w : World) : (Op.equalIn (d + 2) 40 (.agg a.cells) (.agg b.cells)).run Try.prog w = .ok (a.eqb b) w := by
  simp [go_sem, Nm.eqb]
  (repeat' split) <;> simp_all
theorem equalWr (d : Nat) (a b : Wr) (w : World) : (Op.equalIn (d + 3) 122 (.agg a.cells) (.agg b.cells)).run Try.prog w = .ok (a.eqb b) w := by
  have h := equalV8 d a.val b.val w
  simp only [V8.cells] at h
  simp [go_sem, h, Wr.eqb]
  (repeat' split) <;> simp_all
end Go.Proofs.Ytniijiipkfhjgaa

namespace Go.Proofs.Ytniijiipkfhjgaa
open Go.RowKit Go.Sort
variable {ds : List Deferred}
variable {P : Program} {n : Nat} {a : Act} {L : List (Nat × Value)} {w : World}
theorem y_eqlG {x y : Operand} {A B : Array Value} {r : Bool} {xt : TypeId} (hG : P.eqGuardType P.depth xt = false) (S : SeesD ds n a L) (hx : val L x = some (.agg A)) (hy : val L y = some (.agg B)) (hE : ∀ w, (Op.equalIn 10000 xt (.agg A) (.agg B)).run P w = .ok r w) {d : Option Tmp} {yt t : TypeId} {p : String} {e : Array Edge} {g : Option (Nat × Bool)} :
    Yields P a ⟨d, .binOp .eql xt x y yt, t, p, e, g⟩ w (.bool r) := by
  unfold Yields execOp; simp only [S.eval hx, S.eval hy, eqGuard, Sem.run_bind]
  simp [hG, hE w, go_sem]
theorem y_neqG {x y : Operand} {A B : Array Value} {r : Bool} {xt : TypeId} (hG : P.eqGuardType P.depth xt = false) (S : SeesD ds n a L) (hx : val L x = some (.agg A)) (hy : val L y = some (.agg B)) (hE : ∀ w, (Op.equalIn 10000 xt (.agg A) (.agg B)).run P w = .ok r w) {d : Option Tmp} {yt t : TypeId} {p : String} {e : Array Edge} {g : Option (Nat × Bool)} :
    Yields P a ⟨d, .binOp .neq xt x y yt, t, p, e, g⟩ w (.bool (!r)) := by
  unfold Yields execOp; simp only [S.eval hx, S.eval hy, eqGuard, Sem.run_bind]
  simp [hG, hE w, go_sem]
end Go.Proofs.Ytniijiipkfhjgaa

namespace Go.Proofs.Ytniijiipkfhjgaa
open Go.RowKit Go.Sort
theorem nameq_any (o : Ope) (b : Nat) (n : Nm) (w : World) (hb : Blk w b (nmL n).toArray 40) : Calls Try.prog 52 #[.agg o.cellsL.toArray, .pointer (some ⟨b, 0, none⟩)] w fun e w' => e = .returned (.bool (o.nm.stamp == n.stamp)) ∧ Below w.heap.size w w' := by
  have M := Mem.start w
  refine calls_enter Try.func52 rfl 10 rfl rfl ?_; intro a S
  refine nxD ?_
  refine st_box S M rfl rfl rfl #[_, _, _, _, _, _, _, _, _, _, _, _, _, _, _, _, _, _, _, _, _, _, _, _, _, _, _, _, _, _, _, _, _, _, _, _, _] rfl ?_; clear S M a; intro a w1 b1 S M hB
  refine st_go [1] S rfl (by kernel_rfl) ?_; clear S a; intro a S
  refine nxA ?_
  refine st_run [3, 1, 1, 1] S M rfl (by kernel_rfl) ?_; clear S a; intro a S
  refine st_y S rfl rfl rfl (y_load S (by kernel_rfl) rfl ((hb.ext M.below).cells 0)) ?_; clear S a; intro a S
  refine st_go [1, 1] S rfl (by kernel_rfl) ?_; clear S a; intro a S
  refine nxC ?_
  refine wp_ret ?_
  refine end_one S rfl (res_tmp rfl) ?_
  refine ⟨ret_bool ?_, M.below⟩; clear S M; first | rfl | (rw [Bool.eq_iff_iff]; simp)
theorem placeq_any (o : Ope) (b : Nat) (n : Nm) (w : World) (hb : Blk w b (nmL n).toArray 40) : Calls Try.prog 46 #[.agg o.cellsL.toArray, .pointer (some ⟨b, 0, none⟩)] w fun e w' => e = .returned (.bool (o.nm.eqb n)) ∧ Below w.heap.size w w' := by
  have M := Mem.start w
  refine calls_enter Try.func46 rfl 8 rfl rfl ?_; intro a S
  refine nxD ?_
  refine st_box S M rfl rfl rfl #[_, _, _, _, _, _, _, _, _, _, _, _, _, _, _, _, _, _, _, _, _, _, _, _, _, _, _, _, _, _, _, _, _, _, _, _, _] rfl ?_; clear S M a; intro a w1 b1 S M hB
  refine st_go [1] S rfl (by kernel_rfl) ?_; clear S a; intro a S
  refine nxA ?_
  refine st_go [3] S rfl (by kernel_rfl) ?_; clear S a; intro a S
  refine st_y S rfl rfl rfl (y_loadAgg (cs := [_, _, _]) S (by kernel_rfl) rfl rfl (M.cellsAt (k := 3) 0 rfl rfl)) ?_; clear S a; intro a S
  refine st_y S rfl rfl rfl (y_loadAgg S (by kernel_rfl) rfl rfl (Blk.cellsAt (hb.ext M.below) cutL_all)) ?_; clear S a; intro a S
  refine st_y S rfl rfl rfl (y_eqlG (by kernel_rfl) S rfl rfl (fun w => equalNm 9998 ⟨_, _, _⟩ ⟨_, _, _⟩ w)) ?_; clear S a; intro a S
  refine st_go [1] S rfl (by kernel_rfl) ?_; clear S a; intro a S
  refine nxC ?_
  refine wp_ret ?_
  refine end_one S rfl (res_tmp rfl) ?_
  exact ⟨rfl, M.below⟩
theorem place_any (va : Option Addr) (vc : Nat) (l : List Ope) (last inc : Int) (ov : Value) (n : Nm) (w : World) (hv : Rd 0 w.heap.size w 37 (.slice va l.length vc) l.length (fm Ope.cellsL l)) :
    Calls Try.prog 22 #[.agg #[.slice va l.length vc, .int .i64 last, .int .i64 inc, ov], .agg (nmL n).toArray] w (fun e w' => ∃ j, e = .returned (.int .i64 j) ∧ Below w.heap.size w w' ∧ FirstP l (fun o => o.nm.eqb n) j) := by
  have M := Mem.start w
  refine calls_enter Try.func22 rfl 9 rfl rfl ?_; intro a S
  refine nxD ?_
  refine st_box S M rfl rfl rfl #[_, _, _, _] rfl ?_; clear S M a; intro a w1 b1 S M hB
  refine st_box S M rfl rfl rfl #[_, _, _] rfl ?_; clear S M a; intro a w2 bN S M hB
  refine st_go [1] S rfl (by kernel_rfl) ?_; clear S a; intro a S
  refine nxA ?_
  refine st_run [1, 2] S M rfl (by kernel_rfl) ?_; clear S a; intro a S
  refine st_y S rfl rfl rfl (y_makeFunc (fs := []) (cs := [(Operand.tmp 3)]) S rfl rfl) ?_; clear S a; intro a S
  refine st_call (xs := [(Operand.tmp 6), (Operand.tmp 7)]) S (enters_of Try.func37 (by decide) rfl) rfl rfl rfl (findO_any (fi := []) (ca := [.pointer (some ⟨bN, 0, none⟩)]) (enters_of Try.func46 (by decide) rfl) va vc l (fun o => o.nm.eqb n) _ (M.argW hv) (fun x w' hw => placeq_any x bN n w' ((M.blk 0 rfl).ext hw))) ?_
  rintro _ w3 ⟨j, rfl, hK, hF⟩; refine ⟨_, rfl, ?_⟩; clear S a; intro a S; replace M := M.grow hK
  refine st_go [1] S rfl (by kernel_rfl) ?_; clear S a; intro a S
  refine nxC ?_
  refine wp_ret ?_
  refine end_one S rfl (res_tmp rfl) ?_
  exact ⟨j, rfl, M.below, hF⟩
def Ope.kind (o : Ope) : Int := if o.ph ≠ 1 then 3 else if o.ex.op = 0 then 1 else 2
theorem kind_any (o : Ope) (w : World) : Calls Try.prog 27 #[.agg o.cellsL.toArray] w fun e w' => e = .returned (.int .i8 o.kind) ∧ Below w.heap.size w w' := by
  have M := Mem.start w
  refine calls_enter Try.func27 rfl 12 rfl rfl ?_; intro a S
  refine nxD ?_
  refine st_box S M rfl rfl rfl #[_, _, _, _, _, _, _, _, _, _, _, _, _, _, _, _, _, _, _, _, _, _, _, _, _, _, _, _, _, _, _, _, _, _, _, _, _] rfl ?_; clear S M a; intro a w1 b1 S M hB
  refine st_go [1] S rfl (by kernel_rfl) ?_; clear S a; intro a S
  refine nxC ?_
  refine wp_seq ?_
  refine wp_block ?_
  refine nxD ?_
  refine st_run [6, 1, 1, 1] S M rfl (by kernel_rfl) ?_; clear S a; intro a S
  refine nxC ?_
  refine st_if (t := 3) S rfl ?_ ?_
  · clear S; intro h3 S
    refine st_condT S rfl ?_
    refine nxD ?_
    refine st_go [1] S rfl (by kernel_rfl) ?_; clear S a; intro a S
    refine nxC ?_
    refine wp_ret ?_
    refine block_ret ?_
    refine then_ret ?_
    refine end_one S rfl (res_tmp rfl) ?_
    exact ⟨by unfold Ope.kind; rw [if_pos (by omega)], M.below⟩
  clear S; intro h3 S
  refine st_condF S rfl ?_
  refine nxD ?_
  refine st_run [14, 10, 1, 1, 1] S M rfl (by kernel_rfl) ?_; clear S a; intro a S
  refine nxC ?_
  refine st_if (t := 7) S rfl ?_ ?_
  · clear S; intro h7 S
    refine st_condT S rfl ?_
    refine nxD ?_
    refine st_go [1] S rfl (by kernel_rfl) ?_; clear S a; intro a S
    refine nxC ?_
    refine wp_ret ?_
    refine block_ret ?_
    refine then_ret ?_
    refine end_one S rfl (res_tmp rfl) ?_
    exact ⟨by unfold Ope.kind; rw [if_neg (by omega), if_pos (by omega)], M.below⟩
  clear S; intro h7 S
  refine st_condF S rfl ?_
  refine wp_skip ?_
  refine block_normal ?_
  refine nxE ?_
  refine st_go [1] S rfl (by kernel_rfl) ?_; clear S a; intro a S
  refine nxC ?_
  refine wp_ret ?_
  refine end_one S rfl (res_tmp rfl) ?_
  exact ⟨by unfold Ope.kind; rw [if_neg (by omega), if_neg (by omega)], M.below⟩
def zMg : Msg := ⟨0, 0, 0, 0, 0, ⟨0, 0, 0⟩, 0, 0, 0, zV8, 0, false, 0, 0⟩
def Ope.fast (o : Ope) : Msg := { zMg with kind := 9, to := o.at_, name := o.nm }
theorem fast_any (o : Ope) (w : World) : Calls Try.prog 26 #[.agg o.cellsL.toArray] w fun e w' => e = .returned (.agg (msgL o.fast).toArray) ∧ Below w.heap.size w w' := by
  have M := Mem.start w
  refine calls_enter Try.func26 rfl 8 rfl rfl ?_; intro a S
  refine nxD ?_
  refine st_box S M rfl rfl rfl #[_, _, _, _, _, _, _, _, _, _, _, _, _, _, _, _, _, _, _, _, _, _, _, _, _, _, _, _, _, _, _, _, _, _, _, _, _] rfl ?_; clear S M a; intro a w1 b1 S M hB
  refine st_alloc S M rfl rfl #[.int .i8 0, .int .i64 0, .int .i64 0, .int .i64 0, .int .i64 0, .int .i64 0, .int .i64 0, .int .i64 0, .int .i64 0, .int .i8 0, .int .i64 0, .int .u8 0, .int .u8 0, .int .u8 0, .int .u8 0, .int .u8 0, .int .u8 0, .int .u8 0, .int .u8 0, .int .i64 0, .bool false, .int .i64 0, .int .i64 0, .slice none 0 0] (by kernel_rfl) ?_; clear S M a; intro a w2 b2 S M hB
  refine nxA ?_
  refine st_run [13, 2, 3] S M rfl (by kernel_rfl) ?_; clear S a; intro a S
  refine st_y S rfl rfl rfl (y_loadAgg (cs := [_, _, _]) S (by kernel_rfl) rfl rfl (M.cellsAt (k := 3) 1 rfl rfl)) ?_; clear S a; intro a S
  refine st_y S rfl rfl rfl (y_build (ps := [(0, (Operand.const (Value.int IntKind.i8 9))), (2, (Operand.tmp 4)), (5, (Operand.tmp 6))]) (pl := [(0, 1), (1, 1), (2, 1), (3, 1), (4, 1), (5, 3), (8, 1), (9, 1), (10, 1), (11, 8), (19, 1), (20, 1), (21, 1), (22, 1), (23, 1)]) (z := [.int .i8 0, .int .i64 0, .int .i64 0, .int .i64 0, .int .i64 0, .int .i64 0, .int .i64 0, .int .i64 0, .int .i64 0, .int .i8 0, .int .i64 0, .int .u8 0, .int .u8 0, .int .u8 0, .int .u8 0, .int .u8 0, .int .u8 0, .int .u8 0, .int .u8 0, .int .i64 0, .bool false, .int .i64 0, .int .i64 0, .slice none 0 0]) (cs := [_, _, _, _, _, _, _, _, _, _, _, _, _, _, _, _, _, _, _, _, _, _, _, _]) S (by kernel_rfl) rfl (rfl)) ?_; clear S a; intro a S
  refine st_store (sz := 24) (us := [_, _, _, _, _, _, _, _, _, _, _, _, _, _, _, _, _, _, _, _, _, _, _, _]) S M 0 rfl (by kernel_rfl) rfl rfl rfl rfl rfl rfl (by first | decide | (simp; done) | (simp; omega)) ?_; clear M; intro w3 M
  simp only [putL, List.set_cons_zero, List.set_cons_succ, Nat.reduceAdd] at M
  refine nxC ?_
  refine wp_ret ?_
  refine end_one S rfl (res_agg (cs := [_, _, _, _, _, _, _, _, _, _, _, _, _, _, _, _, _, _, _, _, _, _, _, _]) (by kernel_rfl) rfl rfl (M.cellsAt (k := 24) 0 rfl rfl)) ?_
  exact ⟨rfl, M.below⟩
theorem stripe_any (n : Int) (w : World) : Calls Try.prog 57 #[.int .i64 n] w fun e w' => e = .returned (.tuple #[.int .i64 (if 0 ≤ n ∧ n < 32 then n / 4 else 0), .int .i64 (if 0 ≤ n ∧ n < 32 then 0 else 230)]) ∧ Below w.heap.size w w' := by
  have M := Mem.start w
  refine calls_enter Try.func57 rfl 12 rfl rfl ?_; intro a S
  refine nxD ?_
  refine st_go [1, 1] S rfl (by kernel_rfl) ?_; clear S a; intro a S
  refine nxC ?_
  refine wp_seq ?_
  refine nxD ?_
  refine st_go [1, 1, 1] S rfl (by kernel_rfl) ?_; clear S a; intro a S
  refine st_if (t := 6) S rfl ?_ ?_
  · clear S; intro h6 S
    refine st_go [0, 0, 1] S rfl (by kernel_rfl) ?_; clear S a; intro a S
    refine nxC ?_
    refine st_condT S rfl ?_
    refine nxD ?_
    refine st_go [1, 1] S rfl (by kernel_rfl) ?_; clear S a; intro a S
    refine nxC ?_
    refine wp_ret ?_
    refine then_ret ?_
    refine end_two S rfl (res_tmp rfl) (res_tmp rfl) ?_
    exact ⟨by rw [if_neg (by omega), if_neg (by omega)], M.below⟩
  clear S; intro h6 S
  refine st_go [1, 1, 1] S rfl (by kernel_rfl) ?_; clear S a; intro a S
  refine nxC ?_
  refine st_if (t := 9) S rfl ?_ ?_
  · clear S; intro h9 S
    refine st_condT S rfl ?_
    refine nxD ?_
    refine st_go [1, 1] S rfl (by kernel_rfl) ?_; clear S a; intro a S
    refine nxC ?_
    refine wp_ret ?_
    refine then_ret ?_
    refine end_two S rfl (res_tmp rfl) (res_tmp rfl) ?_
    exact ⟨by rw [if_neg (by omega), if_neg (by omega)], M.below⟩
  clear S; intro h9 S
  refine st_condF S rfl ?_
  refine wp_skip ?_
  refine nxE ?_
  refine st_go [1] S rfl (by kernel_rfl) ?_; clear S a; intro a S
  refine st_y S rfl rfl rfl (y_quoN S rfl rfl (by omega)) ?_; clear S a; intro a S
  refine st_go [1, 1] S rfl (by kernel_rfl) ?_; clear S a; intro a S
  refine nxC ?_
  refine wp_ret ?_
  refine end_two S rfl (res_tmp rfl) (res_tmp rfl) ?_
  exact ⟨by rw [if_pos (by omega), if_pos (by omega)], M.below⟩
theorem shardIs_any (n : Int) (w : World) : Calls Try.prog 58 #[.int .i64 n] w fun e w' => e = .returned (.bool (decide (1 ≤ n ∧ n ≤ 4))) ∧ Below w.heap.size w w' := by
  have M := Mem.start w
  refine calls_enter Try.func58 rfl 9 rfl rfl ?_; intro a S
  refine nxD ?_
  refine st_go [1] S rfl (by kernel_rfl) ?_; clear S a; intro a S
  refine nxA ?_
  refine st_go [1, 1, 1] S rfl (by kernel_rfl) ?_; clear S a; intro a S
  refine st_if (t := 5) S rfl ?_ ?_
  · clear S; intro h5 S
    refine st_go [1, 1, 1, 1] S rfl (by kernel_rfl) ?_; clear S a; intro a S
    refine nxC ?_
    refine wp_ret ?_
    refine end_one S rfl (res_tmp rfl) ?_
    refine ⟨ret_bool ?_, M.below⟩; clear S M; rw [Bool.eq_iff_iff]; simp only [decide_eq_true_eq]; first | omega | (simp; omega)
  clear S; intro h5 S
  refine st_go [0, 0, 1, 1] S rfl (by kernel_rfl) ?_; clear S a; intro a S
  refine nxC ?_
  refine wp_ret ?_
  refine end_one S rfl (res_tmp rfl) ?_
  refine ⟨ret_bool ?_, M.below⟩; clear S M; rw [Bool.eq_iff_iff]; simp only [decide_eq_true_eq]; first | omega | (simp; omega)
/-- the shard of a block: its number, the error -/
def shardV (of : Of8) (n : Int) : Int := if 0 ≤ n ∧ n < 32 ∧ 1 ≤ of.get (n / 4).toNat ∧ of.get (n / 4).toNat ≤ 4 then of.get (n / 4).toNat else 0
def shardE (of : Of8) (n : Int) : Int := if 0 ≤ n ∧ n < 32 then (if 1 ≤ of.get (n / 4).toNat ∧ of.get (n / 4).toNat ≤ 4 then 0 else 4) else 230
theorem shard_any (of : Of8) (n : Int) (w : World) : Calls Try.prog 53 #[.agg of.cellsL.toArray, .int .i64 n] w fun e w' => e = .returned (.tuple #[.int .i64 (shardV of n), .int .i64 (shardE of n)]) ∧ Below w.heap.size w w' := by
  have M := Mem.start w
  refine calls_enter Try.func53 rfl 24 rfl rfl ?_; intro a S
  refine nxD ?_
  refine st_box S M rfl rfl rfl #[_, _, _, _, _, _, _, _] rfl ?_; clear S M a; intro a w1 bO S M hB
  refine st_go [1, 1] S rfl (by kernel_rfl) ?_; clear S a; intro a S
  refine nxA ?_
  refine st_go [1] S rfl (by kernel_rfl) ?_; clear S a; intro a S
  refine st_call (xs := [(Operand.tmp 9)]) S (enters_of Try.func57 (by decide) rfl) rfl rfl rfl (stripe_any n _) ?_
  rintro _ w2 ⟨rfl, hK⟩; refine ⟨_, rfl, ?_⟩; clear S a; intro a S; replace M := M.grow hK
  refine st_go [1, 1, 1, 1, 1] S rfl (by kernel_rfl) ?_; clear S a; intro a S
  refine nxC ?_
  refine wp_seq ?_
  refine nxD ?_
  refine st_go [1, 1] S rfl (by kernel_rfl) ?_; clear S a; intro a S
  refine nxC ?_
  refine st_if (t := 14) S rfl ?_ ?_
  · clear S; intro h14 S
    refine st_condT S rfl ?_
    refine nxD ?_
    refine st_go [1, 1, 1] S rfl (by kernel_rfl) ?_; clear S a; intro a S
    refine nxC ?_
    refine wp_ret ?_
    refine then_ret ?_
    refine end_two S rfl (res_tmp rfl) (res_tmp rfl) ?_
    have hno : ¬ (0 ≤ n ∧ n < 32) := fun h => h14 (if_pos h)
    refine ⟨?_, M.below⟩
    unfold shardV shardE
    have hno2 : ¬ (0 ≤ n ∧ n < 32 ∧ 1 ≤ of.get (n / 4).toNat ∧ of.get (n / 4).toNat ≤ 4) := fun h => hno ⟨h.1, h.2.1⟩
    simp only [if_neg hno, if_neg hno2]
  clear S; intro h14 S
  refine st_condF S rfl ?_
  refine wp_skip ?_
  refine then_normal ?_
  refine wp_seq ?_
  refine wp_seq ?_
  have hin : 0 ≤ n ∧ n < 32 := by
    by_cases h : 0 ≤ n ∧ n < 32
    · exact h
    · rw [if_neg h] at h14; omega
  obtain ⟨k, hk, hk8⟩ : ∃ k : Nat, n / 4 = (k : Int) ∧ k < 8 := ⟨(n / 4).toNat, by omega, by omega⟩
  have hkn : (n / 4).toNat = k := by omega
  simp only [if_pos hin, hk] at S
  refine wp_region_lit ?_
  refine st_go [1] S rfl (by kernel_rfl) ?_; clear S a; intro a S
  refine st_y S rfl rfl rfl (y_indexA (m := 8) (sz := 1) S (by kernel_rfl) rfl rfl (by first | omega | (simp; done) | (simp; omega))) ?_; clear S a; intro a S
  try simp only [Int.toNat_natCast, Nat.mul_one, Nat.zero_add] at S
  refine st_y S rfl rfl rfl (y_load S (by kernel_rfl) rfl (M.cell 0 rfl (of.at hk8))) ?_; clear S a; intro a S
  refine st_call (xs := [(Operand.tmp 18)]) S (enters_of Try.func58 (by decide) rfl) rfl rfl rfl (shardIs_any _ _) ?_
  rintro _ w3 ⟨rfl, hK⟩; refine ⟨_, rfl, ?_⟩; clear S a; intro a S; replace M := M.grow hK
  refine st_go [1] S rfl (by kernel_rfl) ?_; clear S a; intro a S
  refine nxC ?_
  refine st_if (t := 20) S rfl ?_ ?_
  · clear S; intro h20 S
    refine st_condT S rfl ?_
    refine nxD ?_
    refine st_go [1, 1] S rfl (by kernel_rfl) ?_; clear S a; intro a S
    refine nxC ?_
    refine wp_ret ?_
    refine then_ret ?_
    refine end_two S rfl (res_tmp rfl) (res_tmp rfl) ?_
    refine ⟨?_, M.below⟩
    unfold shardV shardE
    rw [hkn, if_neg (by omega), if_pos hin, if_neg (by omega)]
  clear S; intro h20 S
  refine st_condF S rfl ?_
  refine wp_skip ?_
  refine nxE ?_
  refine st_go [1] S rfl (by kernel_rfl) ?_; clear S a; intro a S
  refine st_y S rfl rfl rfl (y_indexA (m := 8) (sz := 1) S (by kernel_rfl) rfl rfl (by first | omega | (simp; done) | (simp; omega))) ?_; clear S a; intro a S
  try simp only [Int.toNat_natCast, Nat.mul_one, Nat.zero_add] at S
  refine st_y S rfl rfl rfl (y_load S (by kernel_rfl) rfl (M.cell 0 rfl (of.at hk8))) ?_; clear S a; intro a S
  refine st_go [1, 1] S rfl (by kernel_rfl) ?_; clear S a; intro a S
  replace S := S.sub [(0, _), (1, _), (2, _), (6, _), (7, _), (14, _), (20, _), (4, _), (5, _)] rfl
  refine nxC ?_
  refine wp_ret ?_
  refine end_two S rfl (res_tmp rfl) (res_tmp rfl) ?_
  refine ⟨?_, M.below⟩
  unfold shardV shardE
  rw [hkn, if_pos (by omega), if_pos hin, if_pos (by omega)]
end Go.Proofs.Ytniijiipkfhjgaa

namespace Go.Proofs.Ytniijiipkfhjgaa
open Go.RowKit Go.Sort
abbrev V8.cellsL (x : V8) : List Value := [.int .u8 (x.v0.toNat : Int), .int .u8 (x.v1.toNat : Int), .int .u8 (x.v2.toNat : Int), .int .u8 (x.v3.toNat : Int), .int .u8 (x.v4.toNat : Int), .int .u8 (x.v5.toNat : Int), .int .u8 (x.v6.toNat : Int), .int .u8 (x.v7.toNat : Int)]
abbrev Wr.cellsL (x : Wr) : List Value := .int .i64 x.block :: x.val.cellsL
def wcells (ws : List Wr) : List Value := ws.flatMap Wr.cellsL
theorem wcells_get : ∀ {ws : List Wr} {i : Nat} {x : Wr}, ws[i]? = some x → ((wcells ws).drop (i * 9)).take 9 = x.cellsL
  | [], i, x, h => by simp at h
  | y :: ws, 0, x, h => by
    obtain rfl : y = x := by simpa using h
    simp [wcells]
  | y :: ws, i + 1, x, h => by
    have := wcells_get (ws := ws) (i := i) (x := x) (by simpa using h)
    rw [← this, wcells, List.flatMap_cons, show (i + 1) * 9 = y.cellsL.length + i * 9 by simp; omega, ← List.drop_drop, List.drop_left]
    rfl
/-- the slice v reads as these writes -/
abbrev Ws (lo hi : Nat) (w : World) (v : Value) (ws : List Wr) : Prop := Rd lo hi w 9 v ws.length (wcells ws)
end Go.Proofs.Ytniijiipkfhjgaa

namespace Go.Proofs.Ytniijiipkfhjgaa
open Go.RowKit Go.Sort
def withinB (n m : Int) : Bool := decide (1 ≤ n ∧ n ≤ m)
def Nm.named (n : Nm) : Bool := withinB n.stamp 1048576 && withinB n.inc 1048576 && withinB n.try_ 1048576
def bitsB (n : Int) : Bool := decide (0 ≤ n ∧ n < 256)
def changedB (s t : Int) : Bool := decide ((s = -1 ∧ t = 0) ∨ (0 ≤ s ∧ s < 8 ∧ 1 ≤ t ∧ t ≤ 4))
def shardsB (n : Int) : Bool := decide (0 < n ∧ n < 32 ∧ n % 2 = 0)
def andV (x y : Int) : Int := IntKind.i64.wrap (BitVec.ofInt IntKind.i64.bits x &&& BitVec.ofInt IntKind.i64.bits y).toNat
def andNotV (x y : Int) : Int := IntKind.i64.wrap (BitVec.ofInt IntKind.i64.bits x &&& ~~~BitVec.ofInt IntKind.i64.bits y).toNat
/-- writes rise, from last on, and their blocks are blocks -/
def risingB (last : Int) : List Wr → Bool
  | [] => true
  | w :: r => decide (last < w.block ∧ w.block < 32) && risingB w.block r
def writtenB (ws : List Wr) : Bool := decide (ws.length ≤ 8) && risingB (-1) ws
def Rc.same (a b : Rc) (x y : List Wr) : Bool :=
  a.kind == b.kind && a.name.eqb b.name && a.yes == b.yes && eqWs x y && a.give == b.give && a.take == b.take && a.shards == b.shards && (a.cs == b.cs && a.ct == b.ct) && a.n == b.n
theorem Rc.same_iff {a b : Rc} {x y : List Wr} : a.same b x y = true ↔ a = b ∧ x = y := by
  cases a; cases b
  simp [Rc.same, Nm.eqb_iff, eqWs_iff]
  constructor
  · rintro ⟨⟨⟨⟨⟨⟨⟨⟨h1, h2⟩, h3⟩, h4⟩, h5⟩, h6⟩, h7⟩, h8, h9⟩, h10⟩
    exact ⟨⟨h1, h2, h3, h5, h6, h7, h8, h9, h10⟩, h4⟩
  · rintro ⟨⟨h1, h2, h3, h5, h6, h7, h8, h9, h10⟩, h4⟩
    exact ⟨⟨⟨⟨⟨⟨⟨⟨h1, h2⟩, h3⟩, h4⟩, h5⟩, h6⟩, h7⟩, h8, h9⟩, h10⟩
def Nm.zero : Nm := ⟨0, 0, 0⟩
def Rc.zero : Rc := ⟨0, ⟨0, 0, 0⟩, false, 0, 0, 0, 0, 0, 0⟩
/-- are the fields of a record's kind such as they may be? -/
def Rc.ok (r : Rc) (x : List Wr) : Bool :=
  if r.kind = 1 then r.name.named && writtenB x
  else if r.kind = 2 then r.name.named && writtenB x && bitsB r.give && bitsB r.take && andV r.give r.take == 0
  else if r.kind = 3 then r.name.named
  else if r.kind = 4 then r.name.named && shardsB r.shards && changedB r.cs r.ct
  else if r.kind = 5 then r.name.named
  else if r.kind = 6 then withinB r.n 1048577
  else withinB r.n 1048576
/-- what a record's kind does not name -/
def Rc.rest (r : Rc) : Rc :=
  if r.kind = 1 then { r with name := ⟨0, 0, 0⟩ }
  else if r.kind = 2 then { r with name := ⟨0, 0, 0⟩, give := 0, take := 0 }
  else if r.kind = 3 then { r with name := ⟨0, 0, 0⟩, yes := false }
  else if r.kind = 4 then { r with name := ⟨0, 0, 0⟩, shards := 0, cs := 0, ct := 0 }
  else if r.kind = 5 then { r with name := ⟨0, 0, 0⟩ }
  else { r with n := 0 }
/-- may a record be? -/
def Rc.may (r : Rc) (x : List Wr) : Bool :=
  if 1 ≤ r.kind ∧ r.kind ≤ 7 then r.ok x && r.rest.same ⟨r.kind, ⟨0, 0, 0⟩, false, 0, 0, 0, 0, 0, 0⟩ (if r.kind = 1 ∨ r.kind = 2 then [] else x) [] else false
theorem kinds {r : Rc} {x : List Wr} (h : r.may x = true) : r.kind = 1 ∨ r.kind = 2 ∨ r.kind = 3 ∨ r.kind = 4 ∨ r.kind = 5 ∨ r.kind = 6 ∨ r.kind = 7 := by
  unfold Rc.may at h
  split at h
  · omega
  · cases h
end Go.Proofs.Ytniijiipkfhjgaa

namespace Go.Proofs.Ytniijiipkfhjgaa
open Go.RowKit Go.Sort
/-- is a shard's bit set? -/
def hasBit (sh : Int) (k : Nat) : Bool := andV sh (1 * (2 : Int) ^ k) != 0
def decM (o : Ope) (k : Nat) : Msg := { zMg with kind := 6, to := k, name := o.nm }
/-- the mail of a refusal, to the shards from 1 to k -/
def refuseP (o : Ope) (but : Int) : Nat → List Msg
  | 0 => []
  | k + 1 => refuseP o but k ++ (if hasBit o.sh (k + 1) = true ∧ ((k + 1 : Nat) : Int) ≠ but then [decM o (k + 1)] else [])
theorem refuseP_len (o : Ope) (but : Int) : ∀ k, (refuseP o but k).length ≤ k
  | 0 => Nat.le_refl _
  | k + 1 => by
    have := refuseP_len o but k
    rw [refuseP, List.length_append]; split <;> simp <;> omega
abbrev Dsk.mails (D : Dsk) (l : List Msg) : Dsk := { D with t := { D.t with mail := D.t.mail ++ l } }
theorem shl_bd {c : Nat} (h : c < 8) : -9223372036854775808 ≤ 1 * (2 : Int) ^ c ∧ 1 * (2 : Int) ^ c ≤ 9223372036854775807 := by
  have : c = 0 ∨ c = 1 ∨ c = 2 ∨ c = 3 ∨ c = 4 ∨ c = 5 ∨ c = 6 ∨ c = 7 := by omega
  rcases this with rfl | rfl | rfl | rfl | rfl | rfl | rfl | rfl <;> decide
/-- mail was put behind -/
theorem Dsk.closeM {wc w : World} {A : List Ent} {b : Nat} {D : Dsk} {x : Msg} (rl ro ra rs rc re : Rw) (aA : Option Addr) (cA loA hiA : Nat)
    (M : Mem wc w (.blk b #[rl.v D.s.l.length, .int .i64 D.s.last, .int .i64 D.s.inc, ro.v D.s.over.length, .slice aA (D.t.mail.length + 1) cA, ra.v D.t.ans.length, rs.v D.t.seen.length, rc.v D.t.com.length, re.v D.t.ends.length, .int .i64 D.of.o0, .int .i64 D.of.o1, .int .i64 D.of.o2, .int .i64 D.of.o3, .int .i64 D.of.o4, .int .i64 D.of.o5, .int .i64 D.of.o6, .int .i64 D.of.o7] 79 :: rl.ent 65 37 D.s.l.length (fm Ope.cellsL D.s.l) :: ro.ent 91 5 D.s.over.length (fm End_.cellsL D.s.over) :: rowE loA hiA 45 24 (.slice aA (D.t.mail.length + 1) cA) (D.t.mail.length + 1) (fm msgL D.t.mail ++ msgL x) :: ra.ent 69 13 D.t.ans.length (fm Ans.cellsL D.t.ans) :: rs.ent 71 14 D.t.seen.length (fm Seen_.cellsL D.t.seen) :: rc.ent 40 3 D.t.com.length (fm nmL D.t.com) :: re.ent 40 3 D.t.ends.length (fm nmL D.t.ends) :: A)) : ∃ E, DeskR b rl.a rl.c (D.mail x) E ∧ Mem wc w (A ++ E) := by
  refine Dsk.closeR (D := D.mail x) rl ro ⟨aA, cA, loA, hiA⟩ ra rs rc re ?_
  have h1 : (D.mail x).t.mail.length = D.t.mail.length + 1 := by simp
  have h2 : fm msgL (D.mail x).t.mail = fm msgL D.t.mail ++ msgL x := fm_snoc _ _ _
  show Mem wc _ (.blk b [rl.v D.s.l.length, .int .i64 D.s.last, .int .i64 D.s.inc, ro.v D.s.over.length, .slice aA (D.mail x).t.mail.length cA, ra.v D.t.ans.length, rs.v D.t.seen.length, rc.v D.t.com.length, re.v D.t.ends.length, _, _, _, _, _, _, _, _].toArray 79 :: _ :: _ :: rowE loA hiA 45 24 (.slice aA (D.mail x).t.mail.length cA) (D.mail x).t.mail.length (fm msgL (D.mail x).t.mail) :: _)
  rw [h1, h2]
  exact M
theorem mails_nil (D : Dsk) : D.mails [] = D := by cases D with | mk s t of => cases t; simp [Dsk.mails]
theorem mails_snoc (D : Dsk) (l : List Msg) (x : Msg) : D.mails (l ++ [x]) = (D.mails l).mail x := by simp [Dsk.mails, Dsk.mail]
set_option maxHeartbeats 2000000 in
theorem refuse_anyR {wc w : World} {A E : List Ent} {b : Nat} {pa : Option Addr} {pc : Nat} {D : Dsk} (o : Ope) (but : Int) (hE : DeskR b pa pc D E) (M : Mem wc w (A ++ E)) (hs : D.small) :
    Calls Try.prog 25 #[.pointer (some ⟨b, 0, none⟩), .agg o.cellsL.toArray, .int .i64 but] w fun e w' => e = .returned (.tuple #[]) ∧ ∃ E', DeskR b pa pc (D.mails (refuseP o but 4)) E' ∧ Mem wc w' (A ++ E') := by
  have hsm := hs.mail
  refine calls_enter Try.func25 rfl 37 rfl rfl ?_; intro a S
  refine nxD ?_
  refine st_box S M rfl rfl rfl #[_, _, _, _, _, _, _, _, _, _, _, _, _, _, _, _, _, _, _, _, _, _, _, _, _, _, _, _, _, _, _, _, _, _, _, _, _] rfl ?_; clear S M a; intro a w1 bX S M hB
  refine nxA ?_
  refine st_go [1] S rfl (by kernel_rfl) ?_; clear S a; intro a S
  refine nxC ?_
  refine wp_block ?_
  refine wp_loop_g (fun m a w' => ∃ (k : Nat) (E1 : List Ent), k ≤ 4 ∧ m = 4 - k ∧ DeskR b pa pc (D.mails (refuseP o but k)) E1 ∧ Sees 37 a [(0, .pointer (some ⟨b, 0, none⟩)), (2, .int .i64 but), (4, .pointer (some ⟨bX, 0, none⟩)), (6, .int .i64 ((k + 1 : Nat) : Int))] ∧ Mem wc w' ((.blk bX o.cellsL.toArray 65 :: A) ++ E1)) (4) ?_ ?_
  · skip
    exact ⟨0, E, Nat.zero_le _, rfl, by rw [refuseP, mails_nil]; exact hE, S.sub _ rfl, M⟩
  clear S M a; intro m a wl
  rintro ⟨k, E1, hk, rfl, hE1, S, M⟩
  have hpl := refuseP_len o but k
  have hml0 : (D.mails (refuseP o but k)).t.mail.length ≤ 2000 := by
    show (D.t.mail ++ refuseP o but k).length ≤ 2000
    rw [List.length_append]; omega
  obtain ⟨D1, hD1⟩ : ∃ D1, D.mails (refuseP o but k) = D1 := ⟨_, rfl⟩
  rw [hD1] at hml0 hE1
  have hml := hml0
  clear hml0 hE
  obtain ⟨rl, ro, rm, ra, rs, rc, re, rfl, rfl, M1⟩ := Dsk.openR hE1 M
  clear M; have M := M1; clear M1
  refine wp_seq ?_
  refine nxD ?_
  refine st_go [1, 1] S rfl (by kernel_rfl) ?_; clear S a; intro a S
  refine nxC ?_
  refine st_fi (t := 8) S rfl ?_ ?_
  · clear S; intro h8 S
    refine st_condF S rfl ?_
    refine wp_exit ?_
    refine then_exit ?_
    refine then_exit ?_
    refine block_hit ?_
    refine end_noneN S rfl ?_
    obtain rfl : k = 4 := by omega
    obtain ⟨E2, hE2, M2⟩ := Dsk.closeR (D := D1) rl ro rm ra rs rc re M
    rw [hD1]
    exact ⟨rfl, E2, hE2, M2.drop 0⟩
  clear S; intro h8 S
  refine st_condT S rfl ?_
  refine wp_skip ?_
  refine then_normal ?_
  refine wp_seq ?_
  refine wp_block ?_
  refine wp_seq ?_
  refine wp_quiet M (by kernel_rfl) (by kernel_rfl) ?_
  refine qt_y S rfl rfl rfl (fun w M => y_fieldAddr (k := 6) S (by kernel_rfl) rfl) ?_; clear S a; intro a S
  refine qt_y S rfl rfl rfl (fun w M => y_load S (by kernel_rfl) rfl (M.cell 8 rfl rfl)) ?_; clear S a; intro a S
  refine qt_y S rfl rfl rfl (fun w M => y_move S rfl) ?_; clear S a; intro a S
  (first | refine qt_y S rfl rfl rfl (fun w M => y_shlN S rfl rfl (by omega) (by first | exact shl_bd (by omega) | (rw [Int.toNat_natCast]; exact shl_bd (by omega)))) ?_ | refine qt_y S rfl rfl rfl (fun w M => y_shl S rfl rfl (by omega)) ?_); clear S a; intro a S
  refine qt_y S rfl rfl rfl (fun w M => y_int S rfl rfl rfl) ?_; clear S a; intro a S
  refine qt_y S rfl rfl rfl (fun w M => y_int S rfl rfl rfl) ?_; clear S a; intro a S
  refine qt_y S rfl rfl rfl (fun w M => y_move S rfl) ?_; clear S a; intro a S
  refine st_tils (t := 17) S rfl ?_ ?_
  · clear S; intro h17 S
    refine qt_skip 3 S rfl ?_; clear S a; intro a S
    refine qt_y S rfl rfl rfl (fun w M => y_pickF S rfl rfl) ?_; clear S a; intro a S
    refine wpQuiet_nil ?_; clear M; intro w7 M
    refine then_normal ?_
    refine st_condF S rfl ?_
    refine wp_skip ?_
    refine block_normal ?_
    refine nxF ?_
    refine st_go [1] S rfl (by kernel_rfl) ?_; clear S a; intro a S
    (first | refine st_y S rfl rfl rfl (y_addN S rfl rfl (by omega)) ?_ | refine st_y S rfl rfl rfl (y_int S rfl rfl rfl) ?_); clear S a; intro a S
    refine st_go [1] S rfl (by kernel_rfl) ?_; clear S a; intro a S
    refine nxC ?_
    skip
    have hcast : (((k + 1 + 1 : Nat)) : Int) = ((k + 1 : Nat) : Int) + 1 := by omega
    try (rw [Int.toNat_natCast] at h17)
    first
      | (suffices hyes : hasBit o.sh (k + 1) = true ∧ ((k + 1 : Nat) : Int) ≠ but by
           obtain ⟨E2, hE2, M2⟩ := Dsk.closeM (D := D1) (x := decM o (k + 1)) rl ro ra rs rc re aA cA loA hiA ((M.drop 1).perm (List.perm_middle (l₁ := [_, _, _])).symm)
           rw [← hD1, ← mails_snoc] at hE2
           exact ⟨4 - (k + 1), by omega, k + 1, E2, by omega, rfl, by rw [refuseP, if_pos hyes]; exact hE2, by rw [hcast]; exact S.sub _ rfl, M2⟩
         exact ⟨h17, h21⟩)
      | (suffices hno : ¬ (hasBit o.sh (k + 1) = true ∧ ((k + 1 : Nat) : Int) ≠ but) by
           obtain ⟨E2, hE2, M2⟩ := Dsk.closeR (D := D1) rl ro rm ra rs rc re M
           rw [← hD1] at hE2
           exact ⟨4 - (k + 1), by omega, k + 1, E2, by omega, rfl, by rw [refuseP, if_neg hno, List.append_nil]; exact hE2, by rw [hcast]; exact S.sub _ rfl, M2⟩
         first
           | exact fun h => h.2 h21
           | (intro h
              have h9 : hasBit o.sh (k + 1) = false := h17
              rw [h9] at h; exact absurd h.1 (by decide)))
  clear S; intro h17 S
  refine qt_y S rfl rfl rfl (fun w M => y_move S rfl) ?_; clear S a; intro a S
  refine qt_y S rfl rfl rfl (fun w M => y_move S rfl) ?_; clear S a; intro a S
  refine qt_y S rfl rfl rfl (fun w M => y_int S rfl rfl rfl) ?_; clear S a; intro a S
  refine qt_y S rfl rfl rfl (fun w M => y_pickT S rfl rfl) ?_; clear S a; intro a S
  refine wpQuiet_nil ?_; clear M; intro w2 M
  refine then_normal ?_
  refine st_fi (t := 21) S rfl ?_ ?_
  · clear S; intro h21 S
    refine st_condF S rfl ?_
    refine wp_skip ?_
    refine block_normal ?_
    refine nxF ?_
    refine st_go [1] S rfl (by kernel_rfl) ?_; clear S a; intro a S
    (first | refine st_y S rfl rfl rfl (y_addN S rfl rfl (by omega)) ?_ | refine st_y S rfl rfl rfl (y_int S rfl rfl rfl) ?_); clear S a; intro a S
    refine st_go [1] S rfl (by kernel_rfl) ?_; clear S a; intro a S
    replace S := S.sub [(0, _), (2, _), (4, _), (8, _), (21, _), (6, _)] rfl
    refine nxC ?_
    skip
    have hcast : (((k + 1 + 1 : Nat)) : Int) = ((k + 1 : Nat) : Int) + 1 := by omega
    try (rw [Int.toNat_natCast] at h17)
    first
      | (suffices hyes : hasBit o.sh (k + 1) = true ∧ ((k + 1 : Nat) : Int) ≠ but by
           obtain ⟨E2, hE2, M2⟩ := Dsk.closeM (D := D1) (x := decM o (k + 1)) rl ro ra rs rc re aA cA loA hiA ((M.drop 1).perm (List.perm_middle (l₁ := [_, _, _])).symm)
           rw [← hD1, ← mails_snoc] at hE2
           exact ⟨4 - (k + 1), by omega, k + 1, E2, by omega, rfl, by rw [refuseP, if_pos hyes]; exact hE2, by rw [hcast]; exact S.sub _ rfl, M2⟩
         exact ⟨h17, h21⟩)
      | (suffices hno : ¬ (hasBit o.sh (k + 1) = true ∧ ((k + 1 : Nat) : Int) ≠ but) by
           obtain ⟨E2, hE2, M2⟩ := Dsk.closeR (D := D1) rl ro rm ra rs rc re M
           rw [← hD1] at hE2
           exact ⟨4 - (k + 1), by omega, k + 1, E2, by omega, rfl, by rw [refuseP, if_neg hno, List.append_nil]; exact hE2, by rw [hcast]; exact S.sub _ rfl, M2⟩
         first
           | exact fun h => h.2 h21
           | (intro h
              have h9 : hasBit o.sh (k + 1) = false := h17
              rw [h9] at h; exact absurd h.1 (by decide)))
  clear S; intro h21 S
  refine st_condT S rfl ?_
  refine wp_regionK [11, 15] #[false, false, false, false, false, false, false, false, false, false, false, false, false, false, false, false] rfl M (by kernel_rfl) ?_; clear M; intro w3 M
  refine k_pure (listed' := #[true, false, false, false, false, false, false, false, false, false, false, false, false, false, false, false]) 0 S rfl rfl rfl rfl (by kernel_rfl) rfl (fun _ d _ _ _ h => by cases d <;> exact h) (fun w => y_move S rfl) ?_; clear S a; intro a S
  refine k_pure (listed' := #[true, true, false, false, false, false, false, false, false, false, false, false, false, false, false, false]) 1 S rfl rfl rfl rfl (by kernel_rfl) rfl (fun _ d _ _ _ h => by cases d <;> exact h) (fun w => y_move S rfl) ?_; clear S a; intro a S
  refine k_pure (listed' := #[true, true, true, false, false, false, false, false, false, false, false, false, false, false, false, false]) 2 S rfl rfl rfl rfl (by kernel_rfl) rfl (fun _ d _ _ _ h => by cases d <;> exact h) (fun w => y_nilCheck S rfl) ?_; clear S a; intro a S
  refine k_pure (listed' := #[true, true, true, true, false, false, false, false, false, false, false, false, false, false, false, false]) 3 S rfl rfl rfl rfl (by kernel_rfl) rfl (fun _ d _ _ _ h => by cases d <;> exact h) (fun w => y_fieldAddr (k := 4) S (by kernel_rfl) rfl) ?_; clear S a; intro a S
  refine k_pure (listed' := #[true, true, true, true, true, false, false, false, false, false, false, false, false, false, false, false]) 4 S rfl rfl rfl rfl (by kernel_rfl) rfl (fun _ d _ _ _ h => by cases d <;> exact h) (fun w => y_fieldAddr (k := 0) S (by kernel_rfl) rfl) ?_; clear S a; intro a S
  refine k_read (listed' := #[true, true, true, true, true, true, false, false, false, false, false, false, false, false, false, false]) 5 S rfl rfl rfl rfl (by kernel_rfl) rfl (fun _ d _ _ _ h => by cases d <;> exact h) (fun w hW => have M := M.grow hW; y_load S (by kernel_rfl) rfl (M.cell 0 rfl rfl)) ?_; clear S a; intro a S
  refine k_pure (listed' := #[true, true, true, true, true, true, true, false, false, false, false, false, false, false, false, false]) 6 S rfl rfl rfl rfl (by kernel_rfl) rfl (fun _ d _ _ _ h => by cases d <;> exact h) (fun w => y_move S rfl) ?_; clear S a; intro a S
  refine k_pure (listed' := #[true, true, true, true, true, true, true, true, false, false, false, false, false, false, false, false]) 7 S rfl rfl rfl rfl (by kernel_rfl) rfl (fun _ d _ _ _ h => by cases d <;> exact h) (fun w => y_fieldAddr (k := 2) S (by kernel_rfl) rfl) ?_; clear S a; intro a S
  refine k_read (listed' := #[true, true, true, true, true, true, true, true, true, false, false, false, false, false, false, false]) 8 S rfl rfl rfl rfl (by kernel_rfl) rfl (fun _ d _ _ _ h => by cases d <;> exact h) (fun w hW => have M := M.grow hW; y_loadAgg (cs := [_, _, _]) S (by kernel_rfl) rfl rfl (M.cellsAt (k := 3) 8 rfl rfl)) ?_; clear S a; intro a S
  refine k_pure (listed' := #[true, true, true, true, true, true, true, true, true, true, false, false, false, false, false, false]) 9 S rfl rfl rfl rfl (by kernel_rfl) rfl (fun _ d _ _ _ h => by cases d <;> exact h) (fun w => y_build (ps := [(0, (Operand.const (Value.int IntKind.i8 6))), (2, (Operand.tmp 28)), (5, (Operand.tmp 30))]) (pl := [(0, 1), (1, 1), (2, 1), (3, 1), (4, 1), (5, 3), (8, 1), (9, 1), (10, 1), (11, 8), (19, 1), (20, 1), (21, 1), (22, 1), (23, 1)]) (z := [.int .i8 0, .int .i64 0, .int .i64 0, .int .i64 0, .int .i64 0, .int .i64 0, .int .i64 0, .int .i64 0, .int .i64 0, .int .i8 0, .int .i64 0, .int .u8 0, .int .u8 0, .int .u8 0, .int .u8 0, .int .u8 0, .int .u8 0, .int .u8 0, .int .u8 0, .int .i64 0, .bool false, .int .i64 0, .int .i64 0, .slice none 0 0]) (cs := msgL (decM o (k + 1))) S (by kernel_rfl) rfl (by kernel_rfl)) ?_; clear S a; intro a S
  refine k_one (listed' := #[true, true, true, true, true, true, true, true, true, true, true, false, false, false, false, false]) 10 rfl (by kernel_rfl) rfl ?_
  refine st_lit (ps := [(0, (Operand.tmp 31))]) (e := 45) (sz := 24) (zl := [.int .i8 0, .int .i64 0, .int .i64 0, .int .i64 0, .int .i64 0, .int .i64 0, .int .i64 0, .int .i64 0, .int .i64 0, .int .i8 0, .int .i64 0, .int .u8 0, .int .u8 0, .int .u8 0, .int .u8 0, .int .u8 0, .int .u8 0, .int .u8 0, .int .u8 0, .int .i64 0, .bool false, .int .i64 0, .int .i64 0, .slice none 0 0]) (cs := msgL (decM o (k + 1))) S M rfl rfl (by kernel_rfl) rfl (by kernel_rfl) ?_; clear S M a; intro a w4 bZ S M hB
  refine wpList_nil ?_; refine then_normal ?_; refine ⟨fun _ => hB, ?_⟩
  refine k_one (listed' := #[true, true, true, true, true, true, true, true, true, true, true, true, false, false, false, false]) 11 rfl (by kernel_rfl) rfl ?_
  refine st_append (e := 45) (sz := 24) (by_ := 152) (zc := [.int .i8 0, .int .i64 0, .int .i64 0, .int .i64 0, .int .i64 0, .int .i64 0, .int .i64 0, .int .i64 0, .int .i64 0, .int .i8 0, .int .i64 0, .int .u8 0, .int .u8 0, .int .u8 0, .int .u8 0, .int .u8 0, .int .u8 0, .int .u8 0, .int .u8 0, .int .i64 0, .bool false, .int .i64 0, .int .i64 0, .slice none 0 0]) S M 4 rfl rfl (by kernel_rfl) rfl (by decide) rfl rfl rfl (show Rd _ _ _ 24 _ 1 (msgL (decM o (k + 1))) from M.sliceAt 0 rfl (M.cellsAt (k := 24) 0 rfl rfl) rfl (Nat.le_refl _) (by unfold maxLen; omega)) (rfl) (by omega) (by unfold maxLen; omega) ?_; clear S M a; intro a w5 vA loA hiA S M
  refine wpList_nil ?_; refine then_normal ?_; refine ⟨fun h => absurd h (by decide), ?_⟩
  refine k_pure (listed' := #[true, true, true, true, true, true, true, true, true, true, true, true, true, false, false, false]) 12 S rfl rfl rfl rfl (by kernel_rfl) rfl (fun _ d _ _ _ h => by cases d <;> exact h) (fun w => y_nilCheck S rfl) ?_; clear S a; intro a S
  refine k_pure (listed' := #[true, true, true, true, true, true, true, true, true, true, true, true, true, true, false, false]) 13 S rfl rfl rfl rfl (by kernel_rfl) rfl (fun _ d _ _ _ h => by cases d <;> exact h) (fun w => y_fieldAddr (k := 4) S (by kernel_rfl) rfl) ?_; clear S a; intro a S
  refine k_pure (listed' := #[true, true, true, true, true, true, true, true, true, true, true, true, true, true, true, false]) 14 S rfl rfl rfl rfl (by kernel_rfl) rfl (fun _ d _ _ _ h => by cases d <;> exact h) (fun w => y_fieldAddr (k := 0) S (by kernel_rfl) rfl) ?_; clear S a; intro a S
  refine k_one (listed' := #[true, true, true, true, true, true, true, true, true, true, true, true, true, true, true, true]) 15 rfl (by kernel_rfl) rfl ?_
  obtain ⟨aA, cA, rfl, -, -⟩ := (M.readAll 0 rfl (by unfold maxLen; omega)).form
  refine st_store (sz := 1) (us := [_]) S M 2 rfl (by kernel_rfl) rfl rfl rfl rfl rfl rfl (by first | decide | (simp; done) | (simp; omega)) ?_; clear M; intro w6 M
  simp only [putL, List.set_cons_zero, List.set_cons_succ, Nat.reduceAdd] at M
  refine wpList_nil ?_; refine then_normal ?_; refine ⟨fun h => absurd h (by decide), ?_⟩
  refine k_end (by kernel_rfl) ?_
  replace S := S.sub [(0, _), (2, _), (4, _), (6, _), (8, _), (21, _)] rfl
  refine block_normal ?_
  refine nxF ?_
  refine st_go [1] S rfl (by kernel_rfl) ?_; clear S a; intro a S
  (first | refine st_y S rfl rfl rfl (y_addN S rfl rfl (by omega)) ?_ | refine st_y S rfl rfl rfl (y_int S rfl rfl rfl) ?_); clear S a; intro a S
  refine st_go [1] S rfl (by kernel_rfl) ?_; clear S a; intro a S
  refine nxC ?_
  skip
  have hcast : (((k + 1 + 1 : Nat)) : Int) = ((k + 1 : Nat) : Int) + 1 := by omega
  try (rw [Int.toNat_natCast] at h17)
  first
    | (suffices hyes : hasBit o.sh (k + 1) = true ∧ ((k + 1 : Nat) : Int) ≠ but by
         obtain ⟨E2, hE2, M2⟩ := Dsk.closeM (D := D1) (x := decM o (k + 1)) rl ro ra rs rc re aA cA loA hiA ((M.drop 1).perm (List.perm_middle (l₁ := [_, _, _])).symm)
         rw [← hD1, ← mails_snoc] at hE2
         exact ⟨4 - (k + 1), by omega, k + 1, E2, by omega, rfl, by rw [refuseP, if_pos hyes]; exact hE2, by rw [hcast]; exact S.sub _ rfl, M2⟩
       exact ⟨h17, h21⟩)
    | (suffices hno : ¬ (hasBit o.sh (k + 1) = true ∧ ((k + 1 : Nat) : Int) ≠ but) by
         obtain ⟨E2, hE2, M2⟩ := Dsk.closeR (D := D1) rl ro rm ra rs rc re M
         rw [← hD1] at hE2
         exact ⟨4 - (k + 1), by omega, k + 1, E2, by omega, rfl, by rw [refuseP, if_neg hno, List.append_nil]; exact hE2, by rw [hcast]; exact S.sub _ rfl, M2⟩
       first
         | exact fun h => h.2 h21
         | (intro h
            have h9 : hasBit o.sh (k + 1) = false := h17
            rw [h9] at h; exact absurd h.1 (by decide)))
theorem refuse_any {wc w : World} {A E : List Ent} {b : Nat} {D : Dsk} (o : Ope) (but : Int) (hE : DeskE b D E) (M : Mem wc w (A ++ E)) (hs : D.small) :
    Calls Try.prog 25 #[.pointer (some ⟨b, 0, none⟩), .agg o.cellsL.toArray, .int .i64 but] w fun e w' => e = .returned (.tuple #[]) ∧ ∃ E', DeskE b (D.mails (refuseP o but 4)) E' ∧ Mem wc w' (A ++ E') := by
  obtain ⟨pa, pc, hR⟩ := hE.ref
  refine Calls.mono (refuse_anyR o but hR M hs) fun e w' h => ?_
  obtain ⟨h1, E', h2, h3⟩ := h
  exact ⟨h1, E', h2.desk, h3⟩
end Go.Proofs.Ytniijiipkfhjgaa

namespace Go.Proofs.Ytniijiipkfhjgaa
open Go.RowKit Go.Sort
/-- the greatest try of a stamp and client that is over -/
def triesP (st c : Int) (over : List End_) : Int := over.foldl (fun m x => if x.stamp = st ∧ x.c = c then max m x.try_ else m) 0
theorem triesP_snoc (st c : Int) (l : List End_) (x : End_) : triesP st c (l ++ [x]) = if x.stamp = st ∧ x.c = c then max (triesP st c l) x.try_ else triesP st c l := by unfold triesP; rw [List.foldl_append]; rfl
def zNm : Nm := ⟨0, 0, 0⟩
/-- the name from its stamp and try on -/
def nameQ (s : Ses) (st tr : Int) : Nm × Int :=
  if (s.l.any fun o => o.nm.stamp == st) = true ∨ 1048576 ≤ tr then (zNm, 2) else if 1099511627776 ≤ s.last then (zNm, 243) else (⟨st, s.inc, tr + 1⟩, 0)
def nameP (s : Ses) (c : Cal) (stamp : Int) : Nm × Int :=
  if ¬ (1 ≤ c.c ∧ c.c ≤ 1048576) then (zNm, 2) else if 8 ≤ s.l.length then (zNm, 243) else
    if c.stamp = 0 then (if stamp = 0 then (zNm, 190) else nameQ s stamp 0) else if triesP c.stamp c.c s.over = 0 then (zNm, 2) else nameQ s c.stamp (triesP c.stamp c.c s.over)
set_option maxHeartbeats 4000000 in
theorem name_any {wc w : World} {A E : List Ent} {b : Nat} {D : Dsk} (c : Cal) (da : Option Addr) (dl dc : Nat) (stamp : Int) (hE : DeskE b D E) (M : Mem wc w (A ++ E)) (hs : D.small) (ht : ∀ x ∈ D.s.over, 0 ≤ x.try_ ∧ x.try_ ≤ 1048576) :
    Calls Try.prog 31 #[.pointer (some ⟨b, 0, none⟩), .agg (c.cellsL (.slice da dl dc)).toArray, .int .i64 stamp] w fun e w' => e = .returned (.tuple #[.agg (nmL (nameP D.s c stamp).1).toArray, .int .i64 (nameP D.s c stamp).2]) ∧ ∃ E', DeskE b D E' ∧ Mem wc w' (A ++ E') := by
  have hsl := hs.l
  have hso := hs.over
  obtain ⟨rl, ro, rm, ra, rs, rc, re, M1⟩ := Dsk.open hE M
  clear M; have M := M1; clear M1 hE
  generalize hR : nameP D.s c stamp = R
  refine calls_enter Try.func31 rfl 99 rfl rfl ?_; intro a S
  refine wp_seq ?_
  skip
  refine wp_region_lit ?_
  refine st_box S M rfl rfl rfl #[_, _, _, _, _, _] rfl ?_; clear S M a; intro a w1 bX S M hB
  refine st_alloc S M rfl rfl #[.int .i64 0, .int .i64 0, .int .i64 0] (by kernel_rfl) ?_; clear S M a; intro a w2 bR S M hB
  refine st_go [1] S rfl (by kernel_rfl) ?_; clear S a; intro a S
  refine nxC ?_
  refine wp_seq ?_
  refine nxD ?_
  refine st_run [2, 2] S M rfl (by kernel_rfl) ?_; clear S a; intro a S
  refine st_call (xs := [(Operand.tmp 12)]) S (enters_of Try.func29 (by decide) rfl) rfl rfl rfl (clientIs_any _ _) ?_
  rintro _ w3 ⟨rfl, hK⟩; refine ⟨_, rfl, ?_⟩; clear S a; intro a S; replace M := M.grow hK
  refine st_go [1] S rfl (by kernel_rfl) ?_; clear S a; intro a S
  refine nxC ?_
  refine st_if (t := 14) S rfl ?_ ?_
  · clear S; intro h14 S
    refine st_condT S rfl ?_
    refine nxD ?_
    refine st_y S rfl rfl rfl (y_build (ps := []) (pl := [(0, 1), (1, 1), (2, 1)]) (z := [.int .i64 0, .int .i64 0, .int .i64 0]) (cs := [_, _, _]) S (by kernel_rfl) rfl (rfl)) ?_; clear S a; intro a S
    refine st_store (sz := 3) (us := [_, _, _]) S M 0 rfl (by kernel_rfl) rfl rfl rfl rfl rfl rfl (by first | decide | (simp; done) | (simp; omega)) ?_; clear M; intro w4 M
    simp only [putL, List.set_cons_zero, List.set_cons_succ, Nat.reduceAdd] at M
    refine st_go [1] S rfl (by kernel_rfl) ?_; clear S a; intro a S
    refine nxC ?_
    refine wp_ret ?_
    refine then_ret ?_
    refine end_two S rfl (res_agg (cs := [_, _, _]) (by kernel_rfl) rfl rfl (M.cellsAt (k := 3) 0 rfl rfl)) (res_tmp rfl) ?_
    obtain ⟨E2, hE2, M2⟩ := Dsk.close (D := D) rl ro rm ra rs rc re ((M.drop 0).drop 0)
    refine ⟨?_, E2, hE2, M2⟩
    rw [← hR]; unfold nameP; rw [if_pos (by omega)]; rfl
  clear S; intro h14 S
  refine st_condF S rfl ?_
  refine wp_skip ?_
  refine then_normal ?_
  refine wp_seq ?_
  refine nxD ?_
  refine st_run [1, 1, 1, 1, 3] S M rfl (by kernel_rfl) ?_; clear S a; intro a S
  refine st_y S rfl rfl rfl (y_lenR (E := 65) S rfl (M.readAll 3 rfl (by unfold maxLen; omega)) (by kernel_rfl)) ?_; clear S a; intro a S
  refine st_go [1] S rfl (by kernel_rfl) ?_; clear S a; intro a S
  refine nxC ?_
  refine st_if (t := 22) S rfl ?_ ?_
  · clear S; intro h22 S
    refine st_condT S rfl ?_
    refine nxD ?_
    refine st_y S rfl rfl rfl (y_build (ps := []) (pl := [(0, 1), (1, 1), (2, 1)]) (z := [.int .i64 0, .int .i64 0, .int .i64 0]) (cs := [_, _, _]) S (by kernel_rfl) rfl (rfl)) ?_; clear S a; intro a S
    refine st_store (sz := 3) (us := [_, _, _]) S M 0 rfl (by kernel_rfl) rfl rfl rfl rfl rfl rfl (by first | decide | (simp; done) | (simp; omega)) ?_; clear M; intro w5 M
    simp only [putL, List.set_cons_zero, List.set_cons_succ, Nat.reduceAdd] at M
    refine st_go [1] S rfl (by kernel_rfl) ?_; clear S a; intro a S
    refine nxC ?_
    refine wp_ret ?_
    refine then_ret ?_
    refine end_two S rfl (res_agg (cs := [_, _, _]) (by kernel_rfl) rfl rfl (M.cellsAt (k := 3) 0 rfl rfl)) (res_tmp rfl) ?_
    obtain ⟨E2, hE2, M2⟩ := Dsk.close (D := D) rl ro rm ra rs rc re ((M.drop 0).drop 0)
    refine ⟨?_, E2, hE2, M2⟩
    rw [← hR]; unfold nameP; rw [if_neg (by omega), if_pos (by omega)]; rfl
  clear S; intro h22 S
  refine st_condF S rfl ?_
  refine wp_skip ?_
  refine then_normal ?_
  refine wp_seq ?_
  refine wp_regionK [9] #[false, false, false, false, false, false, false, false, false, false] rfl M (by kernel_rfl) ?_; clear M; intro w6 M
  refine k_pure (listed' := #[true, false, false, false, false, false, false, false, false, false]) 0 S rfl rfl rfl rfl (by kernel_rfl) rfl (fun _ d _ _ _ h => by cases d <;> exact h) (fun w => y_fieldAddr (k := 5) S (by kernel_rfl) rfl) ?_; clear S a; intro a S
  refine k_read (listed' := #[true, true, false, false, false, false, false, false, false, false]) 1 S rfl rfl rfl rfl (by kernel_rfl) rfl (fun _ d _ _ _ h => by cases d <;> exact h) (fun w hW => have M := M.grow hW; y_load S (by kernel_rfl) rfl (M.cell 1 rfl rfl)) ?_; clear S a; intro a S
  refine k_pure (listed' := #[true, true, true, false, false, false, false, false, false, false]) 2 S rfl rfl rfl rfl (by kernel_rfl) rfl (fun _ d _ _ _ h => by cases d <;> exact h) (fun w => y_move S rfl) ?_; clear S a; intro a S
  refine k_pure (listed' := #[true, true, true, true, false, false, false, false, false, false]) 3 S rfl rfl rfl rfl (by kernel_rfl) rfl (fun _ d _ _ _ h => by cases d <;> exact h) (fun w => y_nilCheck S rfl) ?_; clear S a; intro a S
  refine k_pure (listed' := #[true, true, true, true, true, false, false, false, false, false]) 4 S rfl rfl rfl rfl (by kernel_rfl) rfl (fun _ d _ _ _ h => by cases d <;> exact h) (fun w => y_fieldAddr (k := 0) S (by kernel_rfl) rfl) ?_; clear S a; intro a S
  refine k_pure (listed' := #[true, true, true, true, true, true, false, false, false, false]) 5 S rfl rfl rfl rfl (by kernel_rfl) rfl (fun _ d _ _ _ h => by cases d <;> exact h) (fun w => y_fieldAddr (k := 2) S (by kernel_rfl) rfl) ?_; clear S a; intro a S
  refine k_read (listed' := #[true, true, true, true, true, true, true, false, false, false]) 6 S rfl rfl rfl rfl (by kernel_rfl) rfl (fun _ d _ _ _ h => by cases d <;> exact h) (fun w hW => have M := M.grow hW; y_load S (by kernel_rfl) rfl (M.cell 2 rfl rfl)) ?_; clear S a; intro a S
  refine k_pure (listed' := #[true, true, true, true, true, true, true, true, false, false]) 7 S rfl rfl rfl rfl (by kernel_rfl) rfl (fun _ d _ _ _ h => by cases d <;> exact h) (fun w => y_build (ps := [(0, (Operand.tmp 25)), (1, (Operand.tmp 30))]) (pl := [(0, 1), (1, 1), (2, 1)]) (z := [.int .i64 0, .int .i64 0, .int .i64 0]) (cs := [_, _, _]) S (by kernel_rfl) rfl (rfl)) ?_; clear S a; intro a S
  refine k_one (listed' := #[true, true, true, true, true, true, true, true, true, false]) 8 rfl (by kernel_rfl) rfl ?_
  refine st_alloc S M rfl rfl #[.int .i64 0, .int .i64 0, .int .i64 0] (by kernel_rfl) ?_; clear S M a; intro a w7 bN S M hB
  refine wpList_nil ?_; refine then_normal ?_; refine ⟨fun _ => hB, ?_⟩
  refine k_one (listed' := #[true, true, true, true, true, true, true, true, true, true]) 9 rfl (by kernel_rfl) rfl ?_
  refine st_store (sz := 3) (us := [_, _, _]) S M 0 rfl (by kernel_rfl) rfl rfl rfl rfl rfl rfl (by first | decide | (simp; done) | (simp; omega)) ?_; clear M; intro w8 M
  simp only [putL, List.set_cons_zero, List.set_cons_succ, Nat.reduceAdd] at M
  refine wpList_nil ?_; refine then_normal ?_; refine ⟨fun h => absurd h (by decide), ?_⟩
  refine k_end (by kernel_rfl) ?_
  replace S := S.sub [(0, _), (1, _), (2, _), (4, _), (6, _), (7, _), (14, _), (22, _), (8, _)] rfl
  refine then_normal ?_
  refine wp_cut (fun a w' => ∃ st tr, nameQ D.s st tr = R ∧ (0 ≤ tr ∧ tr ≤ 1048576) ∧ Sees 99 a [(0, .pointer (some ⟨b, 0, none⟩)), (4, .pointer (some ⟨bX, 0, none⟩)), (6, .pointer (some ⟨bR, 0, none⟩)), (8, .pointer (some ⟨bN, 0, none⟩))] ∧ Mem wc w' (.blk bN #[.int .i64 st, .int .i64 D.s.inc, .int .i64 tr] 40 :: .blk bR #[.int .i64 0, .int .i64 0, .int .i64 0] 40 :: .blk bX (c.cellsL (.slice da dl dc)).toArray 38 :: .blk b (dskL D rl ro rm ra rs rc re).toArray 79 :: rl.ent 65 37 D.s.l.length (fm Ope.cellsL D.s.l) :: ro.ent 91 5 D.s.over.length (fm End_.cellsL D.s.over) :: rm.ent 45 24 D.t.mail.length (fm msgL D.t.mail) :: ra.ent 69 13 D.t.ans.length (fm Ans.cellsL D.t.ans) :: rs.ent 71 14 D.t.seen.length (fm Seen_.cellsL D.t.seen) :: rc.ent 40 3 D.t.com.length (fm nmL D.t.com) :: re.ent 40 3 D.t.ends.length (fm nmL D.t.ends) :: A)) ?_ ?_
  · skip
    refine nxD ?_
    refine st_run [6, 3, 1] S M rfl (by kernel_rfl) ?_; clear S a; intro a S
    refine nxC ?_
    refine st_if (t := 34) S rfl ?_ ?_
    · clear S; intro h34 S
      refine st_condT S rfl ?_
      refine wp_seq ?_
      refine nxD ?_
      refine st_go [1, 1] S rfl (by kernel_rfl) ?_; clear S a; intro a S
      refine nxC ?_
      refine st_fi (t := 36) S rfl ?_ ?_
      · clear S; intro h36 S
        refine st_condF S rfl ?_
        refine wp_skip ?_
        refine nxF ?_
        refine st_go [1, 1] S rfl (by kernel_rfl) ?_; clear S a; intro a S
        refine st_store (sz := 1) (us := [_]) S M 0 rfl (by kernel_rfl) rfl rfl rfl rfl rfl rfl (by first | decide | (simp; done) | (simp; omega)) ?_; clear M; intro w10 M
        simp only [putL, List.set_cons_zero, List.set_cons_succ, Nat.reduceAdd] at M
        refine nxC ?_
        first
          | exact ⟨_, 0, by rw [← hR]; unfold nameP; rw [if_neg (by omega), if_neg (by omega), if_pos (by omega), if_neg (by omega)], by omega, S.sub _ rfl, M⟩
          | exact ⟨_, _, by rw [← hR]; unfold nameP; rw [if_neg (by omega), if_neg (by omega), if_neg (by omega), if_neg (by omega)], htr, S.sub _ rfl, M⟩
      clear S; intro h36 S
      refine st_condT S rfl ?_
      refine nxD ?_
      refine st_y S rfl rfl rfl (y_build (ps := []) (pl := [(0, 1), (1, 1), (2, 1)]) (z := [.int .i64 0, .int .i64 0, .int .i64 0]) (cs := [_, _, _]) S (by kernel_rfl) rfl (rfl)) ?_; clear S a; intro a S
      refine st_store (sz := 3) (us := [_, _, _]) S M 1 rfl (by kernel_rfl) rfl rfl rfl rfl rfl rfl (by first | decide | (simp; done) | (simp; omega)) ?_; clear M; intro w9 M
      simp only [putL, List.set_cons_zero, List.set_cons_succ, Nat.reduceAdd] at M
      refine st_go [1] S rfl (by kernel_rfl) ?_; clear S a; intro a S
      refine nxC ?_
      refine wp_ret ?_
      refine then_ret ?_
      refine then_ret ?_
      refine end_two S rfl (res_agg (cs := [_, _, _]) (by kernel_rfl) rfl rfl (M.cellsAt (k := 3) 1 rfl rfl)) (res_tmp rfl) ?_
      obtain ⟨E2, hE2, M2⟩ := Dsk.close (D := D) rl ro rm ra rs rc re (((M.drop 0).drop 0).drop 0)
      refine ⟨?_, E2, hE2, M2⟩
      rw [← hR]; unfold nameP; rw [if_neg (by omega), if_neg (by omega), if_pos (by omega), if_pos (by omega)]; rfl
    clear S; intro h34 S
    refine st_condF S rfl ?_
    refine wp_seq ?_
    refine nxD ?_
    refine st_run [1, 1, 1, 4, 4] S M rfl (by kernel_rfl) ?_; clear S a; intro a S
    refine st_y S rfl rfl rfl (y_lenR (E := 91) S rfl (M.readAll 5 rfl (by unfold maxLen; omega)) (by kernel_rfl)) ?_; clear S a; intro a S
    refine st_go [1] S rfl (by kernel_rfl) ?_; clear S a; intro a S
    refine nxC ?_
    refine wp_block ?_
    refine wp_loop_g (fun m a w' => ∃ (k : Nat), k ≤ D.s.over.length ∧ m = D.s.over.length - k ∧ (0 ≤ triesP c.stamp c.c (D.s.over.take k) ∧ triesP c.stamp c.c (D.s.over.take k) ≤ 1048576) ∧ Sees 99 a [(0, .pointer (some ⟨b, 0, none⟩)), (4, .pointer (some ⟨bX, 0, none⟩)), (6, .pointer (some ⟨bR, 0, none⟩)), (8, .pointer (some ⟨bN, 0, none⟩)), (44, ro.v D.s.over.length), (45, .int .i64 (D.s.over.length : Int)), (46, .int .i64 (k : Int))] ∧ Mem wc w' (.blk bN #[.int .i64 c.stamp, .int .i64 D.s.inc, .int .i64 (triesP c.stamp c.c (D.s.over.take k))] 40 :: .blk bR #[.int .i64 0, .int .i64 0, .int .i64 0] 40 :: .blk bX (c.cellsL (.slice da dl dc)).toArray 38 :: .blk b (dskL D rl ro rm ra rs rc re).toArray 79 :: rl.ent 65 37 D.s.l.length (fm Ope.cellsL D.s.l) :: ro.ent 91 5 D.s.over.length (fm End_.cellsL D.s.over) :: rm.ent 45 24 D.t.mail.length (fm msgL D.t.mail) :: ra.ent 69 13 D.t.ans.length (fm Ans.cellsL D.t.ans) :: rs.ent 71 14 D.t.seen.length (fm Seen_.cellsL D.t.seen) :: rc.ent 40 3 D.t.com.length (fm nmL D.t.com) :: re.ent 40 3 D.t.ends.length (fm nmL D.t.ends) :: A)) (D.s.over.length) ?_ ?_
    · skip
      exact ⟨0, Nat.zero_le _, rfl, ⟨Int.le_refl _, (by decide : (0 : Int) ≤ 1048576)⟩, S.sub _ rfl, M⟩
    clear S M a; intro m a wl
    rintro ⟨k, hk, rfl, htr, S, M⟩
    generalize hT : triesP c.stamp c.c (D.s.over.take k) = T at htr M
    refine nxD ?_
    refine st_go [1] S rfl (by kernel_rfl) ?_; clear S a; intro a S
    refine nxC ?_
    refine wp_seq ?_
    refine st_fi (t := 47) S rfl ?_ ?_
    · clear S; intro h47 S
      refine st_condF S rfl ?_
      refine wp_exit ?_
      refine then_exit ?_
      refine then_exit ?_
      refine block_hit ?_
      refine then_normal ?_
      refine wp_seq ?_
      obtain rfl : k = D.s.over.length := by omega
      rw [List.take_length] at hT
      subst hT
      refine wp_region_lit ?_
      refine st_run [3, 1, 1] S M rfl (by kernel_rfl) ?_; clear S a; intro a S
      refine nxC ?_
      refine st_fi (t := 71) S rfl ?_ ?_
      · clear S; intro h71 S
        refine st_condF S rfl ?_
        refine wp_skip ?_
        refine then_normal ?_
        first
          | exact ⟨_, 0, by rw [← hR]; unfold nameP; rw [if_neg (by omega), if_neg (by omega), if_pos (by omega), if_neg (by omega)], by omega, S.sub _ rfl, M⟩
          | exact ⟨_, _, by rw [← hR]; unfold nameP; rw [if_neg (by omega), if_neg (by omega), if_neg (by omega), if_neg (by omega)], htr, S.sub _ rfl, M⟩
      clear S; intro h71 S
      refine st_condT S rfl ?_
      refine nxD ?_
      refine st_y S rfl rfl rfl (y_build (ps := []) (pl := [(0, 1), (1, 1), (2, 1)]) (z := [.int .i64 0, .int .i64 0, .int .i64 0]) (cs := [_, _, _]) S (by kernel_rfl) rfl (rfl)) ?_; clear S a; intro a S
      refine st_store (sz := 3) (us := [_, _, _]) S M 1 rfl (by kernel_rfl) rfl rfl rfl rfl rfl rfl (by first | decide | (simp; done) | (simp; omega)) ?_; clear M; intro w14 M
      simp only [putL, List.set_cons_zero, List.set_cons_succ, Nat.reduceAdd] at M
      refine st_go [1] S rfl (by kernel_rfl) ?_; clear S a; intro a S
      refine nxC ?_
      refine wp_ret ?_
      refine then_ret ?_
      refine end_two S rfl (res_agg (cs := [_, _, _]) (by kernel_rfl) rfl rfl (M.cellsAt (k := 3) 1 rfl rfl)) (res_tmp rfl) ?_
      obtain ⟨E2, hE2, M2⟩ := Dsk.close (D := D) rl ro rm ra rs rc re (((M.drop 0).drop 0).drop 0)
      refine ⟨?_, E2, hE2, M2⟩
      rw [← hR]; unfold nameP; rw [if_neg (by omega), if_neg (by omega), if_neg (by omega), if_pos (by omega)]; rfl
    clear S; intro h47 S
    refine st_condT S rfl ?_
    refine wp_skip ?_
    refine then_normal ?_
    refine wp_seq ?_
    refine wp_block ?_
    refine wp_seq ?_
    obtain ⟨q, hq⟩ : ∃ q, D.s.over[k]? = some q := ⟨_, List.getElem?_eq_getElem (by omega)⟩
    have hqt := ht q (List.mem_of_getElem? hq)
    refine wp_region_lit ?_
    refine st_y S rfl rfl rfl (y_indexR (e := 91) (sz := 5) S (by kernel_rfl) rfl (M.readAll 5 rfl (by unfold maxLen; omega)) rfl (by first | omega | (simp; done) | (simp; omega))) ?_; clear S a; intro a S
    try simp only [Int.toNat_natCast, Nat.mul_one, Nat.zero_add] at S
    refine st_y S rfl rfl rfl (y_loadAgg S (by kernel_rfl) rfl rfl ((M.readAll 5 rfl (by unfold maxLen; omega)).at_.row (i := k) (fm_get len_end hq) rfl)) ?_; clear S a; intro a S
    refine st_alloc S M rfl rfl #[.int .i64 0, .int .i64 0, .int .i64 0, .int .i64 0, .int .i64 0] (by kernel_rfl) ?_; clear S M a; intro a w11 bY S M hB
    refine st_store (sz := 5) (us := [_, _, _, _, _]) S M 0 rfl (by kernel_rfl) rfl rfl rfl rfl rfl rfl (by first | decide | (simp; done) | (simp; omega)) ?_; clear M; intro w12 M
    simp only [putL, List.set_cons_zero, List.set_cons_succ, Nat.reduceAdd] at M
    refine nxA ?_
    refine st_run [3, 1, 6, 4, 1, 1] S M rfl (by kernel_rfl) ?_; clear S a; intro a S
    refine st_fi (t := 55) S rfl ?_ ?_
    · clear S; intro h55 S
      refine st_go [0, 0, 0, 0, 0, 1] S rfl (by kernel_rfl) ?_; clear S a; intro a S
      refine nxC ?_
      refine st_condF S rfl ?_
      refine wp_skip ?_
      refine block_normal ?_
      refine nxF ?_
      (first | refine st_y S rfl rfl rfl (y_addN S rfl rfl (by omega)) ?_ | refine st_y S rfl rfl rfl (y_int S rfl rfl rfl) ?_); clear S a; intro a S
      refine st_go [1] S rfl (by kernel_rfl) ?_; clear S a; intro a S
      replace S := S.sub [(0, _), (4, _), (6, _), (8, _), (44, _), (45, _), (47, _), (10, _), (61, _), (46, _)] rfl
      refine nxC ?_
      skip
      replace M := M.drop 0
      simp only [List.eraseIdx_cons_succ, List.eraseIdx_cons_zero] at M
      have htk : D.s.over.take (k + 1) = D.s.over.take k ++ [q] := by
        obtain ⟨h9, e9⟩ := List.getElem?_eq_some_iff.1 hq
        rw [List.take_succ_eq_append_getElem h9, e9]
      have hsn := triesP_snoc c.stamp c.c (D.s.over.take k) q
      rw [← htk, hT] at hsn
      first
        | (suffices hyes : q.stamp = c.stamp ∧ q.c = c.c by
             rw [if_pos hyes] at hsn
             exact ⟨D.s.over.length - (k + 1), by omega, k + 1, by omega, rfl, by rw [hsn]; omega, S.sub _ rfl, by rw [hsn]; exact M⟩
           exact ⟨h55, h61⟩)
        | (suffices hno : ¬ (q.stamp = c.stamp ∧ q.c = c.c) by
             rw [if_neg hno] at hsn
             exact ⟨D.s.over.length - (k + 1), by omega, k + 1, by omega, rfl, by rw [hsn]; exact htr, S.sub _ rfl, by rw [hsn]; exact M⟩
           omega)
    clear S; intro h55 S
    refine st_run [2, 1, 2, 4, 1, 1] S M rfl (by kernel_rfl) ?_; clear S a; intro a S
    refine nxC ?_
    refine st_fi (t := 61) S rfl ?_ ?_
    · clear S; intro h61 S
      refine st_condF S rfl ?_
      refine wp_skip ?_
      refine block_normal ?_
      refine nxF ?_
      (first | refine st_y S rfl rfl rfl (y_addN S rfl rfl (by omega)) ?_ | refine st_y S rfl rfl rfl (y_int S rfl rfl rfl) ?_); clear S a; intro a S
      refine st_go [1] S rfl (by kernel_rfl) ?_; clear S a; intro a S
      replace S := S.sub [(0, _), (4, _), (6, _), (8, _), (44, _), (45, _), (47, _), (10, _), (61, _), (46, _)] rfl
      refine nxC ?_
      skip
      replace M := M.drop 0
      simp only [List.eraseIdx_cons_succ, List.eraseIdx_cons_zero] at M
      have htk : D.s.over.take (k + 1) = D.s.over.take k ++ [q] := by
        obtain ⟨h9, e9⟩ := List.getElem?_eq_some_iff.1 hq
        rw [List.take_succ_eq_append_getElem h9, e9]
      have hsn := triesP_snoc c.stamp c.c (D.s.over.take k) q
      rw [← htk, hT] at hsn
      first
        | (suffices hyes : q.stamp = c.stamp ∧ q.c = c.c by
             rw [if_pos hyes] at hsn
             exact ⟨D.s.over.length - (k + 1), by omega, k + 1, by omega, rfl, by rw [hsn]; omega, S.sub _ rfl, by rw [hsn]; exact M⟩
           exact ⟨h55, h61⟩)
        | (suffices hno : ¬ (q.stamp = c.stamp ∧ q.c = c.c) by
             rw [if_neg hno] at hsn
             exact ⟨D.s.over.length - (k + 1), by omega, k + 1, by omega, rfl, by rw [hsn]; exact htr, S.sub _ rfl, by rw [hsn]; exact M⟩
           omega)
    clear S; intro h61 S
    refine st_condT S rfl ?_
    refine wp_region_lit ?_
    refine st_run [3, 2, 4, 1] S M rfl (by kernel_rfl) ?_; clear S a; intro a S
    refine st_y S rfl rfl rfl (y_max S rfl rfl) ?_; clear S a; intro a S
    refine st_go [3] S rfl (by kernel_rfl) ?_; clear S a; intro a S
    refine st_store (sz := 1) (us := [_]) S M 1 rfl (by kernel_rfl) rfl rfl rfl rfl rfl rfl (by first | decide | (simp; done) | (simp; omega)) ?_; clear M; intro w13 M
    simp only [putL, List.set_cons_zero, List.set_cons_succ, Nat.reduceAdd] at M
    replace S := S.sub [(0, _), (4, _), (6, _), (8, _), (44, _), (45, _), (46, _), (47, _), (10, _), (61, _)] rfl
    refine wpList_nil ?_
    refine block_normal ?_
    refine nxF ?_
    (first | refine st_y S rfl rfl rfl (y_addN S rfl rfl (by omega)) ?_ | refine st_y S rfl rfl rfl (y_int S rfl rfl rfl) ?_); clear S a; intro a S
    refine st_go [1] S rfl (by kernel_rfl) ?_; clear S a; intro a S
    refine nxC ?_
    skip
    replace M := M.drop 0
    simp only [List.eraseIdx_cons_succ, List.eraseIdx_cons_zero] at M
    have htk : D.s.over.take (k + 1) = D.s.over.take k ++ [q] := by
      obtain ⟨h9, e9⟩ := List.getElem?_eq_some_iff.1 hq
      rw [List.take_succ_eq_append_getElem h9, e9]
    have hsn := triesP_snoc c.stamp c.c (D.s.over.take k) q
    rw [← htk, hT] at hsn
    first
      | (suffices hyes : q.stamp = c.stamp ∧ q.c = c.c by
           rw [if_pos hyes] at hsn
           exact ⟨D.s.over.length - (k + 1), by omega, k + 1, by omega, rfl, by rw [hsn]; omega, S.sub _ rfl, by rw [hsn]; exact M⟩
         exact ⟨h55, h61⟩)
      | (suffices hno : ¬ (q.stamp = c.stamp ∧ q.c = c.c) by
           rw [if_neg hno] at hsn
           exact ⟨D.s.over.length - (k + 1), by omega, k + 1, by omega, rfl, by rw [hsn]; exact htr, S.sub _ rfl, by rw [hsn]; exact M⟩
         omega)
  clear S a M; intro a wc
  rintro ⟨st, tr, hQ, htr, S, M⟩
  refine wp_seq ?_
  refine nxD ?_
  refine st_run [1, 1, 1, 1, 4] S M rfl (by kernel_rfl) ?_; clear S a; intro a S
  refine st_y S rfl rfl rfl (y_makeFunc (fs := []) (cs := [(Operand.tmp 8)]) S rfl rfl) ?_; clear S a; intro a S
  refine st_call (xs := [(Operand.tmp 77), (Operand.tmp 78)]) S (enters_of Try.func37 (by decide) rfl) rfl rfl rfl (findO_any (fi := []) (ca := [.pointer (some ⟨bN, 0, none⟩)]) (enters_of Try.func52 (by decide) rfl) rl.a rl.c D.s.l (fun o => o.nm.stamp == st) _ (M.readAll 4 rfl (by unfold maxLen; omega)) (fun x w' hw => nameq_any x bN ⟨st, D.s.inc, tr⟩ w' ((M.blk 0 rfl).ext hw))) ?_
  rintro _ w15 ⟨j, rfl, hK, hF⟩; refine ⟨_, rfl, ?_⟩; clear S a; intro a S; replace M := M.grow hK
  have hany : (0 ≤ j) ↔ (D.s.l.any fun o => o.nm.stamp == st) = true := by
    rcases hF with ⟨k, q, rfl, hq, hp, -⟩ | ⟨rfl, h⟩
    · exact ⟨fun _ => List.any_eq_true.2 ⟨q, List.mem_of_getElem? hq, hp⟩, fun _ => by omega⟩
    · refine ⟨fun h0 => by omega, fun h0 => ?_⟩
      obtain ⟨q, hq, hp⟩ := List.any_eq_true.1 h0
      have h3 := h q hq
      simp only at h3
      rw [h3] at hp; cases hp
  refine st_go [1, 1] S rfl (by kernel_rfl) ?_; clear S a; intro a S
  refine st_if (t := 81) S rfl ?_ ?_
  · clear S; intro h81 S
    refine st_go [0, 0, 0, 1] S rfl (by kernel_rfl) ?_; clear S a; intro a S
    refine nxC ?_
    refine st_condT S rfl ?_
    refine nxD ?_
    refine st_y S rfl rfl rfl (y_build (ps := []) (pl := [(0, 1), (1, 1), (2, 1)]) (z := [.int .i64 0, .int .i64 0, .int .i64 0]) (cs := [_, _, _]) S (by kernel_rfl) rfl (rfl)) ?_; clear S a; intro a S
    refine st_store (sz := 3) (us := [_, _, _]) S M 1 rfl (by kernel_rfl) rfl rfl rfl rfl rfl rfl (by first | decide | (simp; done) | (simp; omega)) ?_; clear M; intro w16 M
    simp only [putL, List.set_cons_zero, List.set_cons_succ, Nat.reduceAdd] at M
    refine st_go [1] S rfl (by kernel_rfl) ?_; clear S a; intro a S
    refine nxC ?_
    refine wp_ret ?_
    refine then_ret ?_
    refine end_two S rfl (res_agg (cs := [_, _, _]) (by kernel_rfl) rfl rfl (M.cellsAt (k := 3) 1 rfl rfl)) (res_tmp rfl) ?_
    obtain ⟨E2, hE2, M2⟩ := Dsk.close (D := D) rl ro rm ra rs rc re (((M.drop 0).drop 0).drop 0)
    refine ⟨?_, E2, hE2, M2⟩
    rw [← hQ]; unfold nameQ
    first
      | (rw [if_pos (.inl (hany.1 (by omega)))]; rfl)
      | (rw [if_pos (.inr (by omega))]; rfl)
  clear S; intro h81 S
  refine st_run [3, 1, 1, 1] S M rfl (by kernel_rfl) ?_; clear S a; intro a S
  refine nxC ?_
  refine st_if (t := 85) S rfl ?_ ?_
  · clear S; intro h85 S
    refine st_condT S rfl ?_
    refine nxD ?_
    refine st_y S rfl rfl rfl (y_build (ps := []) (pl := [(0, 1), (1, 1), (2, 1)]) (z := [.int .i64 0, .int .i64 0, .int .i64 0]) (cs := [_, _, _]) S (by kernel_rfl) rfl (rfl)) ?_; clear S a; intro a S
    refine st_store (sz := 3) (us := [_, _, _]) S M 1 rfl (by kernel_rfl) rfl rfl rfl rfl rfl rfl (by first | decide | (simp; done) | (simp; omega)) ?_; clear M; intro w17 M
    simp only [putL, List.set_cons_zero, List.set_cons_succ, Nat.reduceAdd] at M
    refine st_go [1] S rfl (by kernel_rfl) ?_; clear S a; intro a S
    refine nxC ?_
    refine wp_ret ?_
    refine then_ret ?_
    refine end_two S rfl (res_agg (cs := [_, _, _]) (by kernel_rfl) rfl rfl (M.cellsAt (k := 3) 1 rfl rfl)) (res_tmp rfl) ?_
    obtain ⟨E2, hE2, M2⟩ := Dsk.close (D := D) rl ro rm ra rs rc re (((M.drop 0).drop 0).drop 0)
    refine ⟨?_, E2, hE2, M2⟩
    rw [← hQ]; unfold nameQ
    first
      | (rw [if_pos (.inl (hany.1 (by omega)))]; rfl)
      | (rw [if_pos (.inr (by omega))]; rfl)
  clear S; intro h85 S
  refine st_condF S rfl ?_
  refine wp_skip ?_
  refine then_normal ?_
  refine wp_seq ?_
  refine wp_seq ?_
  have hno : ¬ ((D.s.l.any fun o => o.nm.stamp == st) = true ∨ 1048576 ≤ tr) := by
    rintro (h | h)
    · have := hany.2 h; omega
    · omega
  refine wp_region_lit ?_
  refine st_run [1, 1, 1, 2, 4, 1] S M rfl (by kernel_rfl) ?_; clear S a; intro a S
  replace S := S.sub [(0, _), (4, _), (6, _), (8, _), (85, _), (92, _)] rfl
  refine nxC ?_
  refine st_if (t := 92) S rfl ?_ ?_
  · clear S; intro h92 S
    refine st_condT S rfl ?_
    refine nxD ?_
    refine st_y S rfl rfl rfl (y_build (ps := []) (pl := [(0, 1), (1, 1), (2, 1)]) (z := [.int .i64 0, .int .i64 0, .int .i64 0]) (cs := [_, _, _]) S (by kernel_rfl) rfl (rfl)) ?_; clear S a; intro a S
    refine st_store (sz := 3) (us := [_, _, _]) S M 1 rfl (by kernel_rfl) rfl rfl rfl rfl rfl rfl (by first | decide | (simp; done) | (simp; omega)) ?_; clear M; intro w18 M
    simp only [putL, List.set_cons_zero, List.set_cons_succ, Nat.reduceAdd] at M
    refine st_go [1] S rfl (by kernel_rfl) ?_; clear S a; intro a S
    refine nxC ?_
    refine wp_ret ?_
    refine then_ret ?_
    refine end_two S rfl (res_agg (cs := [_, _, _]) (by kernel_rfl) rfl rfl (M.cellsAt (k := 3) 1 rfl rfl)) (res_tmp rfl) ?_
    obtain ⟨E2, hE2, M2⟩ := Dsk.close (D := D) rl ro rm ra rs rc re (((M.drop 0).drop 0).drop 0)
    refine ⟨?_, E2, hE2, M2⟩
    rw [← hQ]; unfold nameQ; rw [if_neg hno, if_pos (by omega)]; rfl
  clear S; intro h92 S
  refine st_condF S rfl ?_
  refine wp_skip ?_
  refine nxE ?_
  refine st_run [3, 1] S M rfl (by kernel_rfl) ?_; clear S a; intro a S
  (first | refine st_y S rfl rfl rfl (y_addN S rfl rfl (by omega)) ?_ | refine st_y S rfl rfl rfl (y_int S rfl rfl rfl) ?_); clear S a; intro a S
  refine st_go [3] S rfl (by kernel_rfl) ?_; clear S a; intro a S
  refine st_store (sz := 1) (us := [_]) S M 0 rfl (by kernel_rfl) rfl rfl rfl rfl rfl rfl (by first | decide | (simp; done) | (simp; omega)) ?_; clear M; intro w19 M
  simp only [putL, List.set_cons_zero, List.set_cons_succ, Nat.reduceAdd] at M
  refine nxA ?_
  refine st_y S rfl rfl rfl (y_loadAgg (cs := [_, _, _]) S (by kernel_rfl) rfl rfl (M.cellsAt (k := 3) 0 rfl rfl)) ?_; clear S a; intro a S
  refine st_store (sz := 3) (us := [_, _, _]) S M 1 rfl (by kernel_rfl) rfl rfl rfl rfl rfl rfl (by first | decide | (simp; done) | (simp; omega)) ?_; clear M; intro w20 M
  simp only [putL, List.set_cons_zero, List.set_cons_succ, Nat.reduceAdd] at M
  refine st_go [1] S rfl (by kernel_rfl) ?_; clear S a; intro a S
  refine nxC ?_
  refine wp_ret ?_
  refine end_two S rfl (res_agg (cs := [_, _, _]) (by kernel_rfl) rfl rfl (M.cellsAt (k := 3) 1 rfl rfl)) (res_tmp rfl) ?_
  obtain ⟨E2, hE2, M2⟩ := Dsk.close (D := D) rl ro rm ra rs rc re (((M.drop 0).drop 0).drop 0)
  refine ⟨?_, E2, hE2, M2⟩
  rw [← hQ]; unfold nameQ; rw [if_neg hno, if_neg (by omega)]
end Go.Proofs.Ytniijiipkfhjgaa

namespace Go.Proofs.Ytniijiipkfhjgaa
open Go.RowKit Go.Sort
/-- the rows are short, so that much may be put behind -/
structure Dsk.tiny (D : Dsk) : Prop where
  l : D.s.l.length ≤ 500
  over : D.s.over.length ≤ 500
  mail : D.t.mail.length ≤ 500
  ans : D.t.ans.length ≤ 500
  seen : D.t.seen.length ≤ 500
  com : D.t.com.length ≤ 500
  ends : D.t.ends.length ≤ 500
/-- not so short, yet short enough for an end -/
structure Dsk.mid (D : Dsk) : Prop where
  l : D.s.l.length ≤ 900
  over : D.s.over.length ≤ 900
  mail : D.t.mail.length ≤ 900
  ans : D.t.ans.length ≤ 900
  seen : D.t.seen.length ≤ 900
  com : D.t.com.length ≤ 900
  ends : D.t.ends.length ≤ 900
theorem Dsk.mid.small {D : Dsk} (h : D.mid) : D.small := ⟨by have := h.l; omega, by have := h.over; omega, by have := h.mail; omega, by have := h.ans; omega, by have := h.seen; omega, by have := h.com; omega, by have := h.ends; omega⟩
theorem Dsk.tiny.mid {D : Dsk} (h : D.tiny) : D.mid := ⟨by have := h.l; omega, by have := h.over; omega, by have := h.mail; omega, by have := h.ans; omega, by have := h.seen; omega, by have := h.com; omega, by have := h.ends; omega⟩
theorem Dsk.tiny.small {D : Dsk} (h : D.tiny) : D.small := ⟨by have := h.l; omega, by have := h.over; omega, by have := h.mail; omega, by have := h.ans; omega, by have := h.seen; omega, by have := h.com; omega, by have := h.ends; omega⟩
def newOpe (h c : Int) (nm : Nm) : Ope := ⟨h, c, nm, 0, 0, 0, 0, 0, 0, 0, 0, zMg⟩
abbrev Dsk.opened (D : Dsk) (c : Cal) (nm : Nm) : Dsk := { D with s := { D.s with l := D.s.l ++ [newOpe (D.s.last + 1) c.c nm], last := D.s.last + 1 } }
def Dsk.begin (D : Dsk) (c : Cal) (stamp : Int) : Dsk :=
  if (nameP D.s c stamp).2 = 0 then ((D.opened c (nameP D.s c stamp).1).answer ⟨c.c, D.s.last + 1, 0, zV8, (nameP D.s c stamp).1.stamp, c.kind⟩).seen ⟨0, (nameP D.s c stamp).1, 0, zV8, 0⟩
  else D.refused { c with h := 0 } (nameP D.s c stamp).2
theorem Dsk.closeG {wc w : World} {A : List Ent} {b : Nat} {cs : Array Value} {e1 e2 e3 e4 e5 e6 e7 : Ent} (D' : Dsk) (rl ro rm ra rs rc re : Rw) (M : Mem wc w (.blk b cs 79 :: e1 :: e2 :: e3 :: e4 :: e5 :: e6 :: e7 :: A)) (h0 : cs = (dskL D' rl ro rm ra rs rc re).toArray)
    (h1 : e1 = rl.ent 65 37 D'.s.l.length (fm Ope.cellsL D'.s.l)) (h2 : e2 = ro.ent 91 5 D'.s.over.length (fm End_.cellsL D'.s.over)) (h3 : e3 = rm.ent 45 24 D'.t.mail.length (fm msgL D'.t.mail)) (h4 : e4 = ra.ent 69 13 D'.t.ans.length (fm Ans.cellsL D'.t.ans))
    (h5 : e5 = rs.ent 71 14 D'.t.seen.length (fm Seen_.cellsL D'.t.seen)) (h6 : e6 = rc.ent 40 3 D'.t.com.length (fm nmL D'.t.com)) (h7 : e7 = re.ent 40 3 D'.t.ends.length (fm nmL D'.t.ends)) : ∃ E, DeskE b D' E ∧ Mem wc w (A ++ E) := by
  subst h0 h1 h2 h3 h4 h5 h6 h7
  exact Dsk.close rl ro rm ra rs rc re M
theorem Dsk.closeGR {wc w : World} {A : List Ent} {b : Nat} {cs : Array Value} {e1 e2 e3 e4 e5 e6 e7 : Ent} (D' : Dsk) (rl ro rm ra rs rc re : Rw) (M : Mem wc w (.blk b cs 79 :: e1 :: e2 :: e3 :: e4 :: e5 :: e6 :: e7 :: A)) (h0 : cs = (dskL D' rl ro rm ra rs rc re).toArray)
    (h1 : e1 = rl.ent 65 37 D'.s.l.length (fm Ope.cellsL D'.s.l)) (h2 : e2 = ro.ent 91 5 D'.s.over.length (fm End_.cellsL D'.s.over)) (h3 : e3 = rm.ent 45 24 D'.t.mail.length (fm msgL D'.t.mail)) (h4 : e4 = ra.ent 69 13 D'.t.ans.length (fm Ans.cellsL D'.t.ans))
    (h5 : e5 = rs.ent 71 14 D'.t.seen.length (fm Seen_.cellsL D'.t.seen)) (h6 : e6 = rc.ent 40 3 D'.t.com.length (fm nmL D'.t.com)) (h7 : e7 = re.ent 40 3 D'.t.ends.length (fm nmL D'.t.ends)) : ∃ E, DeskR b rl.a rl.c D' E ∧ Mem wc w (A ++ E) := by
  subst h0 h1 h2 h3 h4 h5 h6 h7
  exact Dsk.closeR rl ro rm ra rs rc re M
set_option maxHeartbeats 4000000 in
theorem begin_any {wc w : World} {A E : List Ent} {b : Nat} {D : Dsk} (c : Cal) (da : Option Addr) (dl dc : Nat) (stamp : Int) (hE : DeskE b D E) (M : Mem wc w (A ++ E)) (hs : D.tiny) (ht : ∀ x ∈ D.s.over, 0 ≤ x.try_ ∧ x.try_ ≤ 1048576) (hl : -1 ≤ D.s.last ∧ D.s.last ≤ 1099511627776) :
    Calls Try.prog 19 #[.pointer (some ⟨b, 0, none⟩), .agg (c.cellsL (.slice da dl dc)).toArray, .int .i64 stamp] w fun e w' => e = .returned (.tuple #[]) ∧ ∃ E', DeskE b (D.begin c stamp) E' ∧ Mem wc w' (A ++ E') := by
  have hsl := hs.l
  obtain ⟨nm, hnm⟩ : ∃ nm, (nameP D.s c stamp).1 = nm := ⟨_, rfl⟩
  obtain ⟨er, her⟩ : ∃ er, (nameP D.s c stamp).2 = er := ⟨_, rfl⟩
  refine calls_enter Try.func19 rfl 69 rfl rfl ?_; intro a S
  refine nxD ?_
  refine st_box S M rfl rfl rfl #[_, _, _, _, _, _] rfl ?_; clear S M a; intro a w1 bX S M hB
  refine nxA ?_
  refine st_go [1] S rfl (by kernel_rfl) ?_; clear S a; intro a S
  refine st_y S rfl rfl rfl (y_loadAgg (cs := [_, _, _, _, _, _]) S (by kernel_rfl) rfl rfl (M.cellsAt (k := 6) 0 rfl rfl)) ?_; clear S a; intro a S
  refine st_go [1] S rfl (by kernel_rfl) ?_; clear S a; intro a S
  refine st_call (xs := [(Operand.tmp 9), (Operand.tmp 10), (Operand.tmp 11)]) S (enters_of Try.func31 (by decide) rfl) rfl rfl rfl (name_any (A := _ :: A) c da dl dc stamp hE M hs.small ht) ?_
  rintro _ w2 ⟨rfl, E1, hE1, M1⟩; refine ⟨_, rfl, ?_⟩; clear S M a; intro a S; have M := M1; clear M1
  rw [hnm, her] at S
  refine st_go [1, 1, 1] S rfl (by kernel_rfl) ?_; clear S a; intro a S
  refine st_alloc S M rfl rfl #[.int .i64 0, .int .i64 0, .int .i64 0] (by kernel_rfl) ?_; clear S M a; intro a w3 bN S M hB
  refine st_store (sz := 3) (us := [_, _, _]) S M 0 rfl (by kernel_rfl) rfl rfl rfl rfl rfl rfl (by first | decide | (simp; done) | (simp; omega)) ?_; clear M; intro w4 M
  simp only [putL, List.set_cons_zero, List.set_cons_succ, Nat.reduceAdd] at M
  refine st_go [1] S rfl (by kernel_rfl) ?_; clear S a; intro a S
  refine nxC ?_
  refine wp_seq ?_
  refine nxD ?_
  refine st_go [1, 1] S rfl (by kernel_rfl) ?_; clear S a; intro a S
  refine nxC ?_
  refine st_if (t := 16) S rfl ?_ ?_
  · clear S; intro h16 S
    refine st_condT S rfl ?_
    refine nxD ?_
    refine st_go [3] S rfl (by kernel_rfl) ?_; clear S a; intro a S
    refine st_store (sz := 1) (us := [_]) S M 1 rfl (by kernel_rfl) rfl rfl rfl rfl rfl rfl (by first | decide | (simp; done) | (simp; omega)) ?_; clear M; intro w5 M
    simp only [putL, List.set_cons_zero, List.set_cons_succ, Nat.reduceAdd] at M
    refine nxA ?_
    refine st_go [1] S rfl (by kernel_rfl) ?_; clear S a; intro a S
    refine st_y S rfl rfl rfl (y_loadAgg (cs := [_, _, _, _, _, _]) S (by kernel_rfl) rfl rfl (M.cellsAt (k := 6) 1 rfl rfl)) ?_; clear S a; intro a S
    refine st_go [1] S rfl (by kernel_rfl) ?_; clear S a; intro a S
    refine st_call (xs := [(Operand.tmp 18), (Operand.tmp 19), (Operand.tmp 20)]) S (enters_of Try.func32 (by decide) rfl) rfl rfl rfl (refused_any (A := _ :: _ :: A) { c with h := 0 } da dl dc er hE1 M hs.small) ?_
    rintro _ w6 ⟨rfl, E2, hE2, M1⟩; refine ⟨_, rfl, ?_⟩; clear S M a; intro a S; have M := M1; clear M1
    refine nxC ?_
    refine wp_ret ?_
    refine then_ret ?_
    refine end_none S rfl ?_
    refine ⟨rfl, E2, ?_, (M.drop 0).drop 0⟩
    unfold Dsk.begin
    rw [her, if_neg (by omega)]; exact hE2
  clear S; intro h16 S
  refine st_condF S rfl ?_
  refine wp_skip ?_
  refine then_normal ?_
  refine wp_seq ?_
  obtain ⟨rl, ro, rm, ra, rs, rc, re, M1⟩ := Dsk.open (A := _ :: _ :: A) hE1 M
  clear M; have M := M1; clear M1
  refine wp_region_lit ?_
  refine st_run [1, 1, 1, 2, 1] S M rfl (by kernel_rfl) ?_; clear S a; intro a S
  (first | refine st_y S rfl rfl rfl (y_addN S rfl rfl (by omega)) ?_ | refine st_y S rfl rfl rfl (y_int S rfl rfl rfl) ?_); clear S a; intro a S
  refine st_go [1, 1, 2] S rfl (by kernel_rfl) ?_; clear S a; intro a S
  refine st_store (sz := 1) (us := [_]) S M 0 rfl (by kernel_rfl) rfl rfl rfl rfl rfl rfl (by first | decide | (simp; done) | (simp; omega)) ?_; clear M; intro w7 M
  simp only [putL, List.set_cons_zero, List.set_cons_succ, Nat.reduceAdd] at M
  replace S := S.sub [(0, _), (1, _), (2, _), (4, _), (6, _), (7, _), (16, _)] rfl
  refine nxC ?_
  refine wp_seq ?_
  refine wp_regionK [16, 20] #[false, false, false, false, false, false, false, false, false, false, false, false, false, false, false, false, false, false, false, false, false] rfl M (by kernel_rfl) ?_; clear M; intro w8 M
  refine k_pure (listed' := #[true, false, false, false, false, false, false, false, false, false, false, false, false, false, false, false, false, false, false, false, false]) 0 S rfl rfl rfl rfl (by kernel_rfl) rfl (fun _ d _ _ _ h => by cases d <;> exact h) (fun w => y_move S rfl) ?_; clear S a; intro a S
  refine k_pure (listed' := #[true, true, false, false, false, false, false, false, false, false, false, false, false, false, false, false, false, false, false, false, false]) 1 S rfl rfl rfl rfl (by kernel_rfl) rfl (fun _ d _ _ _ h => by cases d <;> exact h) (fun w => y_move S rfl) ?_; clear S a; intro a S
  refine k_pure (listed' := #[true, true, true, false, false, false, false, false, false, false, false, false, false, false, false, false, false, false, false, false, false]) 2 S rfl rfl rfl rfl (by kernel_rfl) rfl (fun _ d _ _ _ h => by cases d <;> exact h) (fun w => y_nilCheck S rfl) ?_; clear S a; intro a S
  refine k_pure (listed' := #[true, true, true, true, false, false, false, false, false, false, false, false, false, false, false, false, false, false, false, false, false]) 3 S rfl rfl rfl rfl (by kernel_rfl) rfl (fun _ d _ _ _ h => by cases d <;> exact h) (fun w => y_fieldAddr (k := 0) S (by kernel_rfl) rfl) ?_; clear S a; intro a S
  refine k_pure (listed' := #[true, true, true, true, true, false, false, false, false, false, false, false, false, false, false, false, false, false, false, false, false]) 4 S rfl rfl rfl rfl (by kernel_rfl) rfl (fun _ d _ _ _ h => by cases d <;> exact h) (fun w => y_fieldAddr (k := 0) S (by kernel_rfl) rfl) ?_; clear S a; intro a S
  refine k_read (listed' := #[true, true, true, true, true, true, false, false, false, false, false, false, false, false, false, false, false, false, false, false, false]) 5 S rfl rfl rfl rfl (by kernel_rfl) rfl (fun _ d _ _ _ h => by cases d <;> exact h) (fun w hW => have M := M.grow hW; y_load S (by kernel_rfl) rfl (M.cell 0 rfl rfl)) ?_; clear S a; intro a S
  refine k_pure (listed' := #[true, true, true, true, true, true, true, false, false, false, false, false, false, false, false, false, false, false, false, false, false]) 6 S rfl rfl rfl rfl (by kernel_rfl) rfl (fun _ d _ _ _ h => by cases d <;> exact h) (fun w => y_move S rfl) ?_; clear S a; intro a S
  refine k_pure (listed' := #[true, true, true, true, true, true, true, true, false, false, false, false, false, false, false, false, false, false, false, false, false]) 7 S rfl rfl rfl rfl (by kernel_rfl) rfl (fun _ d _ _ _ h => by cases d <;> exact h) (fun w => y_nilCheck S rfl) ?_; clear S a; intro a S
  refine k_pure (listed' := #[true, true, true, true, true, true, true, true, true, false, false, false, false, false, false, false, false, false, false, false, false]) 8 S rfl rfl rfl rfl (by kernel_rfl) rfl (fun _ d _ _ _ h => by cases d <;> exact h) (fun w => y_fieldAddr (k := 0) S (by kernel_rfl) rfl) ?_; clear S a; intro a S
  refine k_pure (listed' := #[true, true, true, true, true, true, true, true, true, true, false, false, false, false, false, false, false, false, false, false, false]) 9 S rfl rfl rfl rfl (by kernel_rfl) rfl (fun _ d _ _ _ h => by cases d <;> exact h) (fun w => y_fieldAddr (k := 1) S (by kernel_rfl) rfl) ?_; clear S a; intro a S
  refine k_read (listed' := #[true, true, true, true, true, true, true, true, true, true, true, false, false, false, false, false, false, false, false, false, false]) 10 S rfl rfl rfl rfl (by kernel_rfl) rfl (fun _ d _ _ _ h => by cases d <;> exact h) (fun w hW => have M := M.grow hW; y_load S (by kernel_rfl) rfl (M.cell 0 rfl rfl)) ?_; clear S a; intro a S
  refine k_pure (listed' := #[true, true, true, true, true, true, true, true, true, true, true, true, false, false, false, false, false, false, false, false, false]) 11 S rfl rfl rfl rfl (by kernel_rfl) rfl (fun _ d _ _ _ h => by cases d <;> exact h) (fun w => y_fieldAddr (k := 1) S (by kernel_rfl) rfl) ?_; clear S a; intro a S
  refine k_read (listed' := #[true, true, true, true, true, true, true, true, true, true, true, true, true, false, false, false, false, false, false, false, false]) 12 S rfl rfl rfl rfl (by kernel_rfl) rfl (fun _ d _ _ _ h => by cases d <;> exact h) (fun w hW => have M := M.grow hW; y_load S (by kernel_rfl) rfl (M.cell 9 rfl rfl)) ?_; clear S a; intro a S
  refine k_read (listed' := #[true, true, true, true, true, true, true, true, true, true, true, true, true, true, false, false, false, false, false, false, false]) 13 S rfl rfl rfl rfl (by kernel_rfl) rfl (fun _ d _ _ _ h => by cases d <;> exact h) (fun w hW => have M := M.grow hW; y_loadAgg (cs := [_, _, _]) S (by kernel_rfl) rfl rfl (M.cellsAt (k := 3) 8 rfl rfl)) ?_; clear S a; intro a S
  refine k_pure (listed' := #[true, true, true, true, true, true, true, true, true, true, true, true, true, true, true, false, false, false, false, false, false]) 14 S rfl rfl rfl rfl (by kernel_rfl) rfl (fun _ d _ _ _ h => by cases d <;> exact h) (fun w => y_build (ps := [(0, (Operand.tmp 41)), (1, (Operand.tmp 43)), (2, (Operand.tmp 44))]) (pl := [(0, 1), (1, 1), (2, 3), (5, 1), (6, 1), (7, 5), (12, 1), (13, 24)]) (z := [.int .i64 0, .int .i64 0, .int .i64 0, .int .i64 0, .int .i64 0, .int .i8 0, .int .i64 0, .int .i64 0, .int .i64 0, .int .i64 0, .int .i64 0, .int .i64 0, .int .i64 0, .int .i8 0, .int .i64 0, .int .i64 0, .int .i64 0, .int .i64 0, .int .i64 0, .int .i64 0, .int .i64 0, .int .i64 0, .int .i8 0, .int .i64 0, .int .u8 0, .int .u8 0, .int .u8 0, .int .u8 0, .int .u8 0, .int .u8 0, .int .u8 0, .int .u8 0, .int .i64 0, .bool false, .int .i64 0, .int .i64 0, .slice none 0 0]) (cs := (newOpe (D.s.last + 1) c.c nm).cellsL) S (by kernel_rfl) rfl (by kernel_rfl)) ?_; clear S a; intro a S
  refine k_one (listed' := #[true, true, true, true, true, true, true, true, true, true, true, true, true, true, true, true, false, false, false, false, false]) 15 rfl (by kernel_rfl) rfl ?_
  refine st_lit (ps := [(0, (Operand.tmp 45))]) (e := 65) (sz := 37) (zl := [.int .i64 0, .int .i64 0, .int .i64 0, .int .i64 0, .int .i64 0, .int .i8 0, .int .i64 0, .int .i64 0, .int .i64 0, .int .i64 0, .int .i64 0, .int .i64 0, .int .i64 0, .int .i8 0, .int .i64 0, .int .i64 0, .int .i64 0, .int .i64 0, .int .i64 0, .int .i64 0, .int .i64 0, .int .i64 0, .int .i8 0, .int .i64 0, .int .u8 0, .int .u8 0, .int .u8 0, .int .u8 0, .int .u8 0, .int .u8 0, .int .u8 0, .int .u8 0, .int .i64 0, .bool false, .int .i64 0, .int .i64 0, .slice none 0 0]) (cs := (newOpe (D.s.last + 1) c.c nm).cellsL) S M rfl rfl (by kernel_rfl) rfl (by kernel_rfl) ?_; clear S M a; intro a w9 bZ S M hB
  refine wpList_nil ?_; refine then_normal ?_; refine ⟨fun _ => hB, ?_⟩
  refine k_one (listed' := #[true, true, true, true, true, true, true, true, true, true, true, true, true, true, true, true, true, false, false, false, false]) 16 rfl (by kernel_rfl) rfl ?_
  refine st_append (e := 65) (sz := 37) (by_ := 256) (zc := [.int .i64 0, .int .i64 0, .int .i64 0, .int .i64 0, .int .i64 0, .int .i8 0, .int .i64 0, .int .i64 0, .int .i64 0, .int .i64 0, .int .i64 0, .int .i64 0, .int .i64 0, .int .i8 0, .int .i64 0, .int .i64 0, .int .i64 0, .int .i64 0, .int .i64 0, .int .i64 0, .int .i64 0, .int .i64 0, .int .i8 0, .int .i64 0, .int .u8 0, .int .u8 0, .int .u8 0, .int .u8 0, .int .u8 0, .int .u8 0, .int .u8 0, .int .u8 0, .int .i64 0, .bool false, .int .i64 0, .int .i64 0, .slice none 0 0]) S M 2 rfl rfl (by kernel_rfl) rfl (by decide) rfl rfl rfl (show Rd _ _ _ 37 _ 1 (newOpe (D.s.last + 1) c.c nm).cellsL from M.sliceAt 0 rfl (M.cellsAt (k := 37) 0 rfl rfl) rfl (Nat.le_refl _) (by unfold maxLen; omega)) (rfl) (by omega) (by unfold maxLen; omega) ?_; clear S M a; intro a w10 vA loA hiA S M
  refine wpList_nil ?_; refine then_normal ?_; refine ⟨fun h => absurd h (by decide), ?_⟩
  refine k_pure (listed' := #[true, true, true, true, true, true, true, true, true, true, true, true, true, true, true, true, true, true, false, false, false]) 17 S rfl rfl rfl rfl (by kernel_rfl) rfl (fun _ d _ _ _ h => by cases d <;> exact h) (fun w => y_nilCheck S rfl) ?_; clear S a; intro a S
  refine k_pure (listed' := #[true, true, true, true, true, true, true, true, true, true, true, true, true, true, true, true, true, true, true, false, false]) 18 S rfl rfl rfl rfl (by kernel_rfl) rfl (fun _ d _ _ _ h => by cases d <;> exact h) (fun w => y_fieldAddr (k := 0) S (by kernel_rfl) rfl) ?_; clear S a; intro a S
  refine k_pure (listed' := #[true, true, true, true, true, true, true, true, true, true, true, true, true, true, true, true, true, true, true, true, false]) 19 S rfl rfl rfl rfl (by kernel_rfl) rfl (fun _ d _ _ _ h => by cases d <;> exact h) (fun w => y_fieldAddr (k := 0) S (by kernel_rfl) rfl) ?_; clear S a; intro a S
  refine k_one (listed' := #[true, true, true, true, true, true, true, true, true, true, true, true, true, true, true, true, true, true, true, true, true]) 20 rfl (by kernel_rfl) rfl ?_
  obtain ⟨aL, cL, rfl, -, -⟩ := (M.readAll 0 rfl (by unfold maxLen; omega)).form
  refine st_store (sz := 1) (us := [_]) S M 2 rfl (by kernel_rfl) rfl rfl rfl rfl rfl rfl (by first | decide | (simp; done) | (simp; omega)) ?_; clear M; intro w11 M
  simp only [putL, List.set_cons_zero, List.set_cons_succ, Nat.reduceAdd] at M
  refine wpList_nil ?_; refine then_normal ?_; refine ⟨fun h => absurd h (by decide), ?_⟩
  refine k_end (by kernel_rfl) ?_
  replace S := S.sub [(0, _), (1, _), (2, _), (4, _), (6, _), (7, _), (16, _)] rfl
  refine then_normal ?_
  refine wp_seq ?_
  skip
  replace M := M.drop 1
  simp only [List.eraseIdx_cons_succ, List.eraseIdx_cons_zero] at M
  replace M := M.front 1 rfl
  simp only [List.eraseIdx_cons_succ, List.eraseIdx_cons_zero] at M
  refine wp_regionK [13] #[false, false, false, false, false, false, false, false, false, false, false, false, false, false] rfl M (by kernel_rfl) ?_; clear M; intro w12 M
  refine k_pure (listed' := #[true, false, false, false, false, false, false, false, false, false, false, false, false, false]) 0 S rfl rfl rfl rfl (by kernel_rfl) rfl (fun _ d _ _ _ h => by cases d <;> exact h) (fun w => y_move S rfl) ?_; clear S a; intro a S
  refine k_pure (listed' := #[true, true, false, false, false, false, false, false, false, false, false, false, false, false]) 1 S rfl rfl rfl rfl (by kernel_rfl) rfl (fun _ d _ _ _ h => by cases d <;> exact h) (fun w => y_fieldAddr (k := 1) S (by kernel_rfl) rfl) ?_; clear S a; intro a S
  refine k_read (listed' := #[true, true, true, false, false, false, false, false, false, false, false, false, false, false]) 2 S rfl rfl rfl rfl (by kernel_rfl) rfl (fun _ d _ _ _ h => by cases d <;> exact h) (fun w hW => have M := M.grow hW; y_load S (by kernel_rfl) rfl (M.cell 9 rfl rfl)) ?_; clear S a; intro a S
  refine k_pure (listed' := #[true, true, true, true, false, false, false, false, false, false, false, false, false, false]) 3 S rfl rfl rfl rfl (by kernel_rfl) rfl (fun _ d _ _ _ h => by cases d <;> exact h) (fun w => y_move S rfl) ?_; clear S a; intro a S
  refine k_pure (listed' := #[true, true, true, true, true, false, false, false, false, false, false, false, false, false]) 4 S rfl rfl rfl rfl (by kernel_rfl) rfl (fun _ d _ _ _ h => by cases d <;> exact h) (fun w => y_nilCheck S rfl) ?_; clear S a; intro a S
  refine k_pure (listed' := #[true, true, true, true, true, true, false, false, false, false, false, false, false, false]) 5 S rfl rfl rfl rfl (by kernel_rfl) rfl (fun _ d _ _ _ h => by cases d <;> exact h) (fun w => y_fieldAddr (k := 0) S (by kernel_rfl) rfl) ?_; clear S a; intro a S
  refine k_pure (listed' := #[true, true, true, true, true, true, true, false, false, false, false, false, false, false]) 6 S rfl rfl rfl rfl (by kernel_rfl) rfl (fun _ d _ _ _ h => by cases d <;> exact h) (fun w => y_fieldAddr (k := 1) S (by kernel_rfl) rfl) ?_; clear S a; intro a S
  refine k_read (listed' := #[true, true, true, true, true, true, true, true, false, false, false, false, false, false]) 7 S rfl rfl rfl rfl (by kernel_rfl) rfl (fun _ d _ _ _ h => by cases d <;> exact h) (fun w hW => have M := M.grow hW; y_load S (by kernel_rfl) rfl (M.cell 0 rfl rfl)) ?_; clear S a; intro a S
  refine k_pure (listed' := #[true, true, true, true, true, true, true, true, true, false, false, false, false, false]) 8 S rfl rfl rfl rfl (by kernel_rfl) rfl (fun _ d _ _ _ h => by cases d <;> exact h) (fun w => y_fieldAddr (k := 0) S (by kernel_rfl) rfl) ?_; clear S a; intro a S
  refine k_read (listed' := #[true, true, true, true, true, true, true, true, true, true, false, false, false, false]) 9 S rfl rfl rfl rfl (by kernel_rfl) rfl (fun _ d _ _ _ h => by cases d <;> exact h) (fun w hW => have M := M.grow hW; y_load S (by kernel_rfl) rfl (M.cell 8 rfl rfl)) ?_; clear S a; intro a S
  refine k_pure (listed' := #[true, true, true, true, true, true, true, true, true, true, true, false, false, false]) 10 S rfl rfl rfl rfl (by kernel_rfl) rfl (fun _ d _ _ _ h => by cases d <;> exact h) (fun w => y_fieldAddr (k := 0) S (by kernel_rfl) rfl) ?_; clear S a; intro a S
  refine k_read (listed' := #[true, true, true, true, true, true, true, true, true, true, true, true, false, false]) 11 S rfl rfl rfl rfl (by kernel_rfl) rfl (fun _ d _ _ _ h => by cases d <;> exact h) (fun w hW => have M := M.grow hW; y_load S (by kernel_rfl) rfl (M.cell 9 rfl rfl)) ?_; clear S a; intro a S
  refine k_pure (listed' := #[true, true, true, true, true, true, true, true, true, true, true, true, true, false]) 12 S rfl rfl rfl rfl (by kernel_rfl) rfl (fun _ d _ _ _ h => by cases d <;> exact h) (fun w => y_build (ps := [(0, (Operand.tmp 53)), (1, (Operand.tmp 58)), (4, (Operand.tmp 60)), (5, (Operand.tmp 62))]) (pl := [(0, 1), (1, 1), (2, 1), (3, 8), (11, 1), (12, 1)]) (z := [.int .i64 0, .int .i64 0, .int .i64 0, .int .u8 0, .int .u8 0, .int .u8 0, .int .u8 0, .int .u8 0, .int .u8 0, .int .u8 0, .int .u8 0, .int .i64 0, .int .i8 0]) (cs := [_, _, _, _, _, _, _, _, _, _, _, _, _]) S (by kernel_rfl) rfl (rfl)) ?_; clear S a; intro a S
  refine k_one (listed' := #[true, true, true, true, true, true, true, true, true, true, true, true, true, true]) 13 rfl (by kernel_rfl) rfl ?_
  have q1 : (D.opened c nm).s.l.length = D.s.l.length + 1 := by simp
  have q2 : fm Ope.cellsL (D.opened c nm).s.l = fm Ope.cellsL D.s.l ++ (newOpe (D.s.last + 1) c.c nm).cellsL := fm_snoc _ _ _
  obtain ⟨E2, hE2, M2⟩ := Dsk.closeG (D.opened c nm) ⟨aL, cL, loA, hiA⟩ ro rm ra rs rc re M (by unfold dskL; rw [q1]) (by unfold Rw.ent Rw.v; rw [q1, q2]) rfl rfl rfl rfl rfl rfl
  clear M; have M := M2; clear M2
  have hs2 : (D.opened c nm).small := ⟨by simp; omega, hs.small.over, hs.small.mail, hs.small.ans, hs.small.seen, hs.small.com, hs.small.ends⟩
  refine st_call (xs := [(Operand.tmp 51), (Operand.tmp 63)]) S (enters_of Try.func33 (by decide) rfl) rfl rfl rfl (answer_any (A := _ :: _ :: A) ⟨c.c, D.s.last + 1, 0, zV8, nm.stamp, c.kind⟩ hE2 M hs2) ?_
  rintro _ w13 ⟨rfl, E3, hE3, M1⟩; refine ⟨_, rfl, ?_⟩; clear S M a; intro a S; have M := M1; clear M1
  have hs3 : ((D.opened c nm).answer ⟨c.c, D.s.last + 1, 0, zV8, nm.stamp, c.kind⟩).small := ⟨hs2.l, hs2.over, hs2.mail, by have := hs.ans; simp; omega, hs2.seen, hs2.com, hs2.ends⟩
  refine wpList_nil ?_; refine then_normal ?_; refine ⟨fun h => absurd h (by decide), ?_⟩
  refine k_end (by kernel_rfl) ?_
  replace S := S.sub [(0, _), (1, _), (2, _), (4, _), (6, _), (7, _), (16, _)] rfl
  refine nxF ?_
  refine st_go [1] S rfl (by kernel_rfl) ?_; clear S a; intro a S
  refine st_y S rfl rfl rfl (y_loadAgg (cs := [_, _, _]) S (by kernel_rfl) rfl rfl (M.cellsAt (k := 3) 0 rfl rfl)) ?_; clear S a; intro a S
  refine st_y S rfl rfl rfl (y_build (ps := [(0, (Operand.const (Value.int IntKind.i8 0))), (1, (Operand.tmp 66))]) (pl := [(0, 1), (1, 3), (4, 1), (5, 8), (13, 1)]) (z := [.int .i8 0, .int .i64 0, .int .i64 0, .int .i64 0, .int .i64 0, .int .u8 0, .int .u8 0, .int .u8 0, .int .u8 0, .int .u8 0, .int .u8 0, .int .u8 0, .int .u8 0, .int .i64 0]) (cs := (⟨0, nm, 0, zV8, 0⟩ : Seen_).cellsL) S (by kernel_rfl) rfl (by kernel_rfl)) ?_; clear S a; intro a S
  refine st_call (xs := [(Operand.tmp 65), (Operand.tmp 67)]) S (enters_of Try.func34 (by decide) rfl) rfl rfl rfl (seen_any (A := _ :: _ :: A) ⟨0, nm, 0, zV8, 0⟩ hE3 M hs3) ?_
  rintro _ w14 ⟨rfl, E4, hE4, M1⟩; refine ⟨_, rfl, ?_⟩; clear S M a; intro a S; have M := M1; clear M1
  refine wpList_nil ?_
  refine end_noneN S rfl ?_
  refine ⟨rfl, E4, ?_, (M.drop 0).drop 0⟩
  unfold Dsk.begin
  rw [her, if_pos (by omega), hnm]; exact hE4
end Go.Proofs.Ytniijiipkfhjgaa

namespace Go.Proofs.Ytniijiipkfhjgaa
open Go.RowKit Go.Sort
variable {ds : List Deferred}
/-- cells in a row of one's own are set -/
theorem st_storeRow {P : Program} {ops : Array Oper} {Q : Exit → Act → World → Prop} {rest : List Oper} {n : Nat} {a : Act} {L : List (Nat × Value)} {w w0 : World} {H : List Ent} {x y : Operand} {T : TypeId} {lo hi e sz m j o' kk : Nat} {v u : Value} {cs us : List Value} {bb : Nat}
    (S : SeesD ds n a L) (M : Mem w0 w H) (pos : Nat) {t : TypeId} {p : String} {ed : Array Edge} {g : Option (Nat × Bool)} (hg : gd ops L ⟨none, .store T x y, t, p, ed, g⟩ = some true) (hT : (P.info? T).map (·.size) = some kk)
    (hx : val L x = some (.pointer (some ⟨bb, o', none⟩))) (hb : bb = (adr v).block) (ho : o' = (adr v).off + j) (hy : val L y = some u) (hu : u.cells.toList = us) (hsz : us.length = kk) (h1 : allOne us = true) (hp : H[pos]? = some (rowE lo hi e sz v m cs)) (hm : 0 < m) (hcl : cs.length = m * sz) (hle : j + us.length ≤ cs.length)
    (k : ∀ w' lo' hi', Mem w0 w' (rowE lo' hi' e sz v m (putL cs j us) :: H.eraseIdx pos) → wpList P ops Q rest a w') : wpList P ops Q (⟨none, .store T x y, t, p, ed, g⟩ :: rest) a w := by
  obtain ⟨gb, cap, more, rfl, hc1, hc2, hc3, M1⟩ := (M.front pos hp).ofRow hm
  simp only [adr] at hb ho
  subst hb ho
  rw [Nat.zero_add] at hx
  refine st_store (us := us) S M1 0 hg hT hx hy hu hsz h1 rfl (by rw [List.length_append]; omega) fun w' M2 => ?_
  simp only [List.set_cons_zero] at M2
  have e1 : putL (cs ++ more) j us = putL cs j us ++ more := by
    rw [putL_eq _ _ _ (by rw [List.length_append]; omega), putL_eq _ _ _ hle, List.take_append_of_le_length (by omega), List.drop_append_of_le_length (by omega)]
    simp only [List.append_assoc]
  rw [e1] at M2
  have hl : (putL cs j us).length = m * sz := by rw [putL_length]; exact hcl
  exact k w' _ _ (M2.toRow (sz := sz) (m := m) (cap := cap) (xs := putL cs j us) 0 rfl hl hc1 hc2 (by rw [List.size_toArray, List.length_append, hl, ← hc3, List.length_append, hcl]) (by rw [List.toList_toArray, ← hl]; exact List.take_left))
end Go.Proofs.Ytniijiipkfhjgaa

namespace Go.Proofs.Ytniijiipkfhjgaa
open Go.RowKit Go.Sort
theorem set_self {α : Type} {l : List α} {i : Nat} {x : α} (h : l[i]? = some x) : l.set i x = l := by
  obtain ⟨hlt, he⟩ := List.getElem?_eq_some_iff.1 h
  rw [← he]; exact List.set_getElem_self hlt
theorem fm_put {α : Type} {f : α → List Value} {sz : Nat} (hf : ∀ x, (f x).length = sz) {l : List α} {i : Nat} (hi : i < l.length) {x x' : α} {off : Nat} {us : List Value} (hle : off + us.length ≤ sz) (h : putL (f x) off us = f x') :
    putL (fm f (l.set i x)) (i * sz + off) us = fm f (l.set i x') := by
  have e : ∀ y, fm f (l.set i y) = fm f (l.take i) ++ (f y ++ fm f (l.drop (i + 1))) := fun y => by
    have hg : (l.set i y)[i]? = some y := by simp [hi]
    have := fm_mid f hg
    rw [List.take_set_of_le (Nat.le_refl _), List.drop_set_of_lt (by omega)] at this
    exact this
  have hA : (fm f (l.take i)).length = i * sz := by rw [fm_len hf, List.length_take, Nat.min_eq_left (by omega)]
  rw [e x, e x', ← h, ← hA]
  have hx := hf x
  rw [putL_eq _ _ _ (by simp only [List.length_append, hx]; omega), putL_eq us (f x) off (by omega)]
  rw [List.take_append, List.drop_append]
  simp only [List.length_append, List.append_assoc]
  rw [List.take_of_length_le (by omega), List.drop_of_length_le (l := fm f (l.take i)) (by omega)]
  rw [show (fm f (l.take i)).length + off - (fm f (l.take i)).length = off by omega, show (fm f (l.take i)).length + off + us.length - (fm f (l.take i)).length = off + us.length by omega]
  rw [List.take_append_of_le_length (by omega), List.drop_append_of_le_length (by omega)]
  simp
def Ope.nAt (o : Ope) : Nat → Int
  | 0 => o.n0 | 1 => o.n1 | 2 => o.n2 | 3 => o.n3 | _ => o.n4
def Ope.nSet (o : Ope) (k : Nat) (v : Int) : Ope := { o with n0 := if k = 0 then v else o.n0, n1 := if k = 1 then v else o.n1, n2 := if k = 2 then v else o.n2, n3 := if k = 3 then v else o.n3, n4 := if k = 4 then v else o.n4 }
theorem Ope.nAt_set (o : Ope) {k : Nat} (v : Int) (h : k ≤ 4) : (o.nSet k v).nAt k = v := by
  have : k = 0 ∨ k = 1 ∨ k = 2 ∨ k = 3 ∨ k = 4 := by omega
  rcases this with rfl | rfl | rfl | rfl | rfl <;> rfl
theorem Ope.nAt_cell (o : Ope) {k : Nat} (h : k ≤ 4) : o.cellsL[7 + k]? = some (.int .i64 (o.nAt k)) := by
  have : k = 0 ∨ k = 1 ∨ k = 2 ∨ k = 3 ∨ k = 4 := by omega
  rcases this with rfl | rfl | rfl | rfl | rfl <;> rfl
theorem Ope.nSet_cell (o : Ope) {k : Nat} (v : Int) (h : k ≤ 4) : putL o.cellsL (7 + k) [.int .i64 v] = (o.nSet k v).cellsL := by
  have : k = 0 ∨ k = 1 ∨ k = 2 ∨ k = 3 ∨ k = 4 := by omega
  rcases this with rfl | rfl | rfl | rfl | rfl <;> rfl
theorem ope_ex (o : Ope) : (o.cellsL.drop 13).take 24 = msgL o.ex := by kernel_rfl
theorem ope_putEx (o : Ope) (m : Msg) : putL o.cellsL 13 (msgL m) = ({ o with ex := m } : Ope).cellsL := by kernel_rfl
theorem ope_nm (o : Ope) : (o.cellsL.drop 2).take 3 = nmL o.nm := by kernel_rfl
def orI (x y : Int) : Int := IntKind.i64.wrap (BitVec.ofInt IntKind.i64.bits x ||| BitVec.ofInt IntKind.i64.bits y).toNat
/-- an exec of x, sent to the shard k -/
def Ope.ex1 (o : Ope) (k : Nat) (x : Msg) : Msg := { zMg with kind := 2, to := k, name := o.nm, n := o.nAt k + 1, op := x.op, block := x.block, val := x.val }
def Ope.execd (o : Ope) (k : Nat) (x : Msg) : Ope := { o.nSet k (o.nAt k + 1) with sh := orI o.sh (1 * (2 : Int) ^ k), ph := 1, at_ := k, ex := o.ex1 k x }
def execOk (D : Dsk) (o : Ope) (x : Msg) : Prop := shardE D.of x.block = 0 ∧ o.nAt (shardV D.of x.block).toNat < 1048576
instance (D : Dsk) (o : Ope) (x : Msg) : Decidable (execOk D o x) := by unfold execOk; infer_instance
abbrev Dsk.setO (D : Dsk) (i : Nat) (o : Ope) : Dsk := { D with s := { D.s with l := D.s.l.set i o } }
theorem shard_bd {of : Of8} {n : Int} (h : shardE of n = 0) : 1 ≤ shardV of n ∧ shardV of n ≤ 4 := by
  unfold shardE at h
  unfold shardV
  split at h
  · split at h
    · rename_i h1 h2
      rw [if_pos ⟨h1.1, h1.2, h2.1, h2.2⟩]; exact h2
    · omega
  · omega
/-- a sent exec -/
def Dsk.execd (D : Dsk) (i : Nat) (o : Ope) (x : Msg) : Dsk := (D.setO i (o.execd (shardV D.of x.block).toNat x)).mail (o.ex1 (shardV D.of x.block).toNat x)
set_option maxHeartbeats 4000000 in
theorem exec_anyR {wc w : World} {A E : List Ent} {b : Nat} {pa : Option Addr} {pc : Nat} {D : Dsk} (i : Nat) (o : Ope) (x : Msg) (hE : DeskR b pa pc D E) (M : Mem wc w (A ++ E)) (hs : D.tiny) (ho : D.s.l[i]? = some o) (hn : ∀ k, 0 ≤ o.nAt k ∧ o.nAt k ≤ 1048576) :
    Calls Try.prog 47 #[.pointer (some ⟨b, 0, none⟩), .int .i64 (i : Int), .agg (msgL x).toArray] w fun e w' => e = .returned (.bool (decide (execOk D o x))) ∧ ∃ E', DeskR b pa pc (if execOk D o x then D.execd i o x else D) E' ∧ Mem wc w' (A ++ E') := by
  have hsl := hs.l
  have hsm := hs.mail
  obtain ⟨hil, -⟩ := List.getElem?_eq_some_iff.1 ho
  obtain ⟨rl, ro, rm, ra, rs, rc, re, rfl, rfl, M1⟩ := Dsk.openR hE M
  clear M; have M := M1; clear M1 hE
  have hgs : ∀ y : Ope, (D.s.l.set i y)[i]? = some y := fun y => by simp [hil]
  have hfl : ∀ y : Ope, (fm Ope.cellsL (D.s.l.set i y)).length = D.s.l.length * 37 := fun y => by rw [fm_len len_ope, List.length_set]
  refine calls_enter Try.func47 rfl 100 rfl rfl ?_; intro a S
  refine wp_seq ?_
  skip
  refine wp_region_lit ?_
  refine st_box S M rfl rfl rfl #[_, _, _, _, _, _, _, _, _, _, _, _, _, _, _, _, _, _, _, _, _, _, _, _] rfl ?_; clear S M a; intro a w1 bX S M hB
  refine st_go [1] S rfl (by kernel_rfl) ?_; clear S a; intro a S
  refine nxA ?_
  refine st_run [1, 1, 1, 1, 2, 1] S M rfl (by kernel_rfl) ?_; clear S a; intro a S
  refine st_y S rfl rfl rfl (y_indexR (e := 65) (sz := 37) S (by kernel_rfl) rfl (M.readAll 2 rfl (by unfold maxLen; omega)) rfl (by first | omega | (simp; done) | (simp; omega))) ?_; clear S a; intro a S
  try simp only [Int.toNat_natCast, Nat.mul_one, Nat.zero_add] at S
  refine st_go [1] S rfl (by kernel_rfl) ?_; clear S a; intro a S
  refine nxC ?_
  refine wp_seq ?_
  refine wp_quiet M (by kernel_rfl) (by kernel_rfl) ?_
  refine qt_y S rfl rfl rfl (fun w M => y_move S rfl) ?_; clear S a; intro a S
  refine qt_y S rfl rfl rfl (fun w M => y_nilCheck S rfl) ?_; clear S a; intro a S
  refine qt_y S rfl rfl rfl (fun w M => y_fieldAddr (k := 9) S (by kernel_rfl) rfl) ?_; clear S a; intro a S
  refine qt_y S rfl rfl rfl (fun w M => y_loadAgg (cs := [_, _, _, _, _, _, _, _]) S (by kernel_rfl) rfl rfl (M.cellsAt (k := 8) 1 rfl rfl)) ?_; clear S a; intro a S
  refine qt_y S rfl rfl rfl (fun w M => y_fieldAddr (k := 10) S (by kernel_rfl) rfl) ?_; clear S a; intro a S
  refine qt_y S rfl rfl rfl (fun w M => y_load S (by kernel_rfl) rfl (M.cell 0 rfl rfl)) ?_; clear S a; intro a S
  refine qt_call (xs := [(Operand.tmp 21), (Operand.tmp 23)]) S (enters_of Try.func53 (by decide) rfl) rfl rfl rfl (quiet_of fun w M => shard_any _ _ w) ?_; clear S a; intro a S
  refine qt_y S rfl rfl rfl (fun w M => y_move S rfl) ?_; clear S a; intro a S
  refine qt_y S rfl rfl rfl (fun w M => y_extract S rfl rfl) ?_; clear S a; intro a S
  refine qt_y S rfl rfl rfl (fun w M => y_extract S rfl rfl) ?_; clear S a; intro a S
  refine qt_y S rfl rfl rfl (fun w M => y_assign S rfl) ?_; clear S a; intro a S
  refine qt_y S rfl rfl rfl (fun w M => y_assign S rfl) ?_; clear S a; intro a S
  refine wpQuiet_nil ?_; clear M; intro w3 M
  replace S := S.sub [(0, _), (1, _), (2, _), (5, _), (6, _), (7, _), (8, _), (9, _)] rfl
  refine then_normal ?_
  refine wp_seq ?_
  refine wp_seq ?_
  obtain ⟨er, her⟩ : ∃ er, shardE D.of x.block = er := ⟨_, rfl⟩
  obtain ⟨sv, hsv⟩ : ∃ sv, shardV D.of x.block = sv := ⟨_, rfl⟩
  have hbd := fun h => shard_bd (of := D.of) (n := x.block) h
  rw [her, hsv] at S hbd
  refine wp_region_lit ?_
  refine st_go [1, 1, 1] S rfl (by kernel_rfl) ?_; clear S a; intro a S
  refine st_if (t := 29) S rfl ?_ ?_
  · clear S; intro h29 S
    refine st_no S rfl rfl rfl ?_; clear S a; intro a S
    refine st_go [0, 0, 0, 0, 0, 0, 1] S rfl (by kernel_rfl) ?_; clear S a; intro a S
    refine nxC ?_
    refine st_condT S rfl ?_
    refine nxD ?_
    refine st_go [1] S rfl (by kernel_rfl) ?_; clear S a; intro a S
    refine nxC ?_
    refine wp_ret ?_
    refine then_ret ?_
    refine end_one S rfl (res_tmp rfl) ?_
    obtain ⟨E2, hE2, M2⟩ := Dsk.closeR (D := D) rl ro rm ra rs rc re (M.drop 0)
    have hno : ¬ execOk D o x := by
      rintro ⟨h1, h2⟩
      first
        | (rw [her] at h1; exact h29 h1)
        | (rw [hsv, Int.toNat_natCast] at h2; omega)
    rw [if_neg hno, decide_eq_false hno]
    exact ⟨rfl, E2, hE2, M2⟩
  clear S; intro h29 S
  obtain ⟨k, hk, hk1, hk4⟩ : ∃ k : Nat, sv = (k : Int) ∧ 1 ≤ k ∧ k ≤ 4 := ⟨sv.toNat, by have := hbd h29; omega, by have := hbd h29; omega, by have := hbd h29; omega⟩
  subst hk
  have hnk := hn k
  refine st_y S rfl rfl rfl (y_move S rfl) ?_; clear S a; intro a S
  refine st_go [1, 1, 8] S rfl (by kernel_rfl) ?_; clear S a; intro a S
  refine st_y S rfl rfl rfl (y_indexA (m := 5) (sz := 1) S (by kernel_rfl) rfl rfl (by first | omega | (simp; done) | (simp; omega))) ?_; clear S a; intro a S
  try simp only [Int.toNat_natCast, Nat.mul_one, Nat.zero_add] at S
  refine st_y S rfl rfl rfl (y_load S (by kernel_rfl) rfl ((by rw [Nat.add_assoc _ 7 k]; exact ((M.readAll 2 rfl (by unfold maxLen; omega)).at_.row (i := i) (fm_get len_ope ho) rfl (7 + k) (by show 7 + k < 37; omega)).trans (o.nAt_cell hk4)))) ?_; clear S a; intro a S
  refine st_go [1, 1] S rfl (by kernel_rfl) ?_; clear S a; intro a S
  refine nxC ?_
  refine st_if (t := 37) S rfl ?_ ?_
  · clear S; intro h37 S
    refine st_condT S rfl ?_
    refine nxD ?_
    refine st_go [1] S rfl (by kernel_rfl) ?_; clear S a; intro a S
    refine nxC ?_
    refine wp_ret ?_
    refine then_ret ?_
    refine end_one S rfl (res_tmp rfl) ?_
    obtain ⟨E2, hE2, M2⟩ := Dsk.closeR (D := D) rl ro rm ra rs rc re (M.drop 0)
    have hno : ¬ execOk D o x := by
      rintro ⟨h1, h2⟩
      first
        | (rw [her] at h1; exact h29 h1)
        | (rw [hsv, Int.toNat_natCast] at h2; omega)
    rw [if_neg hno, decide_eq_false hno]
    exact ⟨rfl, E2, hE2, M2⟩
  clear S; intro h37 S
  refine st_condF S rfl ?_
  refine wp_skip ?_
  refine then_normal ?_
  refine wp_seq ?_
  have hok : execOk D o x := ⟨by rw [her]; omega, by rw [hsv, Int.toNat_natCast]; omega⟩
  obtain ⟨o1, ho1⟩ : ∃ o1, o.nSet k (o.nAt k + 1) = o1 := ⟨_, rfl⟩
  have ho1s : o1.sh = o.sh := by rw [← ho1]; rfl
  have ho1n : o1.nm = o.nm := by rw [← ho1]; rfl
  have ho1k : o1.nAt k = o.nAt k + 1 := by rw [← ho1]; exact o.nAt_set _ hk4
  rw [show fm Ope.cellsL D.s.l = fm Ope.cellsL (D.s.l.set i o) by rw [set_self ho]] at M
  refine wp_regionK [10] #[false, false, false, false, false, false, false, false, false, false, false] rfl M (by kernel_rfl) ?_; clear M; intro w4 M
  refine k_pure (listed' := #[true, false, false, false, false, false, false, false, false, false, false]) 0 S rfl rfl rfl rfl (by kernel_rfl) rfl (fun _ d _ _ _ h => by cases d <;> exact h) (fun w => y_move S rfl) ?_; clear S a; intro a S
  refine k_pure (listed' := #[true, true, false, false, false, false, false, false, false, false, false]) 1 S rfl rfl rfl rfl (by kernel_rfl) rfl (fun _ d _ _ _ h => by cases d <;> exact h) (fun w => y_move S rfl) ?_; clear S a; intro a S
  refine k_pure (listed' := #[true, true, true, false, false, false, false, false, false, false, false]) 2 S rfl rfl rfl rfl (by kernel_rfl) rfl (fun _ d _ _ _ h => by cases d <;> exact h) (fun w => y_nilCheck S rfl) ?_; clear S a; intro a S
  refine k_pure (listed' := #[true, true, true, true, false, false, false, false, false, false, false]) 3 S rfl rfl rfl rfl (by kernel_rfl) rfl (fun _ d _ _ _ h => by cases d <;> exact h) (fun w => y_fieldAddr (k := 7) S (by kernel_rfl) rfl) ?_; clear S a; intro a S
  refine k_pure (listed' := #[true, true, true, true, true, false, false, false, false, false, false]) 4 S rfl rfl rfl rfl (by kernel_rfl) rfl (fun _ d _ _ _ h => by cases d <;> exact h) (fun w => y_indexA (m := 5) (sz := 1) S (by kernel_rfl) rfl rfl (by first | omega | (simp; done) | (simp; omega))) ?_; clear S a; intro a S
  try simp only [Int.toNat_natCast, Nat.mul_one, Nat.zero_add] at S
  refine k_read (listed' := #[true, true, true, true, true, true, false, false, false, false, false]) 5 S rfl rfl rfl rfl (by kernel_rfl) rfl (fun _ d _ _ _ h => by cases d <;> exact h) (fun w hW => have M := M.grow hW; y_load S (by kernel_rfl) rfl ((by rw [Nat.add_assoc _ 7 k]; exact (((M.readAll 2 rfl (by unfold maxLen; omega)).at_.row (i := i) (fm_get len_ope (hgs (o))) rfl) (7 + k) (by show 7 + k < 37; omega)).trans (o.nAt_cell hk4)))) ?_; clear S a; intro a S
  (first | refine k_pure (listed' := #[true, true, true, true, true, true, true, false, false, false, false]) 6 S rfl rfl rfl rfl (by kernel_rfl) rfl (fun _ d _ _ _ h => by cases d <;> exact h) (fun w => y_addN S rfl rfl (by omega)) ?_ | refine k_pure (listed' := #[true, true, true, true, true, true, true, false, false, false, false]) 6 S rfl rfl rfl rfl (by kernel_rfl) rfl (fun _ d _ _ _ h => by cases d <;> exact h) (fun w => y_int S rfl rfl rfl) ?_); clear S a; intro a S
  refine k_pure (listed' := #[true, true, true, true, true, true, true, true, false, false, false]) 7 S rfl rfl rfl rfl (by kernel_rfl) rfl (fun _ d _ _ _ h => by cases d <;> exact h) (fun w => y_nilCheck S rfl) ?_; clear S a; intro a S
  refine k_pure (listed' := #[true, true, true, true, true, true, true, true, true, false, false]) 8 S rfl rfl rfl rfl (by kernel_rfl) rfl (fun _ d _ _ _ h => by cases d <;> exact h) (fun w => y_fieldAddr (k := 7) S (by kernel_rfl) rfl) ?_; clear S a; intro a S
  refine k_pure (listed' := #[true, true, true, true, true, true, true, true, true, true, false]) 9 S rfl rfl rfl rfl (by kernel_rfl) rfl (fun _ d _ _ _ h => by cases d <;> exact h) (fun w => y_indexA (m := 5) (sz := 1) S (by kernel_rfl) rfl rfl (by first | omega | (simp; done) | (simp; omega))) ?_; clear S a; intro a S
  try simp only [Int.toNat_natCast, Nat.mul_one, Nat.zero_add] at S
  refine k_one (listed' := #[true, true, true, true, true, true, true, true, true, true, true]) 10 rfl (by kernel_rfl) rfl ?_
  refine st_storeRow (v := rl.v D.s.l.length) (sz := 37) (m := D.s.l.length) (j := i * 37 + (7 + k)) (us := [.int .i64 (o.nAt k + 1)]) S M 2 rfl (by kernel_rfl) rfl rfl (by first | rfl | omega | (simp only [Int.toNat_natCast]; omega)) rfl rfl rfl rfl rfl (by omega) (hfl o) (by rw [hfl]; show i * 37 + (7 + k) + 1 ≤ _; omega) ?_; clear M; intro wz lo9 hi9 M
  simp only [List.eraseIdx_cons_succ, List.eraseIdx_cons_zero] at M
  rw [fm_put (x' := o1) len_ope hil (by show (7 + k) + 1 ≤ 37; omega) (by rw [← ho1]; exact o.nSet_cell _ hk4)] at M
  refine wpList_nil ?_; refine then_normal ?_; refine ⟨fun h => absurd h (by decide), ?_⟩
  refine k_end (by kernel_rfl) ?_
  replace S := S.sub [(0, _), (1, _), (2, _), (5, _), (6, _), (7, _), (8, _), (9, _), (37, _)] rfl
  refine then_normal ?_
  refine wp_seq ?_
  refine wp_regionK [9] #[false, false, false, false, false, false, false, false, false, false] rfl M (by kernel_rfl) ?_; clear M; intro w5 M
  refine k_pure (listed' := #[true, false, false, false, false, false, false, false, false, false]) 0 S rfl rfl rfl rfl (by kernel_rfl) rfl (fun _ d _ _ _ h => by cases d <;> exact h) (fun w => y_move S rfl) ?_; clear S a; intro a S
  refine k_pure (listed' := #[true, true, false, false, false, false, false, false, false, false]) 1 S rfl rfl rfl rfl (by kernel_rfl) rfl (fun _ d _ _ _ h => by cases d <;> exact h) (fun w => y_nilCheck S rfl) ?_; clear S a; intro a S
  refine k_pure (listed' := #[true, true, true, false, false, false, false, false, false, false]) 2 S rfl rfl rfl rfl (by kernel_rfl) rfl (fun _ d _ _ _ h => by cases d <;> exact h) (fun w => y_fieldAddr (k := 6) S (by kernel_rfl) rfl) ?_; clear S a; intro a S
  refine k_read (listed' := #[true, true, true, true, false, false, false, false, false, false]) 3 S rfl rfl rfl rfl (by kernel_rfl) rfl (fun _ d _ _ _ h => by cases d <;> exact h) (fun w hW => have M := M.grow hW; y_load S (by kernel_rfl) rfl (((M.readAll 0 rfl (by unfold maxLen; omega)).at_.row (i := i) (fm_get len_ope (hgs (o1))) rfl) 6 (by show 6 < 37; omega))) ?_; clear S a; intro a S
  refine k_pure (listed' := #[true, true, true, true, true, false, false, false, false, false]) 4 S rfl rfl rfl rfl (by kernel_rfl) rfl (fun _ d _ _ _ h => by cases d <;> exact h) (fun w => y_move S rfl) ?_; clear S a; intro a S
  (first | refine k_pure (listed' := #[true, true, true, true, true, true, false, false, false, false]) 5 S rfl rfl rfl rfl (by kernel_rfl) rfl (fun _ d _ _ _ h => by cases d <;> exact h) (fun w => y_shlN S rfl rfl (by omega) (by first | exact shl_bd (by omega) | (rw [Int.toNat_natCast]; exact shl_bd (by omega)))) ?_ | refine k_pure (listed' := #[true, true, true, true, true, true, false, false, false, false]) 5 S rfl rfl rfl rfl (by kernel_rfl) rfl (fun _ d _ _ _ h => by cases d <;> exact h) (fun w => y_shl S rfl rfl (by omega)) ?_); clear S a; intro a S
  (first | refine k_pure (listed' := #[true, true, true, true, true, true, true, false, false, false]) 6 S rfl rfl rfl rfl (by kernel_rfl) rfl (fun _ d _ _ _ h => by cases d <;> exact h) (fun w => y_orN S rfl rfl (by omega) (by omega)) ?_ | refine k_pure (listed' := #[true, true, true, true, true, true, true, false, false, false]) 6 S rfl rfl rfl rfl (by kernel_rfl) rfl (fun _ d _ _ _ h => by cases d <;> exact h) (fun w => y_int S rfl rfl rfl) ?_); clear S a; intro a S
  refine k_pure (listed' := #[true, true, true, true, true, true, true, true, false, false]) 7 S rfl rfl rfl rfl (by kernel_rfl) rfl (fun _ d _ _ _ h => by cases d <;> exact h) (fun w => y_nilCheck S rfl) ?_; clear S a; intro a S
  refine k_pure (listed' := #[true, true, true, true, true, true, true, true, true, false]) 8 S rfl rfl rfl rfl (by kernel_rfl) rfl (fun _ d _ _ _ h => by cases d <;> exact h) (fun w => y_fieldAddr (k := 6) S (by kernel_rfl) rfl) ?_; clear S a; intro a S
  refine k_one (listed' := #[true, true, true, true, true, true, true, true, true, true]) 9 rfl (by kernel_rfl) rfl ?_
  refine st_storeRow (v := rl.v D.s.l.length) (sz := 37) (m := D.s.l.length) (j := i * 37 + 6) (us := [.int .i64 (orI o1.sh (1 * (2 : Int) ^ k))]) S M 0 rfl (by kernel_rfl) rfl rfl (by first | rfl | omega | (simp only [Int.toNat_natCast]; omega)) rfl rfl rfl rfl rfl (by omega) (hfl o1) (by rw [hfl]; show i * 37 + 6 + 1 ≤ _; omega) ?_; clear M; intro wz lo9 hi9 M
  simp only [List.eraseIdx_cons_succ, List.eraseIdx_cons_zero] at M
  rw [fm_put (x' := { o1 with sh := orI o1.sh (1 * (2 : Int) ^ k) }) len_ope hil (by show 6 + 1 ≤ 37; omega) (rfl)] at M
  refine wpList_nil ?_; refine then_normal ?_; refine ⟨fun h => absurd h (by decide), ?_⟩
  refine k_end (by kernel_rfl) ?_
  refine nxE ?_
  refine st_go [1, 1, 1, 1, 6] S rfl (by kernel_rfl) ?_; clear S a; intro a S
  refine st_storeRow (v := rl.v D.s.l.length) (sz := 37) (m := D.s.l.length) (j := i * 37 + 5) (us := [.int .i8 1]) S M 0 rfl (by kernel_rfl) rfl rfl (by first | rfl | omega | (simp only [Int.toNat_natCast]; omega)) rfl rfl rfl rfl rfl (by omega) (hfl { o1 with sh := orI o1.sh (1 * (2 : Int) ^ k) }) (by rw [hfl]; show i * 37 + 5 + 1 ≤ _; omega) ?_; clear M; intro wz lo9 hi9 M
  simp only [List.eraseIdx_cons_succ, List.eraseIdx_cons_zero] at M
  rw [fm_put (x' := { o1 with sh := orI o1.sh (1 * (2 : Int) ^ k), ph := 1 }) len_ope hil (by show 5 + 1 ≤ 37; omega) (rfl)] at M
  refine st_go [1, 13] S rfl (by kernel_rfl) ?_; clear S a; intro a S
  refine st_storeRow (v := rl.v D.s.l.length) (sz := 37) (m := D.s.l.length) (j := i * 37 + 12) (us := [.int .i64 (k : Int)]) S M 0 rfl (by kernel_rfl) rfl rfl (by first | rfl | omega | (simp only [Int.toNat_natCast]; omega)) rfl rfl rfl rfl rfl (by omega) (hfl { o1 with sh := orI o1.sh (1 * (2 : Int) ^ k), ph := 1 }) (by rw [hfl]; show i * 37 + 12 + 1 ≤ _; omega) ?_; clear M; intro wz lo9 hi9 M
  simp only [List.eraseIdx_cons_succ, List.eraseIdx_cons_zero] at M
  rw [fm_put (x' := { o1 with sh := orI o1.sh (1 * (2 : Int) ^ k), ph := 1, at_ := (k : Int) }) len_ope hil (by show 12 + 1 ≤ 37; omega) (rfl)] at M
  replace S := S.sub [(0, _), (1, _), (2, _), (5, _), (6, _), (7, _), (8, _), (9, _), (37, _)] rfl
  refine nxC ?_
  refine wp_seq ?_
  obtain ⟨o4, ho4⟩ : ∃ o4, ({ o1 with sh := orI o1.sh (1 * (2 : Int) ^ k), ph := 1, at_ := (k : Int) } : Ope) = o4 := ⟨_, rfl⟩
  rw [ho4] at M
  have ho4n : o4.nm = o.nm := by rw [← ho4]; exact ho1n
  have ho4k : o4.nAt k = o.nAt k + 1 := by rw [← ho1k, ← ho4]; rfl
  refine wp_regionK [21] #[false, false, false, false, false, false, false, false, false, false, false, false, false, false, false, false, false, false, false, false, false, false] rfl M (by kernel_rfl) ?_; clear M; intro w6 M
  refine k_pure (listed' := #[true, false, false, false, false, false, false, false, false, false, false, false, false, false, false, false, false, false, false, false, false, false]) 0 S rfl rfl rfl rfl (by kernel_rfl) rfl (fun _ d _ _ _ h => by cases d <;> exact h) (fun w => y_move S rfl) ?_; clear S a; intro a S
  refine k_pure (listed' := #[true, true, false, false, false, false, false, false, false, false, false, false, false, false, false, false, false, false, false, false, false, false]) 1 S rfl rfl rfl rfl (by kernel_rfl) rfl (fun _ d _ _ _ h => by cases d <;> exact h) (fun w => y_move S rfl) ?_; clear S a; intro a S
  refine k_pure (listed' := #[true, true, true, false, false, false, false, false, false, false, false, false, false, false, false, false, false, false, false, false, false, false]) 2 S rfl rfl rfl rfl (by kernel_rfl) rfl (fun _ d _ _ _ h => by cases d <;> exact h) (fun w => y_move S rfl) ?_; clear S a; intro a S
  refine k_pure (listed' := #[true, true, true, true, false, false, false, false, false, false, false, false, false, false, false, false, false, false, false, false, false, false]) 3 S rfl rfl rfl rfl (by kernel_rfl) rfl (fun _ d _ _ _ h => by cases d <;> exact h) (fun w => y_nilCheck S rfl) ?_; clear S a; intro a S
  refine k_pure (listed' := #[true, true, true, true, true, false, false, false, false, false, false, false, false, false, false, false, false, false, false, false, false, false]) 4 S rfl rfl rfl rfl (by kernel_rfl) rfl (fun _ d _ _ _ h => by cases d <;> exact h) (fun w => y_fieldAddr (k := 2) S (by kernel_rfl) rfl) ?_; clear S a; intro a S
  refine k_read (listed' := #[true, true, true, true, true, true, false, false, false, false, false, false, false, false, false, false, false, false, false, false, false, false]) 5 S rfl rfl rfl rfl (by kernel_rfl) rfl (fun _ d _ _ _ h => by cases d <;> exact h) (fun w hW => have M := M.grow hW; y_loadAgg S (by kernel_rfl) rfl rfl (show CellsAt _ _ _ (nmL o.nm) from (by rw [← ho4n, ← ope_nm o4]; exact ((M.readAll 0 rfl (by unfold maxLen; omega)).at_.row (i := i) (fm_get len_ope (hgs (o4))) rfl).sub (i := 2) (k := 3)))) ?_; clear S a; intro a S
  refine k_pure (listed' := #[true, true, true, true, true, true, true, false, false, false, false, false, false, false, false, false, false, false, false, false, false, false]) 6 S rfl rfl rfl rfl (by kernel_rfl) rfl (fun _ d _ _ _ h => by cases d <;> exact h) (fun w => y_move S rfl) ?_; clear S a; intro a S
  refine k_pure (listed' := #[true, true, true, true, true, true, true, true, false, false, false, false, false, false, false, false, false, false, false, false, false, false]) 7 S rfl rfl rfl rfl (by kernel_rfl) rfl (fun _ d _ _ _ h => by cases d <;> exact h) (fun w => y_move S rfl) ?_; clear S a; intro a S
  refine k_pure (listed' := #[true, true, true, true, true, true, true, true, true, false, false, false, false, false, false, false, false, false, false, false, false, false]) 8 S rfl rfl rfl rfl (by kernel_rfl) rfl (fun _ d _ _ _ h => by cases d <;> exact h) (fun w => y_nilCheck S rfl) ?_; clear S a; intro a S
  refine k_pure (listed' := #[true, true, true, true, true, true, true, true, true, true, false, false, false, false, false, false, false, false, false, false, false, false]) 9 S rfl rfl rfl rfl (by kernel_rfl) rfl (fun _ d _ _ _ h => by cases d <;> exact h) (fun w => y_fieldAddr (k := 7) S (by kernel_rfl) rfl) ?_; clear S a; intro a S
  refine k_pure (listed' := #[true, true, true, true, true, true, true, true, true, true, true, false, false, false, false, false, false, false, false, false, false, false]) 10 S rfl rfl rfl rfl (by kernel_rfl) rfl (fun _ d _ _ _ h => by cases d <;> exact h) (fun w => y_indexA (m := 5) (sz := 1) S (by kernel_rfl) rfl rfl (by first | omega | (simp; done) | (simp; omega))) ?_; clear S a; intro a S
  try simp only [Int.toNat_natCast, Nat.mul_one, Nat.zero_add] at S
  refine k_read (listed' := #[true, true, true, true, true, true, true, true, true, true, true, true, false, false, false, false, false, false, false, false, false, false]) 11 S rfl rfl rfl rfl (by kernel_rfl) rfl (fun _ d _ _ _ h => by cases d <;> exact h) (fun w hW => have M := M.grow hW; y_load S (by kernel_rfl) rfl ((by rw [Nat.add_assoc _ 7 k]; exact (((M.readAll 0 rfl (by unfold maxLen; omega)).at_.row (i := i) (fm_get len_ope (hgs (o4))) rfl) (7 + k) (by show 7 + k < 37; omega)).trans (by rw [o4.nAt_cell hk4, ho4k])))) ?_; clear S a; intro a S
  refine k_pure (listed' := #[true, true, true, true, true, true, true, true, true, true, true, true, true, false, false, false, false, false, false, false, false, false]) 12 S rfl rfl rfl rfl (by kernel_rfl) rfl (fun _ d _ _ _ h => by cases d <;> exact h) (fun w => y_fieldAddr (k := 9) S (by kernel_rfl) rfl) ?_; clear S a; intro a S
  refine k_read (listed' := #[true, true, true, true, true, true, true, true, true, true, true, true, true, true, false, false, false, false, false, false, false, false]) 13 S rfl rfl rfl rfl (by kernel_rfl) rfl (fun _ d _ _ _ h => by cases d <;> exact h) (fun w hW => have M := M.grow hW; y_load S (by kernel_rfl) rfl (M.cell 1 rfl rfl)) ?_; clear S a; intro a S
  refine k_pure (listed' := #[true, true, true, true, true, true, true, true, true, true, true, true, true, true, true, false, false, false, false, false, false, false]) 14 S rfl rfl rfl rfl (by kernel_rfl) rfl (fun _ d _ _ _ h => by cases d <;> exact h) (fun w => y_fieldAddr (k := 10) S (by kernel_rfl) rfl) ?_; clear S a; intro a S
  refine k_read (listed' := #[true, true, true, true, true, true, true, true, true, true, true, true, true, true, true, true, false, false, false, false, false, false]) 15 S rfl rfl rfl rfl (by kernel_rfl) rfl (fun _ d _ _ _ h => by cases d <;> exact h) (fun w hW => have M := M.grow hW; y_load S (by kernel_rfl) rfl (M.cell 1 rfl rfl)) ?_; clear S a; intro a S
  refine k_pure (listed' := #[true, true, true, true, true, true, true, true, true, true, true, true, true, true, true, true, true, false, false, false, false, false]) 16 S rfl rfl rfl rfl (by kernel_rfl) rfl (fun _ d _ _ _ h => by cases d <;> exact h) (fun w => y_fieldAddr (k := 11) S (by kernel_rfl) rfl) ?_; clear S a; intro a S
  refine k_read (listed' := #[true, true, true, true, true, true, true, true, true, true, true, true, true, true, true, true, true, true, false, false, false, false]) 17 S rfl rfl rfl rfl (by kernel_rfl) rfl (fun _ d _ _ _ h => by cases d <;> exact h) (fun w hW => have M := M.grow hW; y_loadAgg (cs := [_, _, _, _, _, _, _, _]) S (by kernel_rfl) rfl rfl (M.cellsAt (k := 8) 1 rfl rfl)) ?_; clear S a; intro a S
  refine k_pure (listed' := #[true, true, true, true, true, true, true, true, true, true, true, true, true, true, true, true, true, true, true, false, false, false]) 18 S rfl rfl rfl rfl (by kernel_rfl) rfl (fun _ d _ _ _ h => by cases d <;> exact h) (fun w => y_build (ps := [(0, (Operand.const (Value.int IntKind.i8 2))), (2, (Operand.tmp 65)), (5, (Operand.tmp 69)), (6, (Operand.tmp 75)), (7, (Operand.tmp 77)), (8, (Operand.tmp 79)), (9, (Operand.tmp 81))]) (pl := [(0, 1), (1, 1), (2, 1), (3, 1), (4, 1), (5, 3), (8, 1), (9, 1), (10, 1), (11, 8), (19, 1), (20, 1), (21, 1), (22, 1), (23, 1)]) (z := [.int .i8 0, .int .i64 0, .int .i64 0, .int .i64 0, .int .i64 0, .int .i64 0, .int .i64 0, .int .i64 0, .int .i64 0, .int .i8 0, .int .i64 0, .int .u8 0, .int .u8 0, .int .u8 0, .int .u8 0, .int .u8 0, .int .u8 0, .int .u8 0, .int .u8 0, .int .i64 0, .bool false, .int .i64 0, .int .i64 0, .slice none 0 0]) (cs := msgL (o.ex1 k x)) S (by kernel_rfl) rfl (by kernel_rfl)) ?_; clear S a; intro a S
  refine k_pure (listed' := #[true, true, true, true, true, true, true, true, true, true, true, true, true, true, true, true, true, true, true, true, false, false]) 19 S rfl rfl rfl rfl (by kernel_rfl) rfl (fun _ d _ _ _ h => by cases d <;> exact h) (fun w => y_nilCheck S rfl) ?_; clear S a; intro a S
  refine k_pure (listed' := #[true, true, true, true, true, true, true, true, true, true, true, true, true, true, true, true, true, true, true, true, true, false]) 20 S rfl rfl rfl rfl (by kernel_rfl) rfl (fun _ d _ _ _ h => by cases d <;> exact h) (fun w => y_fieldAddr (k := 13) S (by kernel_rfl) rfl) ?_; clear S a; intro a S
  refine k_one (listed' := #[true, true, true, true, true, true, true, true, true, true, true, true, true, true, true, true, true, true, true, true, true, true]) 21 rfl (by kernel_rfl) rfl ?_
  refine st_storeRow (v := rl.v D.s.l.length) (sz := 37) (m := D.s.l.length) (j := i * 37 + 13) (us := (msgL (o.ex1 k x))) S M 0 rfl (by kernel_rfl) rfl rfl (by first | rfl | omega | (simp only [Int.toNat_natCast]; omega)) rfl rfl rfl rfl rfl (by omega) (hfl o4) (by rw [hfl]; show i * 37 + 13 + 24 ≤ _; omega) ?_; clear M; intro wz lo9 hi9 M
  simp only [List.eraseIdx_cons_succ, List.eraseIdx_cons_zero] at M
  rw [fm_put (x' := { o4 with ex := o.ex1 k x }) len_ope hil (by show 13 + 24 ≤ 37; omega) (ope_putEx o4 _)] at M
  refine wpList_nil ?_; refine then_normal ?_; refine ⟨fun h => absurd h (by decide), ?_⟩
  refine k_end (by kernel_rfl) ?_
  replace S := S.sub [(0, _), (1, _), (2, _), (5, _), (6, _), (7, _), (8, _), (9, _), (37, _)] rfl
  refine then_normal ?_
  refine wp_seq ?_
  obtain ⟨o5, ho5⟩ : ∃ o5, ({ o4 with ex := o.ex1 k x } : Ope) = o5 := ⟨_, rfl⟩
  rw [ho5] at M
  have ho5x : o5.ex = o.ex1 k x := by rw [← ho5]
  have ho5e : o5 = o.execd k x := by rw [← ho5, ← ho4, ← ho1]; rfl
  refine wp_regionK [11, 15] #[false, false, false, false, false, false, false, false, false, false, false, false, false, false, false, false] rfl M (by kernel_rfl) ?_; clear M; intro w7 M
  refine k_pure (listed' := #[true, false, false, false, false, false, false, false, false, false, false, false, false, false, false, false]) 0 S rfl rfl rfl rfl (by kernel_rfl) rfl (fun _ d _ _ _ h => by cases d <;> exact h) (fun w => y_move S rfl) ?_; clear S a; intro a S
  refine k_pure (listed' := #[true, true, false, false, false, false, false, false, false, false, false, false, false, false, false, false]) 1 S rfl rfl rfl rfl (by kernel_rfl) rfl (fun _ d _ _ _ h => by cases d <;> exact h) (fun w => y_move S rfl) ?_; clear S a; intro a S
  refine k_pure (listed' := #[true, true, true, false, false, false, false, false, false, false, false, false, false, false, false, false]) 2 S rfl rfl rfl rfl (by kernel_rfl) rfl (fun _ d _ _ _ h => by cases d <;> exact h) (fun w => y_nilCheck S rfl) ?_; clear S a; intro a S
  refine k_pure (listed' := #[true, true, true, true, false, false, false, false, false, false, false, false, false, false, false, false]) 3 S rfl rfl rfl rfl (by kernel_rfl) rfl (fun _ d _ _ _ h => by cases d <;> exact h) (fun w => y_fieldAddr (k := 4) S (by kernel_rfl) rfl) ?_; clear S a; intro a S
  refine k_pure (listed' := #[true, true, true, true, true, false, false, false, false, false, false, false, false, false, false, false]) 4 S rfl rfl rfl rfl (by kernel_rfl) rfl (fun _ d _ _ _ h => by cases d <;> exact h) (fun w => y_fieldAddr (k := 0) S (by kernel_rfl) rfl) ?_; clear S a; intro a S
  refine k_read (listed' := #[true, true, true, true, true, true, false, false, false, false, false, false, false, false, false, false]) 5 S rfl rfl rfl rfl (by kernel_rfl) rfl (fun _ d _ _ _ h => by cases d <;> exact h) (fun w hW => have M := M.grow hW; y_load S (by kernel_rfl) rfl (M.cell 2 rfl rfl)) ?_; clear S a; intro a S
  refine k_pure (listed' := #[true, true, true, true, true, true, true, false, false, false, false, false, false, false, false, false]) 6 S rfl rfl rfl rfl (by kernel_rfl) rfl (fun _ d _ _ _ h => by cases d <;> exact h) (fun w => y_move S rfl) ?_; clear S a; intro a S
  refine k_pure (listed' := #[true, true, true, true, true, true, true, true, false, false, false, false, false, false, false, false]) 7 S rfl rfl rfl rfl (by kernel_rfl) rfl (fun _ d _ _ _ h => by cases d <;> exact h) (fun w => y_nilCheck S rfl) ?_; clear S a; intro a S
  refine k_pure (listed' := #[true, true, true, true, true, true, true, true, true, false, false, false, false, false, false, false]) 8 S rfl rfl rfl rfl (by kernel_rfl) rfl (fun _ d _ _ _ h => by cases d <;> exact h) (fun w => y_fieldAddr (k := 13) S (by kernel_rfl) rfl) ?_; clear S a; intro a S
  refine k_read (listed' := #[true, true, true, true, true, true, true, true, true, true, false, false, false, false, false, false]) 9 S rfl rfl rfl rfl (by kernel_rfl) rfl (fun _ d _ _ _ h => by cases d <;> exact h) (fun w hW => have M := M.grow hW; y_loadAgg S (by kernel_rfl) rfl rfl (show CellsAt _ _ _ (msgL (o.ex1 k x)) from (by rw [← ho5x, ← ope_ex o5]; exact ((M.readAll 0 rfl (by unfold maxLen; omega)).at_.row (i := i) (fm_get len_ope (hgs (o5))) rfl).sub (i := 13) (k := 24)))) ?_; clear S a; intro a S
  refine k_one (listed' := #[true, true, true, true, true, true, true, true, true, true, true, false, false, false, false, false]) 10 rfl (by kernel_rfl) rfl ?_
  refine st_lit (ps := [(0, (Operand.tmp 94))]) (e := 45) (sz := 24) (zl := [.int .i8 0, .int .i64 0, .int .i64 0, .int .i64 0, .int .i64 0, .int .i64 0, .int .i64 0, .int .i64 0, .int .i64 0, .int .i8 0, .int .i64 0, .int .u8 0, .int .u8 0, .int .u8 0, .int .u8 0, .int .u8 0, .int .u8 0, .int .u8 0, .int .u8 0, .int .i64 0, .bool false, .int .i64 0, .int .i64 0, .slice none 0 0]) (cs := msgL (o.ex1 k x)) S M rfl rfl (by kernel_rfl) rfl (by kernel_rfl) ?_; clear S M a; intro a w8 bZ2 S M hB
  refine wpList_nil ?_; refine then_normal ?_; refine ⟨fun _ => hB, ?_⟩
  refine k_one (listed' := #[true, true, true, true, true, true, true, true, true, true, true, true, false, false, false, false]) 11 rfl (by kernel_rfl) rfl ?_
  refine st_append (e := 45) (sz := 24) (by_ := 152) (zc := [.int .i8 0, .int .i64 0, .int .i64 0, .int .i64 0, .int .i64 0, .int .i64 0, .int .i64 0, .int .i64 0, .int .i64 0, .int .i8 0, .int .i64 0, .int .u8 0, .int .u8 0, .int .u8 0, .int .u8 0, .int .u8 0, .int .u8 0, .int .u8 0, .int .u8 0, .int .i64 0, .bool false, .int .i64 0, .int .i64 0, .slice none 0 0]) S M 5 rfl rfl (by kernel_rfl) rfl (by decide) rfl rfl rfl (show Rd _ _ _ 24 _ 1 (msgL (o.ex1 k x)) from M.sliceAt 0 rfl (M.cellsAt (k := 24) 0 rfl rfl) rfl (Nat.le_refl _) (by unfold maxLen; omega)) (rfl) (by omega) (by unfold maxLen; omega) ?_; clear S M a; intro a w9 vA loA hiA S M
  refine wpList_nil ?_; refine then_normal ?_; refine ⟨fun h => absurd h (by decide), ?_⟩
  refine k_pure (listed' := #[true, true, true, true, true, true, true, true, true, true, true, true, true, false, false, false]) 12 S rfl rfl rfl rfl (by kernel_rfl) rfl (fun _ d _ _ _ h => by cases d <;> exact h) (fun w => y_nilCheck S rfl) ?_; clear S a; intro a S
  refine k_pure (listed' := #[true, true, true, true, true, true, true, true, true, true, true, true, true, true, false, false]) 13 S rfl rfl rfl rfl (by kernel_rfl) rfl (fun _ d _ _ _ h => by cases d <;> exact h) (fun w => y_fieldAddr (k := 4) S (by kernel_rfl) rfl) ?_; clear S a; intro a S
  refine k_pure (listed' := #[true, true, true, true, true, true, true, true, true, true, true, true, true, true, true, false]) 14 S rfl rfl rfl rfl (by kernel_rfl) rfl (fun _ d _ _ _ h => by cases d <;> exact h) (fun w => y_fieldAddr (k := 0) S (by kernel_rfl) rfl) ?_; clear S a; intro a S
  refine k_one (listed' := #[true, true, true, true, true, true, true, true, true, true, true, true, true, true, true, true]) 15 rfl (by kernel_rfl) rfl ?_
  obtain ⟨aM, cM, rfl, -, -⟩ := (M.readAll 0 rfl (by unfold maxLen; omega)).form
  refine st_store (sz := 1) (us := [_]) S M 4 rfl (by kernel_rfl) rfl rfl rfl rfl rfl rfl (by first | decide | (simp; done) | (simp; omega)) ?_; clear M; intro w10 M
  simp only [putL, List.set_cons_zero, List.set_cons_succ, Nat.reduceAdd] at M
  refine wpList_nil ?_; refine then_normal ?_; refine ⟨fun h => absurd h (by decide), ?_⟩
  refine k_end (by kernel_rfl) ?_
  replace S := S.sub [(0, _), (1, _), (2, _), (5, _), (6, _), (7, _), (8, _), (9, _), (37, _)] rfl
  refine nxE ?_
  refine st_go [1] S rfl (by kernel_rfl) ?_; clear S a; intro a S
  refine nxC ?_
  refine wp_ret ?_
  refine end_one S rfl (res_tmp rfl) ?_
  skip
  replace M := M.drop 1
  simp only [List.eraseIdx_cons_succ, List.eraseIdx_cons_zero] at M
  replace M := M.drop 2
  simp only [List.eraseIdx_cons_succ, List.eraseIdx_cons_zero] at M
  replace M := M.front 3 rfl
  simp only [List.eraseIdx_cons_succ, List.eraseIdx_cons_zero] at M
  replace M := M.front 2 rfl
  simp only [List.eraseIdx_cons_succ, List.eraseIdx_cons_zero] at M
  replace M := M.front 3 rfl
  simp only [List.eraseIdx_cons_succ, List.eraseIdx_cons_zero] at M
  rw [if_pos hok, decide_eq_true hok]
  subst ho5e
  have hDe : D.execd i o x = (D.setO i (o.execd k x)).mail (o.ex1 k x) := by unfold Dsk.execd; rw [hsv, Int.toNat_natCast]
  rw [hDe]
  have q1 : ((D.setO i (o.execd k x)).mail (o.ex1 k x)).s.l.length = D.s.l.length := List.length_set
  have q2 : ((D.setO i (o.execd k x)).mail (o.ex1 k x)).t.mail.length = D.t.mail.length + 1 := by simp
  have q3 : fm msgL ((D.setO i (o.execd k x)).mail (o.ex1 k x)).t.mail = fm msgL D.t.mail ++ msgL (o.ex1 k x) := fm_snoc _ _ _
  obtain ⟨E2, hE2, M2⟩ := Dsk.closeGR ((D.setO i (o.execd k x)).mail (o.ex1 k x)) ⟨rl.a, rl.c, lo9, hi9⟩ ro ⟨aM, cM, loA, hiA⟩ ra rs rc re M (by unfold dskL; rw [q1, q2]) (by unfold Rw.ent Rw.v; rw [q1]) rfl (by unfold Rw.ent Rw.v; rw [q2, q3]) rfl rfl rfl rfl
  exact ⟨rfl, E2, hE2, M2⟩
theorem exec_any {wc w : World} {A E : List Ent} {b : Nat} {D : Dsk} (i : Nat) (o : Ope) (x : Msg) (hE : DeskE b D E) (M : Mem wc w (A ++ E)) (hs : D.tiny) (ho : D.s.l[i]? = some o) (hn : ∀ k, 0 ≤ o.nAt k ∧ o.nAt k ≤ 1048576) :
    Calls Try.prog 47 #[.pointer (some ⟨b, 0, none⟩), .int .i64 (i : Int), .agg (msgL x).toArray] w fun e w' => e = .returned (.bool (decide (execOk D o x))) ∧ ∃ E', DeskE b (if execOk D o x then D.execd i o x else D) E' ∧ Mem wc w' (A ++ E') := by
  obtain ⟨pa, pc, hR⟩ := hE.ref
  refine Calls.mono (exec_anyR i o x hR M hs ho hn) fun e w' h => ?_
  obtain ⟨h1, E', h2, h3⟩ := h
  exact ⟨h1, E', h2.desk, h3⟩
end Go.Proofs.Ytniijiipkfhjgaa

