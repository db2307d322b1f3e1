/-
  law10: wakes.
-/
import Derived.Test.YtodfphphidhjbaaRz
namespace Go.Proofs.Ytodfphphidhjbaa
open Go.RowKit Go.Sort

def w10 : List Wr := [⟨3, ⟨7, 0, 0, 0, 0, 0, 0, 0⟩⟩]
def r10a : Rc := ⟨2, nm10 1, false, 0, 0, 0, 0, 0, 0⟩
def r10b : Rc := ⟨2, nm10 2, false, 0, 0, 0, 0, 0, 0⟩
def r10c : Rc := ⟨3, nm10 1, true, 0, 0, 0, 0, 0, 0⟩
def p10a : Pl := [(⟨nm10 1, 0, 0⟩, w10)]
def p10b : Pl := [(⟨nm10 1, 0, 0⟩, w10), (⟨nm10 2, 0, 0⟩, [])]
def p10c : Pl := [(⟨nm10 2, 0, 0⟩, [])]
def s10a : St := appSt zSt [] r10a w10
def s10b : St := appSt s10a p10a r10b []
def s10c : St := appSt s10b p10b r10c []
theorem s10a_ok : s10a.ok := appSt_ok zSt_ok _ _ _
theorem s10b_ok : s10b.ok := appSt_ok s10a_ok _ _ _
theorem s10c_ok : s10c.ok := appSt_ok s10b_ok _ _ _
theorem t10a : takes r10a w10 = true := by decide +kernel
theorem t10b : takes r10b [] = true := by decide +kernel
theorem t10c : takes r10c [] = true := by decide +kernel
theorem e10a : (stepP [] r10a w10).1 = p10a := rfl
theorem e10b : (stepP p10a r10b []).1 = p10b := rfl
theorem e10c : (stepP p10b r10c []).1 = p10c := rfl
/-- a store in slot t, its doubt in memory of one's own -/
def StAt (n t : Nat) (L : List (Nat × Value)) (s : St) (ps : Pl) (w : World) (a : Act) (w' : World) : Prop := ∃ b da dc lo hi cs es, Sees n a ((t, .pointer (some ⟨b, 0, none⟩)) :: L) ∧
  Mem w w' (.blk b (s.cellsL (.slice da ps.length dc)).toArray 34 :: rowE lo hi 52 6 (.slice da ps.length dc) ps.length cs :: es) ∧ PrBk cs ps es
theorem s10_cell (da : Option Addr) (m dc : Nat) : (s10c.cellsL (.slice da m dc)).toArray[39]? = some (.int .u8 7) := by kernel_rfl
set_option maxHeartbeats 1000000 in
set_option maxRecDepth 10000 in
theorem wakes10_any (w : World) : Calls Try.prog 4 #[] w fun e w' => e = .returned (.bool true) ∧ Below w.heap.size w w' := by
  have M := Mem.start w
  refine calls_enter Try.func4 rfl 66 rfl rfl ?_; intro a S
  refine nxD ?_
  refine st_go [1] S rfl (by kernel_rfl) ?_; clear S a; intro a S
  refine nxA ?_
  refine st_alloc S M rfl rfl (zSt.cellsL (.slice none 0 0)).toArray (by kernel_rfl) ?_; clear S M a; intro a w1 bF S M hB
  refine nxA ?_
  refine st_y S rfl rfl rfl (y_buildA (ps := [(0, (Operand.const (Value.int IntKind.u8 7)))]) (sz := 1) (z := [.int .u8 0, .int .u8 0, .int .u8 0, .int .u8 0, .int .u8 0, .int .u8 0, .int .u8 0, .int .u8 0]) (cs := [_, _, _, _, _, _, _, _]) S (by kernel_rfl) rfl rfl) ?_; clear S a; intro a S
  refine st_y S rfl rfl rfl (y_build (ps := [(0, (Operand.const (Value.int IntKind.i64 3))), (1, (Operand.tmp 9))]) (pl := [(0, 1), (1, 8)]) (z := [.int .i64 0, .int .u8 0, .int .u8 0, .int .u8 0, .int .u8 0, .int .u8 0, .int .u8 0, .int .u8 0, .int .u8 0]) (cs := [_, _, _, _, _, _, _, _, _]) S (by kernel_rfl) rfl (rfl)) ?_; clear S a; intro a S
  refine st_lit (ps := [(0, (Operand.tmp 10))]) (e := 49) (sz := 9) (zl := [.int .i64 0, .int .u8 0, .int .u8 0, .int .u8 0, .int .u8 0, .int .u8 0, .int .u8 0, .int .u8 0, .int .u8 0]) (cs := [_, _, _, _, _, _, _, _, _]) S M rfl rfl (by kernel_rfl) rfl (rfl) ?_; clear S M a; intro a w2 bZ S M hB
  refine st_go [1] S rfl (by kernel_rfl) ?_; clear S a; intro a S
  refine nxC ?_
  refine wp_cut (StAt 66 3 [(4, .int .i64 0)] s10a p10a w) ?_ ?_
  · skip
    refine wp_regionK [9] #[false, false, false, false, false, false, false, false, false, false, false] rfl M (by kernel_rfl) ?_; clear M; intro w3 M
    refine k_read (listed' := #[true, false, false, false, false, false, false, false, false, false, false]) 0 S rfl rfl rfl rfl (by kernel_rfl) rfl (fun _ d _ _ _ h => by cases d <;> exact h) (fun w hW => have M := M.grow hW; y_loadAgg (k := 273) (cs := _) S (by kernel_rfl) rfl (by with_reducible first | exact St.len zSt_ok _ | exact St.len s10a_ok _ | exact St.len s10b_ok _ | exact St.len s10c_ok _) (M.cellsAt 1 rfl cutL_all)) ?_; clear S a; intro a S
    refine k_pure (listed' := #[true, false, true, false, false, false, false, false, false, false, false]) 2 S rfl rfl rfl rfl (by kernel_rfl) rfl (fun _ d _ _ _ h => by cases d <;> exact h) (fun w => y_move S rfl) ?_; clear S a; intro a S
    refine k_two (l1 := #[true, true, true, false, false, false, false, false, false, false, false]) (l2 := #[true, false, true, false, false, false, false, false, true, false, false]) 1 8 rfl rfl (by kernel_rfl) rfl rfl ?_ ?_
    · skip
      refine st_call (xs := [(Operand.const (Value.int IntKind.i64 1))]) S (enters_of Try.func7 (by decide) rfl) rfl rfl rfl (name_any _ _) ?_
      rintro _ w4 ⟨rfl, hK⟩; refine ⟨_, rfl, ?_⟩; clear S a; intro a S; replace M := M.grow hK
      refine wpList_nil ?_; refine then_normal ?_; refine ⟨fun _ => hK, ?_⟩
      refine k_pure (listed' := #[true, true, true, true, false, false, false, false, false, false, false]) 3 S rfl rfl rfl rfl (by kernel_rfl) rfl (fun _ d _ _ _ h => by cases d <;> exact h) (fun w => y_build (ps := [(0, (Operand.const (Value.int IntKind.i8 2))), (1, (Operand.tmp 14)), (3, (Operand.tmp 15))]) (pl := [(0, 1), (1, 3), (4, 1), (5, 1), (6, 1), (7, 1), (8, 1), (9, 2), (11, 1)]) (z := [.int .i8 0, .int .i64 0, .int .i64 0, .int .i64 0, .bool false, .slice none 0 0, .int .i64 0, .int .i64 0, .int .i64 0, .int .i64 0, .int .i64 0, .int .i64 0]) (cs := [_, _, _, _, _, _, _, _, _, _, _, _]) S (by kernel_rfl) rfl (rfl)) ?_; clear S a; intro a S
      refine k_two (l1 := #[true, true, true, true, true, false, false, false, false, false, false]) (l2 := #[true, true, true, true, false, false, false, false, true, false, false]) 4 8 rfl rfl (by kernel_rfl) rfl rfl ?_ ?_
      · skip
        refine st_call (xs := [(Operand.tmp 13), (Operand.tmp 16)]) S (enters_of Try.func6 (by decide) rfl) rfl rfl rfl (apply_ok zSt zSt_ok none 0 [] [] p10a _ (PrsC.nil _ _ _) (by decide) (by simp) r10a _ 1 w10 (M.sliceAt 0 rfl (M.cellsAt (k := 9) 0 rfl rfl) rfl (Nat.le_refl _) (by decide)) (by decide) (by decide) t10a e10a) ?_
        rintro _ w5 ⟨da2, dc2, lo2, hi2, cs2, es2, rfl, M2, hBk2⟩; refine ⟨_, rfl, ?_⟩; clear S a; intro a S; have hK := M2.below
        rw [show appSt zSt [] r10a w10 = s10a from rfl] at S
        first
          | replace M := M.joinD3 M2
          | replace M := M.joinD2 M2
          | replace M := M.joinD1 M2
        refine wpList_nil ?_; refine then_normal ?_; refine ⟨fun _ => hK, ?_⟩
        refine k_pure (listed' := #[true, true, true, true, true, true, false, false, false, false, false]) 5 S rfl rfl rfl rfl (by kernel_rfl) rfl (fun _ d _ _ _ h => by cases d <;> exact h) (fun w => y_move S rfl) ?_; clear S a; intro a S
        refine k_pure (listed' := #[true, true, true, true, true, true, true, false, false, false, false]) 6 S rfl rfl rfl rfl (by kernel_rfl) rfl (fun _ d _ _ _ h => by cases d <;> exact h) (fun w => y_extract S rfl rfl) ?_; clear S a; intro a S
        refine k_pure (listed' := #[true, true, true, true, true, true, true, true, false, false, false]) 7 S rfl rfl rfl rfl (by kernel_rfl) rfl (fun _ d _ _ _ h => by cases d <;> exact h) (fun w => y_extract S rfl rfl) ?_; clear S a; intro a S
        refine k_one (listed' := #[true, true, true, true, true, true, true, true, true, false, false]) 8 rfl (by kernel_rfl) rfl ?_
        refine st_alloc S M rfl rfl (zSt.cellsL (.slice none 0 0)).toArray (by kernel_rfl) ?_; clear S M a; intro a w6 bX S M hB
        refine wpList_nil ?_; refine then_normal ?_; refine ⟨fun _ => hB, ?_⟩
        refine k_one (listed' := #[true, true, true, true, true, true, true, true, true, true, false]) 9 rfl (by kernel_rfl) rfl ?_
        refine st_storeAll (sz := 273) S M 0 rfl (by kernel_rfl) rfl rfl (by with_reducible first | exact St.len zSt_ok _ | exact St.len s10a_ok _ | exact St.len s10b_ok _ | exact St.len s10c_ok _) (by with_reducible first | exact St.one zSt_ok _ rfl | exact St.one s10a_ok _ rfl | exact St.one s10b_ok _ rfl | exact St.one s10c_ok _ rfl) rfl (by with_reducible first | exact St.len zSt_ok _ | exact St.len s10a_ok _ | exact St.len s10b_ok _ | exact St.len s10c_ok _) ?_; clear M; intro w7 M
        simp only [List.set_cons_zero, List.set_cons_succ] at M
        refine wpList_nil ?_; refine then_normal ?_; refine ⟨fun h => absurd h (by decide), ?_⟩
        refine k_pure (listed' := #[true, true, true, true, true, true, true, true, true, true, true]) 10 S rfl rfl rfl rfl (by kernel_rfl) rfl (fun _ d _ _ _ h => by cases d <;> exact h) (fun w => y_assign S rfl) ?_; clear S a; intro a S
        refine k_end (by kernel_rfl) ?_
        refine then_normal ?_
        replace M := M.drop 2
        simp only [List.eraseIdx_cons_succ, List.eraseIdx_cons_zero] at M
        replace M := M.drop 1
        simp only [List.eraseIdx_cons_succ, List.eraseIdx_cons_zero] at M
        exact ⟨bX, da2, dc2, lo2, hi2, cs2, _, S.sub _ rfl, M, hBk2.mono (fun e he => by simp [he])⟩
      · skip
        refine st_alloc S M rfl rfl (zSt.cellsL (.slice none 0 0)).toArray (by kernel_rfl) ?_; clear S M a; intro a w8 bX S M hB
        refine wpList_nil ?_; refine then_normal ?_; refine ⟨fun _ => hB, ?_⟩
        refine k_one (listed' := #[true, true, true, true, true, false, false, false, true, false, false]) 4 rfl (by kernel_rfl) rfl ?_
        refine st_call (xs := [(Operand.tmp 13), (Operand.tmp 16)]) S (enters_of Try.func6 (by decide) rfl) rfl rfl rfl (apply_ok zSt zSt_ok none 0 [] [] p10a _ (PrsC.nil _ _ _) (by decide) (by simp) r10a _ 1 w10 (M.sliceAt 1 rfl (M.cellsAt (k := 9) 1 rfl rfl) rfl (Nat.le_refl _) (by decide)) (by decide) (by decide) t10a e10a) ?_
        rintro _ w9 ⟨da2, dc2, lo2, hi2, cs2, es2, rfl, M2, hBk2⟩; refine ⟨_, rfl, ?_⟩; clear S a; intro a S; have hK := M2.below
        rw [show appSt zSt [] r10a w10 = s10a from rfl] at S
        first
          | replace M := M.joinD3 M2
          | replace M := M.joinD2 M2
          | replace M := M.joinD1 M2
        refine wpList_nil ?_; refine then_normal ?_; refine ⟨fun _ => hK, ?_⟩
        refine k_pure (listed' := #[true, true, true, true, true, true, false, false, true, false, false]) 5 S rfl rfl rfl rfl (by kernel_rfl) rfl (fun _ d _ _ _ h => by cases d <;> exact h) (fun w => y_move S rfl) ?_; clear S a; intro a S
        refine k_pure (listed' := #[true, true, true, true, true, true, true, false, true, false, false]) 6 S rfl rfl rfl rfl (by kernel_rfl) rfl (fun _ d _ _ _ h => by cases d <;> exact h) (fun w => y_extract S rfl rfl) ?_; clear S a; intro a S
        refine k_pure (listed' := #[true, true, true, true, true, true, true, true, true, false, false]) 7 S rfl rfl rfl rfl (by kernel_rfl) rfl (fun _ d _ _ _ h => by cases d <;> exact h) (fun w => y_extract S rfl rfl) ?_; clear S a; intro a S
        refine k_one (listed' := #[true, true, true, true, true, true, true, true, true, true, false]) 9 rfl (by kernel_rfl) rfl ?_
        refine st_storeAll (sz := 273) S M 0 rfl (by kernel_rfl) rfl rfl (by with_reducible first | exact St.len zSt_ok _ | exact St.len s10a_ok _ | exact St.len s10b_ok _ | exact St.len s10c_ok _) (by with_reducible first | exact St.one zSt_ok _ rfl | exact St.one s10a_ok _ rfl | exact St.one s10b_ok _ rfl | exact St.one s10c_ok _ rfl) rfl (by with_reducible first | exact St.len zSt_ok _ | exact St.len s10a_ok _ | exact St.len s10b_ok _ | exact St.len s10c_ok _) ?_; clear M; intro w10 M
        simp only [List.set_cons_zero, List.set_cons_succ] at M
        refine wpList_nil ?_; refine then_normal ?_; refine ⟨fun h => absurd h (by decide), ?_⟩
        refine k_pure (listed' := #[true, true, true, true, true, true, true, true, true, true, true]) 10 S rfl rfl rfl rfl (by kernel_rfl) rfl (fun _ d _ _ _ h => by cases d <;> exact h) (fun w => y_assign S rfl) ?_; clear S a; intro a S
        refine k_end (by kernel_rfl) ?_
        refine then_normal ?_
        replace M := M.drop 2
        simp only [List.eraseIdx_cons_succ, List.eraseIdx_cons_zero] at M
        replace M := M.drop 1
        simp only [List.eraseIdx_cons_succ, List.eraseIdx_cons_zero] at M
        exact ⟨bX, da2, dc2, lo2, hi2, cs2, _, S.sub _ rfl, M, hBk2.mono (fun e he => by simp [he])⟩
    · skip
      refine st_alloc S M rfl rfl (zSt.cellsL (.slice none 0 0)).toArray (by kernel_rfl) ?_; clear S M a; intro a w11 bX S M hB
      refine wpList_nil ?_; refine then_normal ?_; refine ⟨fun _ => hB, ?_⟩
      refine k_one (listed' := #[true, true, true, false, false, false, false, false, true, false, false]) 1 rfl (by kernel_rfl) rfl ?_
      refine st_call (xs := [(Operand.const (Value.int IntKind.i64 1))]) S (enters_of Try.func7 (by decide) rfl) rfl rfl rfl (name_any _ _) ?_
      rintro _ w12 ⟨rfl, hK⟩; refine ⟨_, rfl, ?_⟩; clear S a; intro a S; replace M := M.grow hK
      refine wpList_nil ?_; refine then_normal ?_; refine ⟨fun _ => hK, ?_⟩
      refine k_pure (listed' := #[true, true, true, true, false, false, false, false, true, false, false]) 3 S rfl rfl rfl rfl (by kernel_rfl) rfl (fun _ d _ _ _ h => by cases d <;> exact h) (fun w => y_build (ps := [(0, (Operand.const (Value.int IntKind.i8 2))), (1, (Operand.tmp 14)), (3, (Operand.tmp 15))]) (pl := [(0, 1), (1, 3), (4, 1), (5, 1), (6, 1), (7, 1), (8, 1), (9, 2), (11, 1)]) (z := [.int .i8 0, .int .i64 0, .int .i64 0, .int .i64 0, .bool false, .slice none 0 0, .int .i64 0, .int .i64 0, .int .i64 0, .int .i64 0, .int .i64 0, .int .i64 0]) (cs := [_, _, _, _, _, _, _, _, _, _, _, _]) S (by kernel_rfl) rfl (rfl)) ?_; clear S a; intro a S
      refine k_one (listed' := #[true, true, true, true, true, false, false, false, true, false, false]) 4 rfl (by kernel_rfl) rfl ?_
      refine st_call (xs := [(Operand.tmp 13), (Operand.tmp 16)]) S (enters_of Try.func6 (by decide) rfl) rfl rfl rfl (apply_ok zSt zSt_ok none 0 [] [] p10a _ (PrsC.nil _ _ _) (by decide) (by simp) r10a _ 1 w10 (M.sliceAt 1 rfl (M.cellsAt (k := 9) 1 rfl rfl) rfl (Nat.le_refl _) (by decide)) (by decide) (by decide) t10a e10a) ?_
      rintro _ w13 ⟨da2, dc2, lo2, hi2, cs2, es2, rfl, M2, hBk2⟩; refine ⟨_, rfl, ?_⟩; clear S a; intro a S; have hK := M2.below
      rw [show appSt zSt [] r10a w10 = s10a from rfl] at S
      first
        | replace M := M.joinD3 M2
        | replace M := M.joinD2 M2
        | replace M := M.joinD1 M2
      refine wpList_nil ?_; refine then_normal ?_; refine ⟨fun _ => hK, ?_⟩
      refine k_pure (listed' := #[true, true, true, true, true, true, false, false, true, false, false]) 5 S rfl rfl rfl rfl (by kernel_rfl) rfl (fun _ d _ _ _ h => by cases d <;> exact h) (fun w => y_move S rfl) ?_; clear S a; intro a S
      refine k_pure (listed' := #[true, true, true, true, true, true, true, false, true, false, false]) 6 S rfl rfl rfl rfl (by kernel_rfl) rfl (fun _ d _ _ _ h => by cases d <;> exact h) (fun w => y_extract S rfl rfl) ?_; clear S a; intro a S
      refine k_pure (listed' := #[true, true, true, true, true, true, true, true, true, false, false]) 7 S rfl rfl rfl rfl (by kernel_rfl) rfl (fun _ d _ _ _ h => by cases d <;> exact h) (fun w => y_extract S rfl rfl) ?_; clear S a; intro a S
      refine k_one (listed' := #[true, true, true, true, true, true, true, true, true, true, false]) 9 rfl (by kernel_rfl) rfl ?_
      refine st_storeAll (sz := 273) S M 0 rfl (by kernel_rfl) rfl rfl (by with_reducible first | exact St.len zSt_ok _ | exact St.len s10a_ok _ | exact St.len s10b_ok _ | exact St.len s10c_ok _) (by with_reducible first | exact St.one zSt_ok _ rfl | exact St.one s10a_ok _ rfl | exact St.one s10b_ok _ rfl | exact St.one s10c_ok _ rfl) rfl (by with_reducible first | exact St.len zSt_ok _ | exact St.len s10a_ok _ | exact St.len s10b_ok _ | exact St.len s10c_ok _) ?_; clear M; intro w14 M
      simp only [List.set_cons_zero, List.set_cons_succ] at M
      refine wpList_nil ?_; refine then_normal ?_; refine ⟨fun h => absurd h (by decide), ?_⟩
      refine k_pure (listed' := #[true, true, true, true, true, true, true, true, true, true, true]) 10 S rfl rfl rfl rfl (by kernel_rfl) rfl (fun _ d _ _ _ h => by cases d <;> exact h) (fun w => y_assign S rfl) ?_; clear S a; intro a S
      refine k_end (by kernel_rfl) ?_
      refine then_normal ?_
      replace M := M.drop 2
      simp only [List.eraseIdx_cons_succ, List.eraseIdx_cons_zero] at M
      replace M := M.drop 1
      simp only [List.eraseIdx_cons_succ, List.eraseIdx_cons_zero] at M
      exact ⟨bX, da2, dc2, lo2, hi2, cs2, _, S.sub _ rfl, M, hBk2.mono (fun e he => by simp [he])⟩
  clear S a M; intro a wc
  rintro ⟨bX, da, dc, lo, hi, cs, es, S, M, hBk⟩
  refine wp_cut (StAt 66 5 [(4, .int .i64 0), (6, .int .i64 0)] s10b p10b w) ?_ ?_
  · skip
    refine wp_regionK [8] #[false, false, false, false, false, false, false, false, false, false] rfl M (by kernel_rfl) ?_; clear M; intro w15 M
    refine k_read (listed' := #[true, false, false, false, false, false, false, false, false, false]) 0 S rfl rfl rfl rfl (by kernel_rfl) rfl (fun _ d _ _ _ h => by cases d <;> exact h) (fun w hW => have M := M.grow hW; y_loadAgg (k := 273) (cs := _) S (by kernel_rfl) rfl (by with_reducible first | exact St.len zSt_ok _ | exact St.len s10a_ok _ | exact St.len s10b_ok _ | exact St.len s10c_ok _) (M.cellsAt 0 rfl cutL_all)) ?_; clear S a; intro a S
    refine k_two (l1 := #[true, true, false, false, false, false, false, false, false, false]) (l2 := #[true, false, false, false, false, false, false, true, false, false]) 1 7 rfl rfl (by kernel_rfl) rfl rfl ?_ ?_
    · skip
      refine st_call (xs := [(Operand.const (Value.int IntKind.i64 2))]) S (enters_of Try.func7 (by decide) rfl) rfl rfl rfl (name_any _ _) ?_
      rintro _ w16 ⟨rfl, hK⟩; refine ⟨_, rfl, ?_⟩; clear S a; intro a S; replace M := M.grow hK
      refine wpList_nil ?_; refine then_normal ?_; refine ⟨fun _ => hK, ?_⟩
      refine k_pure (listed' := #[true, true, true, false, false, false, false, false, false, false]) 2 S rfl rfl rfl rfl (by kernel_rfl) rfl (fun _ d _ _ _ h => by cases d <;> exact h) (fun w => y_build (ps := [(0, (Operand.const (Value.int IntKind.i8 2))), (1, (Operand.tmp 22))]) (pl := [(0, 1), (1, 3), (4, 1), (5, 1), (6, 1), (7, 1), (8, 1), (9, 2), (11, 1)]) (z := [.int .i8 0, .int .i64 0, .int .i64 0, .int .i64 0, .bool false, .slice none 0 0, .int .i64 0, .int .i64 0, .int .i64 0, .int .i64 0, .int .i64 0, .int .i64 0]) (cs := [_, _, _, _, _, _, _, _, _, _, _, _]) S (by kernel_rfl) rfl (rfl)) ?_; clear S a; intro a S
      refine k_two (l1 := #[true, true, true, true, false, false, false, false, false, false]) (l2 := #[true, true, true, false, false, false, false, true, false, false]) 3 7 rfl rfl (by kernel_rfl) rfl rfl ?_ ?_
      · skip
        refine st_call (xs := [(Operand.tmp 21), (Operand.tmp 23)]) S (enters_of Try.func6 (by decide) rfl) rfl rfl rfl (apply_ok s10a s10a_ok da dc cs p10a p10b _ ((hBk.prs M (List.mem_of_getElem? (show _[1]? = _ from rfl)) (fun e he => by simp [he]) (by decide)).wide (Nat.zero_le _) (Nat.le_refl _)) (by decide) hBk.short r10b none 0 [] (Rd.nil _ _ _ _) (by decide) (by decide) t10b e10b) ?_
        rintro _ w17 ⟨da2, dc2, lo2, hi2, cs2, es2, rfl, M2, hBk2⟩; refine ⟨_, rfl, ?_⟩; clear S a; intro a S; have hK := M2.below
        rw [show appSt s10a p10a r10b [] = s10b from rfl] at S
        first
          | replace M := M.joinD3 M2
          | replace M := M.joinD2 M2
          | replace M := M.joinD1 M2
        refine wpList_nil ?_; refine then_normal ?_; refine ⟨fun _ => hK, ?_⟩
        refine k_pure (listed' := #[true, true, true, true, true, false, false, false, false, false]) 4 S rfl rfl rfl rfl (by kernel_rfl) rfl (fun _ d _ _ _ h => by cases d <;> exact h) (fun w => y_move S rfl) ?_; clear S a; intro a S
        refine k_pure (listed' := #[true, true, true, true, true, true, false, false, false, false]) 5 S rfl rfl rfl rfl (by kernel_rfl) rfl (fun _ d _ _ _ h => by cases d <;> exact h) (fun w => y_extract S rfl rfl) ?_; clear S a; intro a S
        refine k_pure (listed' := #[true, true, true, true, true, true, true, false, false, false]) 6 S rfl rfl rfl rfl (by kernel_rfl) rfl (fun _ d _ _ _ h => by cases d <;> exact h) (fun w => y_extract S rfl rfl) ?_; clear S a; intro a S
        refine k_one (listed' := #[true, true, true, true, true, true, true, true, false, false]) 7 rfl (by kernel_rfl) rfl ?_
        refine st_alloc S M rfl rfl (zSt.cellsL (.slice none 0 0)).toArray (by kernel_rfl) ?_; clear S M a; intro a w18 bY S M hB
        refine wpList_nil ?_; refine then_normal ?_; refine ⟨fun _ => hB, ?_⟩
        refine k_one (listed' := #[true, true, true, true, true, true, true, true, true, false]) 8 rfl (by kernel_rfl) rfl ?_
        refine st_storeAll (sz := 273) S M 0 rfl (by kernel_rfl) rfl rfl (by with_reducible first | exact St.len zSt_ok _ | exact St.len s10a_ok _ | exact St.len s10b_ok _ | exact St.len s10c_ok _) (by with_reducible first | exact St.one zSt_ok _ rfl | exact St.one s10a_ok _ rfl | exact St.one s10b_ok _ rfl | exact St.one s10c_ok _ rfl) rfl (by with_reducible first | exact St.len zSt_ok _ | exact St.len s10a_ok _ | exact St.len s10b_ok _ | exact St.len s10c_ok _) ?_; clear M; intro w19 M
        simp only [List.set_cons_zero, List.set_cons_succ] at M
        refine wpList_nil ?_; refine then_normal ?_; refine ⟨fun h => absurd h (by decide), ?_⟩
        refine k_pure (listed' := #[true, true, true, true, true, true, true, true, true, true]) 9 S rfl rfl rfl rfl (by kernel_rfl) rfl (fun _ d _ _ _ h => by cases d <;> exact h) (fun w => y_assign S rfl) ?_; clear S a; intro a S
        refine k_end (by kernel_rfl) ?_
        refine then_normal ?_
        replace M := M.drop 1
        simp only [List.eraseIdx_cons_succ, List.eraseIdx_cons_zero] at M
        replace M := M.drop 1
        simp only [List.eraseIdx_cons_succ, List.eraseIdx_cons_zero] at M
        exact ⟨bY, da2, dc2, lo2, hi2, cs2, _, S.sub _ rfl, M, hBk2.mono (fun e he => by simp [he])⟩
      · skip
        refine st_alloc S M rfl rfl (zSt.cellsL (.slice none 0 0)).toArray (by kernel_rfl) ?_; clear S M a; intro a w20 bY S M hB
        refine wpList_nil ?_; refine then_normal ?_; refine ⟨fun _ => hB, ?_⟩
        refine k_one (listed' := #[true, true, true, true, false, false, false, true, false, false]) 3 rfl (by kernel_rfl) rfl ?_
        refine st_call (xs := [(Operand.tmp 21), (Operand.tmp 23)]) S (enters_of Try.func6 (by decide) rfl) rfl rfl rfl (apply_ok s10a s10a_ok da dc cs p10a p10b _ ((hBk.prs M (List.mem_of_getElem? (show _[2]? = _ from rfl)) (fun e he => by simp [he]) (by decide)).wide (Nat.zero_le _) (Nat.le_refl _)) (by decide) hBk.short r10b none 0 [] (Rd.nil _ _ _ _) (by decide) (by decide) t10b e10b) ?_
        rintro _ w21 ⟨da2, dc2, lo2, hi2, cs2, es2, rfl, M2, hBk2⟩; refine ⟨_, rfl, ?_⟩; clear S a; intro a S; have hK := M2.below
        rw [show appSt s10a p10a r10b [] = s10b from rfl] at S
        first
          | replace M := M.joinD3 M2
          | replace M := M.joinD2 M2
          | replace M := M.joinD1 M2
        refine wpList_nil ?_; refine then_normal ?_; refine ⟨fun _ => hK, ?_⟩
        refine k_pure (listed' := #[true, true, true, true, true, false, false, true, false, false]) 4 S rfl rfl rfl rfl (by kernel_rfl) rfl (fun _ d _ _ _ h => by cases d <;> exact h) (fun w => y_move S rfl) ?_; clear S a; intro a S
        refine k_pure (listed' := #[true, true, true, true, true, true, false, true, false, false]) 5 S rfl rfl rfl rfl (by kernel_rfl) rfl (fun _ d _ _ _ h => by cases d <;> exact h) (fun w => y_extract S rfl rfl) ?_; clear S a; intro a S
        refine k_pure (listed' := #[true, true, true, true, true, true, true, true, false, false]) 6 S rfl rfl rfl rfl (by kernel_rfl) rfl (fun _ d _ _ _ h => by cases d <;> exact h) (fun w => y_extract S rfl rfl) ?_; clear S a; intro a S
        refine k_one (listed' := #[true, true, true, true, true, true, true, true, true, false]) 8 rfl (by kernel_rfl) rfl ?_
        refine st_storeAll (sz := 273) S M 0 rfl (by kernel_rfl) rfl rfl (by with_reducible first | exact St.len zSt_ok _ | exact St.len s10a_ok _ | exact St.len s10b_ok _ | exact St.len s10c_ok _) (by with_reducible first | exact St.one zSt_ok _ rfl | exact St.one s10a_ok _ rfl | exact St.one s10b_ok _ rfl | exact St.one s10c_ok _ rfl) rfl (by with_reducible first | exact St.len zSt_ok _ | exact St.len s10a_ok _ | exact St.len s10b_ok _ | exact St.len s10c_ok _) ?_; clear M; intro w22 M
        simp only [List.set_cons_zero, List.set_cons_succ] at M
        refine wpList_nil ?_; refine then_normal ?_; refine ⟨fun h => absurd h (by decide), ?_⟩
        refine k_pure (listed' := #[true, true, true, true, true, true, true, true, true, true]) 9 S rfl rfl rfl rfl (by kernel_rfl) rfl (fun _ d _ _ _ h => by cases d <;> exact h) (fun w => y_assign S rfl) ?_; clear S a; intro a S
        refine k_end (by kernel_rfl) ?_
        refine then_normal ?_
        replace M := M.drop 1
        simp only [List.eraseIdx_cons_succ, List.eraseIdx_cons_zero] at M
        replace M := M.drop 1
        simp only [List.eraseIdx_cons_succ, List.eraseIdx_cons_zero] at M
        exact ⟨bY, da2, dc2, lo2, hi2, cs2, _, S.sub _ rfl, M, hBk2.mono (fun e he => by simp [he])⟩
    · skip
      refine st_alloc S M rfl rfl (zSt.cellsL (.slice none 0 0)).toArray (by kernel_rfl) ?_; clear S M a; intro a w23 bY S M hB
      refine wpList_nil ?_; refine then_normal ?_; refine ⟨fun _ => hB, ?_⟩
      refine k_one (listed' := #[true, true, false, false, false, false, false, true, false, false]) 1 rfl (by kernel_rfl) rfl ?_
      refine st_call (xs := [(Operand.const (Value.int IntKind.i64 2))]) S (enters_of Try.func7 (by decide) rfl) rfl rfl rfl (name_any _ _) ?_
      rintro _ w24 ⟨rfl, hK⟩; refine ⟨_, rfl, ?_⟩; clear S a; intro a S; replace M := M.grow hK
      refine wpList_nil ?_; refine then_normal ?_; refine ⟨fun _ => hK, ?_⟩
      refine k_pure (listed' := #[true, true, true, false, false, false, false, true, false, false]) 2 S rfl rfl rfl rfl (by kernel_rfl) rfl (fun _ d _ _ _ h => by cases d <;> exact h) (fun w => y_build (ps := [(0, (Operand.const (Value.int IntKind.i8 2))), (1, (Operand.tmp 22))]) (pl := [(0, 1), (1, 3), (4, 1), (5, 1), (6, 1), (7, 1), (8, 1), (9, 2), (11, 1)]) (z := [.int .i8 0, .int .i64 0, .int .i64 0, .int .i64 0, .bool false, .slice none 0 0, .int .i64 0, .int .i64 0, .int .i64 0, .int .i64 0, .int .i64 0, .int .i64 0]) (cs := [_, _, _, _, _, _, _, _, _, _, _, _]) S (by kernel_rfl) rfl (rfl)) ?_; clear S a; intro a S
      refine k_one (listed' := #[true, true, true, true, false, false, false, true, false, false]) 3 rfl (by kernel_rfl) rfl ?_
      refine st_call (xs := [(Operand.tmp 21), (Operand.tmp 23)]) S (enters_of Try.func6 (by decide) rfl) rfl rfl rfl (apply_ok s10a s10a_ok da dc cs p10a p10b _ ((hBk.prs M (List.mem_of_getElem? (show _[2]? = _ from rfl)) (fun e he => by simp [he]) (by decide)).wide (Nat.zero_le _) (Nat.le_refl _)) (by decide) hBk.short r10b none 0 [] (Rd.nil _ _ _ _) (by decide) (by decide) t10b e10b) ?_
      rintro _ w25 ⟨da2, dc2, lo2, hi2, cs2, es2, rfl, M2, hBk2⟩; refine ⟨_, rfl, ?_⟩; clear S a; intro a S; have hK := M2.below
      rw [show appSt s10a p10a r10b [] = s10b from rfl] at S
      first
        | replace M := M.joinD3 M2
        | replace M := M.joinD2 M2
        | replace M := M.joinD1 M2
      refine wpList_nil ?_; refine then_normal ?_; refine ⟨fun _ => hK, ?_⟩
      refine k_pure (listed' := #[true, true, true, true, true, false, false, true, false, false]) 4 S rfl rfl rfl rfl (by kernel_rfl) rfl (fun _ d _ _ _ h => by cases d <;> exact h) (fun w => y_move S rfl) ?_; clear S a; intro a S
      refine k_pure (listed' := #[true, true, true, true, true, true, false, true, false, false]) 5 S rfl rfl rfl rfl (by kernel_rfl) rfl (fun _ d _ _ _ h => by cases d <;> exact h) (fun w => y_extract S rfl rfl) ?_; clear S a; intro a S
      refine k_pure (listed' := #[true, true, true, true, true, true, true, true, false, false]) 6 S rfl rfl rfl rfl (by kernel_rfl) rfl (fun _ d _ _ _ h => by cases d <;> exact h) (fun w => y_extract S rfl rfl) ?_; clear S a; intro a S
      refine k_one (listed' := #[true, true, true, true, true, true, true, true, true, false]) 8 rfl (by kernel_rfl) rfl ?_
      refine st_storeAll (sz := 273) S M 0 rfl (by kernel_rfl) rfl rfl (by with_reducible first | exact St.len zSt_ok _ | exact St.len s10a_ok _ | exact St.len s10b_ok _ | exact St.len s10c_ok _) (by with_reducible first | exact St.one zSt_ok _ rfl | exact St.one s10a_ok _ rfl | exact St.one s10b_ok _ rfl | exact St.one s10c_ok _ rfl) rfl (by with_reducible first | exact St.len zSt_ok _ | exact St.len s10a_ok _ | exact St.len s10b_ok _ | exact St.len s10c_ok _) ?_; clear M; intro w26 M
      simp only [List.set_cons_zero, List.set_cons_succ] at M
      refine wpList_nil ?_; refine then_normal ?_; refine ⟨fun h => absurd h (by decide), ?_⟩
      refine k_pure (listed' := #[true, true, true, true, true, true, true, true, true, true]) 9 S rfl rfl rfl rfl (by kernel_rfl) rfl (fun _ d _ _ _ h => by cases d <;> exact h) (fun w => y_assign S rfl) ?_; clear S a; intro a S
      refine k_end (by kernel_rfl) ?_
      refine then_normal ?_
      replace M := M.drop 1
      simp only [List.eraseIdx_cons_succ, List.eraseIdx_cons_zero] at M
      replace M := M.drop 1
      simp only [List.eraseIdx_cons_succ, List.eraseIdx_cons_zero] at M
      exact ⟨bY, da2, dc2, lo2, hi2, cs2, _, S.sub _ rfl, M, hBk2.mono (fun e he => by simp [he])⟩
  clear S a M; intro a wc
  rintro ⟨bX, da, dc, lo, hi, cs, es, S, M, hBk⟩
  refine wp_cut (StAt 66 7 [(4, .int .i64 0), (6, .int .i64 0), (8, .int .i64 0)] s10c p10c w) ?_ ?_
  · skip
    refine wp_regionK [8] #[false, false, false, false, false, false, false, false, false, false] rfl M (by kernel_rfl) ?_; clear M; intro w27 M
    refine k_read (listed' := #[true, false, false, false, false, false, false, false, false, false]) 0 S rfl rfl rfl rfl (by kernel_rfl) rfl (fun _ d _ _ _ h => by cases d <;> exact h) (fun w hW => have M := M.grow hW; y_loadAgg (k := 273) (cs := _) S (by kernel_rfl) rfl (by with_reducible first | exact St.len zSt_ok _ | exact St.len s10a_ok _ | exact St.len s10b_ok _ | exact St.len s10c_ok _) (M.cellsAt 0 rfl cutL_all)) ?_; clear S a; intro a S
    refine k_two (l1 := #[true, true, false, false, false, false, false, false, false, false]) (l2 := #[true, false, false, false, false, false, false, true, false, false]) 1 7 rfl rfl (by kernel_rfl) rfl rfl ?_ ?_
    · skip
      refine st_call (xs := [(Operand.const (Value.int IntKind.i64 1))]) S (enters_of Try.func7 (by decide) rfl) rfl rfl rfl (name_any _ _) ?_
      rintro _ w28 ⟨rfl, hK⟩; refine ⟨_, rfl, ?_⟩; clear S a; intro a S; replace M := M.grow hK
      refine wpList_nil ?_; refine then_normal ?_; refine ⟨fun _ => hK, ?_⟩
      refine k_pure (listed' := #[true, true, true, false, false, false, false, false, false, false]) 2 S rfl rfl rfl rfl (by kernel_rfl) rfl (fun _ d _ _ _ h => by cases d <;> exact h) (fun w => y_build (ps := [(0, (Operand.const (Value.int IntKind.i8 3))), (1, (Operand.tmp 29)), (2, (Operand.const (Value.bool true)))]) (pl := [(0, 1), (1, 3), (4, 1), (5, 1), (6, 1), (7, 1), (8, 1), (9, 2), (11, 1)]) (z := [.int .i8 0, .int .i64 0, .int .i64 0, .int .i64 0, .bool false, .slice none 0 0, .int .i64 0, .int .i64 0, .int .i64 0, .int .i64 0, .int .i64 0, .int .i64 0]) (cs := [_, _, _, _, _, _, _, _, _, _, _, _]) S (by kernel_rfl) rfl (rfl)) ?_; clear S a; intro a S
      refine k_two (l1 := #[true, true, true, true, false, false, false, false, false, false]) (l2 := #[true, true, true, false, false, false, false, true, false, false]) 3 7 rfl rfl (by kernel_rfl) rfl rfl ?_ ?_
      · skip
        refine st_call (xs := [(Operand.tmp 28), (Operand.tmp 30)]) S (enters_of Try.func6 (by decide) rfl) rfl rfl rfl (apply_ok s10b s10b_ok da dc cs p10b p10c _ ((hBk.prs M (List.mem_of_getElem? (show _[1]? = _ from rfl)) (fun e he => by simp [he]) (by decide)).wide (Nat.zero_le _) (Nat.le_refl _)) (by decide) hBk.short r10c none 0 [] (Rd.nil _ _ _ _) (by decide) (by decide) t10c e10c) ?_
        rintro _ w29 ⟨da2, dc2, lo2, hi2, cs2, es2, rfl, M2, hBk2⟩; refine ⟨_, rfl, ?_⟩; clear S a; intro a S; have hK := M2.below
        rw [show appSt s10b p10b r10c [] = s10c from rfl] at S
        first
          | replace M := M.joinD3 M2
          | replace M := M.joinD2 M2
          | replace M := M.joinD1 M2
        refine wpList_nil ?_; refine then_normal ?_; refine ⟨fun _ => hK, ?_⟩
        refine k_pure (listed' := #[true, true, true, true, true, false, false, false, false, false]) 4 S rfl rfl rfl rfl (by kernel_rfl) rfl (fun _ d _ _ _ h => by cases d <;> exact h) (fun w => y_move S rfl) ?_; clear S a; intro a S
        refine k_pure (listed' := #[true, true, true, true, true, true, false, false, false, false]) 5 S rfl rfl rfl rfl (by kernel_rfl) rfl (fun _ d _ _ _ h => by cases d <;> exact h) (fun w => y_extract S rfl rfl) ?_; clear S a; intro a S
        refine k_pure (listed' := #[true, true, true, true, true, true, true, false, false, false]) 6 S rfl rfl rfl rfl (by kernel_rfl) rfl (fun _ d _ _ _ h => by cases d <;> exact h) (fun w => y_extract S rfl rfl) ?_; clear S a; intro a S
        refine k_one (listed' := #[true, true, true, true, true, true, true, true, false, false]) 7 rfl (by kernel_rfl) rfl ?_
        refine st_alloc S M rfl rfl (zSt.cellsL (.slice none 0 0)).toArray (by kernel_rfl) ?_; clear S M a; intro a w30 bY S M hB
        refine wpList_nil ?_; refine then_normal ?_; refine ⟨fun _ => hB, ?_⟩
        refine k_one (listed' := #[true, true, true, true, true, true, true, true, true, false]) 8 rfl (by kernel_rfl) rfl ?_
        refine st_storeAll (sz := 273) S M 0 rfl (by kernel_rfl) rfl rfl (by with_reducible first | exact St.len zSt_ok _ | exact St.len s10a_ok _ | exact St.len s10b_ok _ | exact St.len s10c_ok _) (by with_reducible first | exact St.one zSt_ok _ rfl | exact St.one s10a_ok _ rfl | exact St.one s10b_ok _ rfl | exact St.one s10c_ok _ rfl) rfl (by with_reducible first | exact St.len zSt_ok _ | exact St.len s10a_ok _ | exact St.len s10b_ok _ | exact St.len s10c_ok _) ?_; clear M; intro w31 M
        simp only [List.set_cons_zero, List.set_cons_succ] at M
        refine wpList_nil ?_; refine then_normal ?_; refine ⟨fun h => absurd h (by decide), ?_⟩
        refine k_pure (listed' := #[true, true, true, true, true, true, true, true, true, true]) 9 S rfl rfl rfl rfl (by kernel_rfl) rfl (fun _ d _ _ _ h => by cases d <;> exact h) (fun w => y_assign S rfl) ?_; clear S a; intro a S
        refine k_end (by kernel_rfl) ?_
        refine then_normal ?_
        replace M := M.drop 1
        simp only [List.eraseIdx_cons_succ, List.eraseIdx_cons_zero] at M
        replace M := M.drop 1
        simp only [List.eraseIdx_cons_succ, List.eraseIdx_cons_zero] at M
        exact ⟨bY, da2, dc2, lo2, hi2, cs2, _, S.sub _ rfl, M, hBk2.mono (fun e he => by simp [he])⟩
      · skip
        refine st_alloc S M rfl rfl (zSt.cellsL (.slice none 0 0)).toArray (by kernel_rfl) ?_; clear S M a; intro a w32 bY S M hB
        refine wpList_nil ?_; refine then_normal ?_; refine ⟨fun _ => hB, ?_⟩
        refine k_one (listed' := #[true, true, true, true, false, false, false, true, false, false]) 3 rfl (by kernel_rfl) rfl ?_
        refine st_call (xs := [(Operand.tmp 28), (Operand.tmp 30)]) S (enters_of Try.func6 (by decide) rfl) rfl rfl rfl (apply_ok s10b s10b_ok da dc cs p10b p10c _ ((hBk.prs M (List.mem_of_getElem? (show _[2]? = _ from rfl)) (fun e he => by simp [he]) (by decide)).wide (Nat.zero_le _) (Nat.le_refl _)) (by decide) hBk.short r10c none 0 [] (Rd.nil _ _ _ _) (by decide) (by decide) t10c e10c) ?_
        rintro _ w33 ⟨da2, dc2, lo2, hi2, cs2, es2, rfl, M2, hBk2⟩; refine ⟨_, rfl, ?_⟩; clear S a; intro a S; have hK := M2.below
        rw [show appSt s10b p10b r10c [] = s10c from rfl] at S
        first
          | replace M := M.joinD3 M2
          | replace M := M.joinD2 M2
          | replace M := M.joinD1 M2
        refine wpList_nil ?_; refine then_normal ?_; refine ⟨fun _ => hK, ?_⟩
        refine k_pure (listed' := #[true, true, true, true, true, false, false, true, false, false]) 4 S rfl rfl rfl rfl (by kernel_rfl) rfl (fun _ d _ _ _ h => by cases d <;> exact h) (fun w => y_move S rfl) ?_; clear S a; intro a S
        refine k_pure (listed' := #[true, true, true, true, true, true, false, true, false, false]) 5 S rfl rfl rfl rfl (by kernel_rfl) rfl (fun _ d _ _ _ h => by cases d <;> exact h) (fun w => y_extract S rfl rfl) ?_; clear S a; intro a S
        refine k_pure (listed' := #[true, true, true, true, true, true, true, true, false, false]) 6 S rfl rfl rfl rfl (by kernel_rfl) rfl (fun _ d _ _ _ h => by cases d <;> exact h) (fun w => y_extract S rfl rfl) ?_; clear S a; intro a S
        refine k_one (listed' := #[true, true, true, true, true, true, true, true, true, false]) 8 rfl (by kernel_rfl) rfl ?_
        refine st_storeAll (sz := 273) S M 0 rfl (by kernel_rfl) rfl rfl (by with_reducible first | exact St.len zSt_ok _ | exact St.len s10a_ok _ | exact St.len s10b_ok _ | exact St.len s10c_ok _) (by with_reducible first | exact St.one zSt_ok _ rfl | exact St.one s10a_ok _ rfl | exact St.one s10b_ok _ rfl | exact St.one s10c_ok _ rfl) rfl (by with_reducible first | exact St.len zSt_ok _ | exact St.len s10a_ok _ | exact St.len s10b_ok _ | exact St.len s10c_ok _) ?_; clear M; intro w34 M
        simp only [List.set_cons_zero, List.set_cons_succ] at M
        refine wpList_nil ?_; refine then_normal ?_; refine ⟨fun h => absurd h (by decide), ?_⟩
        refine k_pure (listed' := #[true, true, true, true, true, true, true, true, true, true]) 9 S rfl rfl rfl rfl (by kernel_rfl) rfl (fun _ d _ _ _ h => by cases d <;> exact h) (fun w => y_assign S rfl) ?_; clear S a; intro a S
        refine k_end (by kernel_rfl) ?_
        refine then_normal ?_
        replace M := M.drop 1
        simp only [List.eraseIdx_cons_succ, List.eraseIdx_cons_zero] at M
        replace M := M.drop 1
        simp only [List.eraseIdx_cons_succ, List.eraseIdx_cons_zero] at M
        exact ⟨bY, da2, dc2, lo2, hi2, cs2, _, S.sub _ rfl, M, hBk2.mono (fun e he => by simp [he])⟩
    · skip
      refine st_alloc S M rfl rfl (zSt.cellsL (.slice none 0 0)).toArray (by kernel_rfl) ?_; clear S M a; intro a w35 bY S M hB
      refine wpList_nil ?_; refine then_normal ?_; refine ⟨fun _ => hB, ?_⟩
      refine k_one (listed' := #[true, true, false, false, false, false, false, true, false, false]) 1 rfl (by kernel_rfl) rfl ?_
      refine st_call (xs := [(Operand.const (Value.int IntKind.i64 1))]) S (enters_of Try.func7 (by decide) rfl) rfl rfl rfl (name_any _ _) ?_
      rintro _ w36 ⟨rfl, hK⟩; refine ⟨_, rfl, ?_⟩; clear S a; intro a S; replace M := M.grow hK
      refine wpList_nil ?_; refine then_normal ?_; refine ⟨fun _ => hK, ?_⟩
      refine k_pure (listed' := #[true, true, true, false, false, false, false, true, false, false]) 2 S rfl rfl rfl rfl (by kernel_rfl) rfl (fun _ d _ _ _ h => by cases d <;> exact h) (fun w => y_build (ps := [(0, (Operand.const (Value.int IntKind.i8 3))), (1, (Operand.tmp 29)), (2, (Operand.const (Value.bool true)))]) (pl := [(0, 1), (1, 3), (4, 1), (5, 1), (6, 1), (7, 1), (8, 1), (9, 2), (11, 1)]) (z := [.int .i8 0, .int .i64 0, .int .i64 0, .int .i64 0, .bool false, .slice none 0 0, .int .i64 0, .int .i64 0, .int .i64 0, .int .i64 0, .int .i64 0, .int .i64 0]) (cs := [_, _, _, _, _, _, _, _, _, _, _, _]) S (by kernel_rfl) rfl (rfl)) ?_; clear S a; intro a S
      refine k_one (listed' := #[true, true, true, true, false, false, false, true, false, false]) 3 rfl (by kernel_rfl) rfl ?_
      refine st_call (xs := [(Operand.tmp 28), (Operand.tmp 30)]) S (enters_of Try.func6 (by decide) rfl) rfl rfl rfl (apply_ok s10b s10b_ok da dc cs p10b p10c _ ((hBk.prs M (List.mem_of_getElem? (show _[2]? = _ from rfl)) (fun e he => by simp [he]) (by decide)).wide (Nat.zero_le _) (Nat.le_refl _)) (by decide) hBk.short r10c none 0 [] (Rd.nil _ _ _ _) (by decide) (by decide) t10c e10c) ?_
      rintro _ w37 ⟨da2, dc2, lo2, hi2, cs2, es2, rfl, M2, hBk2⟩; refine ⟨_, rfl, ?_⟩; clear S a; intro a S; have hK := M2.below
      rw [show appSt s10b p10b r10c [] = s10c from rfl] at S
      first
        | replace M := M.joinD3 M2
        | replace M := M.joinD2 M2
        | replace M := M.joinD1 M2
      refine wpList_nil ?_; refine then_normal ?_; refine ⟨fun _ => hK, ?_⟩
      refine k_pure (listed' := #[true, true, true, true, true, false, false, true, false, false]) 4 S rfl rfl rfl rfl (by kernel_rfl) rfl (fun _ d _ _ _ h => by cases d <;> exact h) (fun w => y_move S rfl) ?_; clear S a; intro a S
      refine k_pure (listed' := #[true, true, true, true, true, true, false, true, false, false]) 5 S rfl rfl rfl rfl (by kernel_rfl) rfl (fun _ d _ _ _ h => by cases d <;> exact h) (fun w => y_extract S rfl rfl) ?_; clear S a; intro a S
      refine k_pure (listed' := #[true, true, true, true, true, true, true, true, false, false]) 6 S rfl rfl rfl rfl (by kernel_rfl) rfl (fun _ d _ _ _ h => by cases d <;> exact h) (fun w => y_extract S rfl rfl) ?_; clear S a; intro a S
      refine k_one (listed' := #[true, true, true, true, true, true, true, true, true, false]) 8 rfl (by kernel_rfl) rfl ?_
      refine st_storeAll (sz := 273) S M 0 rfl (by kernel_rfl) rfl rfl (by with_reducible first | exact St.len zSt_ok _ | exact St.len s10a_ok _ | exact St.len s10b_ok _ | exact St.len s10c_ok _) (by with_reducible first | exact St.one zSt_ok _ rfl | exact St.one s10a_ok _ rfl | exact St.one s10b_ok _ rfl | exact St.one s10c_ok _ rfl) rfl (by with_reducible first | exact St.len zSt_ok _ | exact St.len s10a_ok _ | exact St.len s10b_ok _ | exact St.len s10c_ok _) ?_; clear M; intro w38 M
      simp only [List.set_cons_zero, List.set_cons_succ] at M
      refine wpList_nil ?_; refine then_normal ?_; refine ⟨fun h => absurd h (by decide), ?_⟩
      refine k_pure (listed' := #[true, true, true, true, true, true, true, true, true, true]) 9 S rfl rfl rfl rfl (by kernel_rfl) rfl (fun _ d _ _ _ h => by cases d <;> exact h) (fun w => y_assign S rfl) ?_; clear S a; intro a S
      refine k_end (by kernel_rfl) ?_
      refine then_normal ?_
      replace M := M.drop 1
      simp only [List.eraseIdx_cons_succ, List.eraseIdx_cons_zero] at M
      replace M := M.drop 1
      simp only [List.eraseIdx_cons_succ, List.eraseIdx_cons_zero] at M
      exact ⟨bY, da2, dc2, lo2, hi2, cs2, _, S.sub _ rfl, M, hBk2.mono (fun e he => by simp [he])⟩
  clear S a M; intro a wc
  rintro ⟨bX, da, dc, lo, hi, cs, es, S, M, hBk⟩
  obtain ⟨qa, qc, hrow, -, -⟩ := hBk.rows M (fun e he => by simp [he]) 0 (⟨nm10 2, 0, 0⟩, []) rfl
  refine nxD ?_
  refine st_go [1, 1, 1] S rfl (by kernel_rfl) ?_; clear S a; intro a S
  refine st_fi (t := 36) S rfl ?_ ?_
  · clear S; intro h36 S
    simp at h36
  clear S; intro h36 S
  refine st_go [1, 1, 1, 1] S rfl (by kernel_rfl) ?_; clear S a; intro a S
  refine st_fi (t := 40) S rfl ?_ ?_
  · clear S; intro h40 S
    simp at h40
  clear S; intro h40 S
  refine st_go [1, 1, 1, 1] S rfl (by kernel_rfl) ?_; clear S a; intro a S
  refine st_fi (t := 44) S rfl ?_ ?_
  · clear S; intro h44 S
    simp at h44
  clear S; intro h44 S
  refine st_go [272] S rfl (by kernel_rfl) ?_; clear S a; intro a S
  refine st_y S rfl rfl rfl (y_load S (by kernel_rfl) rfl (M.cell 0 rfl (St.doubt s10c_ok _))) ?_; clear S a; intro a S
  refine st_y S rfl rfl rfl (y_lenS (E := 52) S rfl (by kernel_rfl)) ?_; clear S a; intro a S
  refine st_go [1, 1, 1] S rfl (by kernel_rfl) ?_; clear S a; intro a S
  refine st_fi (t := 50) S rfl ?_ ?_
  · clear S; intro h50 S
    exact absurd rfl h50
  clear S; intro h50 S
  refine st_go [272] S rfl (by kernel_rfl) ?_; clear S a; intro a S
  refine st_y S rfl rfl rfl (y_load S (by kernel_rfl) rfl (M.cell 0 rfl (St.doubt s10c_ok _))) ?_; clear S a; intro a S
  refine st_y S rfl rfl rfl (y_indexR (e := 52) (sz := 6) S (by kernel_rfl) rfl (M.readRow 1 rfl (by decide)) rfl (by first | omega | (simp; done) | (simp; omega))) ?_; clear S a; intro a S
  refine st_go [1, 1] S rfl (by kernel_rfl) ?_; clear S a; intro a S
  refine st_y S rfl rfl rfl (y_load S (by kernel_rfl) rfl (((M.readRow 1 rfl (by decide)).at_.row (i := 0) hrow rfl) 0 (by show 0 < 6; omega))) ?_; clear S a; intro a S
  refine st_go [1, 1, 1] S rfl (by kernel_rfl) ?_; clear S a; intro a S
  refine st_fi (t := 59) S rfl ?_ ?_
  · clear S; intro h59 S
    simp [nm10] at h59
  clear S; intro h59 S
  refine st_go [16] S rfl (by kernel_rfl) ?_; clear S a; intro a S
  refine st_y S rfl rfl rfl (y_indexA (m := 32) (sz := 8) S (by kernel_rfl) rfl rfl (by first | omega | (simp; done) | (simp; omega))) ?_; clear S a; intro a S
  refine st_y S rfl rfl rfl (y_indexA (m := 8) (sz := 1) S (by kernel_rfl) rfl rfl (by first | omega | (simp; done) | (simp; omega))) ?_; clear S a; intro a S
  refine st_y S rfl rfl rfl (y_load S (by kernel_rfl) rfl (M.cell 0 rfl (s10_cell _ _ _))) ?_; clear S a; intro a S
  refine st_go [1, 1, 1] S rfl (by kernel_rfl) ?_; clear S a; intro a S
  replace S := S.sub [(7, _), (4, _), (6, _), (8, _), (0, _)] rfl
  refine nxC ?_
  refine wp_ret ?_
  refine end_one S rfl (res_tmp rfl) ?_
  refine ⟨ret_bool ?_, M.below⟩
  simp

end Go.Proofs.Ytodfphphidhjbaa
