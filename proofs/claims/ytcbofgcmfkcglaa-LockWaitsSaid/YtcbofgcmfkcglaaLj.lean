/-
  law13: ask, wakes.
-/
import Derived.Test.YtcbofgcmfkcglaaLi
namespace Go.Proofs.Ytcbofgcmfkcglaa
open Go.RowKit Go.Sort

abbrev askL (s : Int) (b : Bool) : Lk := ⟨⟨s, 1, 1⟩, 5, b⟩
theorem askL_any (s : Int) (b : Bool) (w : World) : Calls Try.prog 13 #[.int .i64 s, .bool b] w fun e w' => e = .returned (.agg (askL s b).cellsL.toArray) ∧ Below w.heap.size w w' := by
  have M := Mem.start w
  refine calls_enter Try.func13 rfl 9 rfl rfl ?_; intro a S
  refine nxD ?_
  refine st_alloc S M rfl rfl #[.int .i64 0, .int .i64 0, .int .i64 0, .int .i64 0, .bool false] (by kernel_rfl) ?_; clear S M a; intro a w1 bR S M hB
  refine nxA ?_
  refine st_go [1] S rfl (by kernel_rfl) ?_; clear S a; intro a S
  refine st_y S rfl rfl rfl (y_build (ps := [(0, (Operand.tmp 5)), (1, (Operand.const (Value.int IntKind.i64 1))), (2, (Operand.const (Value.int IntKind.i64 1)))]) (pl := [(0, 1), (1, 1), (2, 1)]) (z := [.int .i64 0, .int .i64 0, .int .i64 0]) (cs := [_, _, _]) S (by kernel_rfl) rfl (rfl)) ?_; clear S a; intro a S
  refine st_go [1] S rfl (by kernel_rfl) ?_; clear S a; intro a S
  refine st_y S rfl rfl rfl (y_build (ps := [(0, (Operand.tmp 6)), (1, (Operand.const (Value.int IntKind.i64 5))), (2, (Operand.tmp 7))]) (pl := [(0, 3), (3, 1), (4, 1)]) (z := [.int .i64 0, .int .i64 0, .int .i64 0, .int .i64 0, .bool false]) (cs := [_, _, _, _, _]) S (by kernel_rfl) rfl (rfl)) ?_; clear S a; intro a S
  refine st_store (sz := 5) (us := [_, _, _, _, _]) S M 0 rfl (by kernel_rfl) rfl rfl rfl rfl rfl rfl (by first | decide | (simp; done) | (simp; omega)) ?_; clear M; intro w2 M
  simp only [putL, List.set_cons_zero, List.set_cons_succ, Nat.reduceAdd] at M
  refine nxC ?_
  refine wp_ret ?_
  refine end_one S rfl (res_agg (cs := [_, _, _, _, _]) (by kernel_rfl) rfl rfl (M.cellsAt (k := 5) 0 rfl rfl)) ?_
  exact ⟨rfl, M.below⟩
theorem okT_nil : OkT [] [] := ⟨fun x h => (by cases h), .nil, fun k _ h => absurd h (by simp [cntP]), fun x h => (by cases h), .nil, fun x h => (by cases h)⟩
theorem okT_one {x : Lk} (h : x.may = true) : OkT [x] [] := by
  refine ⟨fun y hy => by rw [List.mem_singleton.1 hy]; exact h, by simp, fun k _ _ => ?_, fun x h => (by cases h), .nil, fun x h => (by cases h)⟩
  exact Nat.le_trans (cntP_le _ _ _) (Nat.le_refl _)
/-- the first that asks -/
theorem ask_first {x : Lk} {h' wt' : List Lk} {act : Int} (R : AskRel [] [] x h' wt' act) : h' = [x] ∧ wt' = [] ∧ act = 0 := by
  have hm := mode_bd x
  have h0 : settledR [] [] x = (false, 0) := by
    unfold settledR
    rw [if_neg (by show ¬ x.mode ≤ 0; omega), if_neg (by simp)]
  have ha : aheadR [] [] x = [] := by
    unfold aheadR agR; simp [nf]
  rcases R with ⟨h1, -, -⟩ | ⟨-, h1⟩
  · rw [h0] at h1; cases h1
  · rcases h1 with ⟨-, ha2, hw, h2⟩ | ⟨h2, -⟩ | ⟨h2, -⟩
    · rcases h2 with ⟨k, q, hq, -⟩ | ⟨-, h3⟩
      · cases hq
      · exact ⟨h3, hw, ha2⟩
    · exact absurd ha h2
    · exact absurd ha h2
theorem ask_fits {h' wt' : List Lk} {act : Int} (R : AskRel [askL 5 false] [] (askL 7 false) h' wt' act) : act = 0 := by
  rcases R with ⟨h1, -, -⟩ | ⟨-, h1⟩
  · rw [show settledR [askL 5 false] [] (askL 7 false) = (false, 0) by decide] at h1; cases h1
  · rcases h1 with ⟨-, ha2, -⟩ | ⟨h2, -⟩ | ⟨h2, -⟩
    · exact ha2
    · exact absurd (by decide) h2
    · exact absurd (by decide) h2
theorem ask_waits {h' wt' : List Lk} {act : Int} (R : AskRel [askL 5 true] [] (askL 3 true) h' wt' act) : act = 1 := by
  rcases R with ⟨h1, -, -⟩ | ⟨-, h1⟩
  · rw [show settledR [askL 5 true] [] (askL 3 true) = (false, 0) by decide] at h1; cases h1
  · rcases h1 with ⟨h2, -⟩ | ⟨-, h2, -⟩ | ⟨-, -, h2, -⟩
    · exact absurd h2 (by decide)
    · exact absurd (by decide) h2
    · exact h2
theorem ask_dies {h' wt' : List Lk} {act : Int} (R : AskRel [askL 5 true] [] (askL 7 true) h' wt' act) : act = 2 := by
  rcases R with ⟨h1, -, -⟩ | ⟨-, h1⟩
  · rw [show settledR [askL 5 true] [] (askL 7 true) = (false, 0) by decide] at h1; cases h1
  · rcases h1 with ⟨h2, -⟩ | ⟨-, -, h2, -⟩ | ⟨-, h2, -⟩
    · exact absurd h2 (by decide)
    · exact h2
    · exact absurd h2 (by decide)
theorem askFirst_any (x : Lk) (hx : x.may = true) (w : World) : Calls Try.prog 7 #[tabV none none ([] : List Lk).length 0 ([] : List Lk).length 0, .agg x.cellsL.toArray] w fun e w' => ∃ a1 a2 c1 c2 lo1 hi1 lo2 hi2, e = .returned (.tuple #[.agg #[.slice a1 1 c1, .slice a2 0 c2], .int .i8 0, .int .i64 0]) ∧
    Mem w w' [rowE lo1 hi1 37 5 (.slice a1 1 c1) 1 (lcells [x]), rowE lo2 hi2 37 5 (.slice a2 0 c2) 0 (lcells [])] := by
  refine (ask_any none none 0 0 [] [] x w (Rd.nil _ _ _ _) (Rd.nil _ _ _ _) (by decide) (by decide)).mono fun e w' h => ?_
  obtain ⟨er, act, v, h', wt', rfl, hN, hc⟩ := h
  obtain ⟨rfl, rfl, rfl, rfl⟩ : er = 0 ∧ h' = [x] ∧ wt' = [] ∧ act = 0 := by
    rcases hc with ⟨h1, -, R⟩ | ⟨-, h2, -⟩
    · exact ⟨h1, ask_first R⟩
    · exact absurd ⟨okT_nil, hx⟩ h2
  obtain ⟨a1, a2, c1, c2, lo1, hi1, lo2, hi2, rfl, M⟩ := hN
  exact ⟨a1, a2, c1, c2, lo1, hi1, lo2, hi2, rfl, M⟩
theorem askThen_any (y x : Lk) (act : Int) (hy : y.may = true) (hx : x.may = true) (hR : ∀ {h' wt' : List Lk} {b : Int}, AskRel [y] [] x h' wt' b → b = act) (ha wa : Option Addr) (hc wc : Nat) (w : World) (hv : Ls 0 w.heap.size w (.slice ha [y].length hc) [y]) (hu : Ls 0 w.heap.size w (.slice wa ([] : List Lk).length wc) []) :
    Calls Try.prog 7 #[tabV ha wa [y].length hc ([] : List Lk).length wc, .agg x.cellsL.toArray] w fun e w' => ∃ a1 a2 n1 n2 c1 c2, e = .returned (.tuple #[.agg #[.slice a1 n1 c1, .slice a2 n2 c2], .int .i8 act, .int .i64 0]) ∧ Below w.heap.size w w' := by
  refine (ask_any ha wa hc wc [y] [] x w hv hu (by simp) (by simp)).mono fun e w' h => ?_
  obtain ⟨er, b, v, h', wt', rfl, hN, hc⟩ := h
  obtain ⟨rfl, rfl⟩ : er = 0 ∧ b = act := by
    rcases hc with ⟨h1, -, R⟩ | ⟨-, h2, -⟩
    · exact ⟨h1, hR R⟩
    · exact absurd ⟨okT_one hy, hx⟩ h2
  obtain ⟨a1, a2, c1, c2, lo1, hi1, lo2, hi2, rfl, M⟩ := hN
  exact ⟨a1, a2, _, _, c1, c2, rfl, M.below⟩
set_option maxHeartbeats 4000000 in
theorem wakes13_any (w : World) : Calls Try.prog 6 #[] w fun e w' => e = .returned (.bool true) ∧ Below w.heap.size w w' := by
  have M := Mem.start w
  refine calls_enter Try.func6 rfl 88 rfl rfl ?_; intro a S
  refine nxD ?_
  refine st_go [1] S rfl (by kernel_rfl) ?_; clear S a; intro a S
  refine nxA ?_
  refine st_y S rfl rfl rfl (y_build (ps := []) (pl := [(0, 1), (1, 1)]) (z := [.slice none 0 0, .slice none 0 0]) (cs := [_, _]) S (by kernel_rfl) rfl (rfl)) ?_; clear S a; intro a S
  refine st_call (xs := [(Operand.const (Value.int IntKind.i64 5)), (Operand.const (Value.bool false))]) S (enters_of Try.func13 (by decide) rfl) rfl rfl rfl (askL_any 5 false _) ?_
  rintro _ w1 ⟨rfl, hK⟩; refine ⟨_, rfl, ?_⟩; clear S a; intro a S; replace M := M.grow hK
  refine st_call (xs := [(Operand.tmp 17), (Operand.tmp 18)]) S (enters_of Try.func7 (by decide) rfl) rfl rfl rfl (askFirst_any (askL 5 false) (by decide) _) ?_
  rintro _ w2 ⟨a1, a2, c1, c2, lo1, hi1, lo2, hi2, rfl, M1⟩; refine ⟨_, rfl, ?_⟩; clear S a; intro a S; replace M := M.join M1; clear M1
  simp only [List.cons_append, List.nil_append] at M
  refine st_go [1, 1, 1, 1] S rfl (by kernel_rfl) ?_; clear S a; intro a S
  refine st_alloc S M rfl rfl #[.slice none 0 0, .slice none 0 0] (by kernel_rfl) ?_; clear S M a; intro a w3 bT S M hB
  refine st_store (sz := 2) (us := [_, _]) S M 0 rfl (by kernel_rfl) rfl rfl rfl rfl rfl rfl (by first | decide | (simp; done) | (simp; omega)) ?_; clear M; intro w4 M
  simp only [putL, List.set_cons_zero, List.set_cons_succ, Nat.reduceAdd] at M
  refine st_go [1, 1] S rfl (by kernel_rfl) ?_; clear S a; intro a S
  refine nxC ?_
  refine wp_cut (fun a w' => Sees 88 a [(1, .pointer (some ⟨bT, 0, none⟩)), (2, .int .i8 0), (5, .int .i8 0)] ∧ Mem w w' [.blk bT #[.slice a1 1 c1, .slice a2 0 c2] 30]) ?_ ?_
  · skip
    refine wp_regionK [8] #[false, false, false, false, false, false, false, false, false, false, false] rfl M (by kernel_rfl) ?_; clear M; intro w5 M
    refine k_read (listed' := #[true, false, false, false, false, false, false, false, false, false, false]) 0 S rfl rfl rfl rfl (by kernel_rfl) rfl (fun _ d _ _ _ h => by cases d <;> exact h) (fun w hW => have M := M.grow hW; y_loadAgg (cs := [_, _]) S (by kernel_rfl) rfl rfl (M.cellsAt (k := 2) 0 rfl rfl)) ?_; clear S a; intro a S
    refine k_two (l1 := #[true, true, false, false, false, false, false, false, false, false, false]) (l2 := #[true, false, false, false, false, false, false, true, false, false, false]) 1 7 rfl rfl (by kernel_rfl) rfl rfl ?_ ?_
    · skip
      refine st_call (xs := [(Operand.const (Value.int IntKind.i64 7)), (Operand.const (Value.bool false))]) S (enters_of Try.func13 (by decide) rfl) rfl rfl rfl (askL_any 7 false _) ?_
      rintro _ w6 ⟨rfl, hK⟩; refine ⟨_, rfl, ?_⟩; clear S a; intro a S; replace M := M.grow hK
      refine wpList_nil ?_; refine then_normal ?_; refine ⟨fun _ => hK, ?_⟩
      refine k_two (l1 := #[true, true, true, false, false, false, false, false, false, false, false]) (l2 := #[true, true, false, false, false, false, false, true, false, false, false]) 2 7 rfl rfl (by kernel_rfl) rfl rfl ?_ ?_
      · skip
        refine st_call (xs := [(Operand.tmp 24), (Operand.tmp 25)]) S (enters_of Try.func7 (by decide) rfl) rfl rfl rfl (askThen_any (askL 5 false) (askL 7 false) 0 (by decide) (by decide) ask_fits a1 a2 c1 c2 _ (M.readAll 1 rfl (by decide)) (M.readAll 2 rfl (by decide))) ?_
        rintro _ w7 ⟨d1, d2, m1, m2, e1, e2, rfl, hK⟩; refine ⟨_, rfl, ?_⟩; clear S a; intro a S; replace M := M.grow hK
        refine wpList_nil ?_; refine then_normal ?_; refine ⟨fun _ => hK, ?_⟩
        refine k_pure (listed' := #[true, true, true, true, false, false, false, false, false, false, false]) 3 S rfl rfl rfl rfl (by kernel_rfl) rfl (fun _ d _ _ _ h => by cases d <;> exact h) (fun w => y_move S rfl) ?_; clear S a; intro a S
        refine k_pure (listed' := #[true, true, true, true, true, false, false, false, false, false, false]) 4 S rfl rfl rfl rfl (by kernel_rfl) rfl (fun _ d _ _ _ h => by cases d <;> exact h) (fun w => y_extract S rfl rfl) ?_; clear S a; intro a S
        refine k_pure (listed' := #[true, true, true, true, true, true, false, false, false, false, false]) 5 S rfl rfl rfl rfl (by kernel_rfl) rfl (fun _ d _ _ _ h => by cases d <;> exact h) (fun w => y_extract S rfl rfl) ?_; clear S a; intro a S
        refine k_pure (listed' := #[true, true, true, true, true, true, true, false, false, false, false]) 6 S rfl rfl rfl rfl (by kernel_rfl) rfl (fun _ d _ _ _ h => by cases d <;> exact h) (fun w => y_extract S rfl rfl) ?_; clear S a; intro a S
        refine k_one (listed' := #[true, true, true, true, true, true, true, true, false, false, false]) 7 rfl (by kernel_rfl) rfl ?_
        refine st_alloc S M rfl rfl #[.slice none 0 0, .slice none 0 0] (by kernel_rfl) ?_; clear S M a; intro a w8 bU S M hB
        refine wpList_nil ?_; refine then_normal ?_; refine ⟨fun _ => hB, ?_⟩
        refine k_one (listed' := #[true, true, true, true, true, true, true, true, true, false, false]) 8 rfl (by kernel_rfl) rfl ?_
        refine st_store (sz := 2) (us := [_, _]) S M 0 rfl (by kernel_rfl) rfl rfl rfl rfl rfl rfl (by first | decide | (simp; done) | (simp; omega)) ?_; clear M; intro w9 M
        simp only [putL, List.set_cons_zero, List.set_cons_succ, Nat.reduceAdd] at M
        refine wpList_nil ?_; refine then_normal ?_; refine ⟨fun h => absurd h (by decide), ?_⟩
        refine k_pure (listed' := #[true, true, true, true, true, true, true, true, true, true, false]) 9 S rfl rfl rfl rfl (by kernel_rfl) rfl (fun _ d _ _ _ h => by cases d <;> exact h) (fun w => y_assign S rfl) ?_; clear S a; intro a S
        refine k_pure (listed' := #[true, true, true, true, true, true, true, true, true, true, true]) 10 S rfl rfl rfl rfl (by kernel_rfl) rfl (fun _ d _ _ _ h => by cases d <;> exact h) (fun w => y_assign S rfl) ?_; clear S a; intro a S
        refine k_end (by kernel_rfl) ?_
        replace S := S.sub [(0, _), (1, _), (2, _), (5, _)] rfl
        refine then_normal ?_
        replace M := M.drop 0
        simp only [List.eraseIdx_cons_succ, List.eraseIdx_cons_zero] at M
        replace M := M.drop 1
        simp only [List.eraseIdx_cons_succ, List.eraseIdx_cons_zero] at M
        replace M := M.drop 1
        simp only [List.eraseIdx_cons_succ, List.eraseIdx_cons_zero] at M
        exact ⟨S.sub _ rfl, M⟩
      · skip
        refine st_alloc S M rfl rfl #[.slice none 0 0, .slice none 0 0] (by kernel_rfl) ?_; clear S M a; intro a w10 bU S M hB
        refine wpList_nil ?_; refine then_normal ?_; refine ⟨fun _ => hB, ?_⟩
        refine k_one (listed' := #[true, true, true, false, false, false, false, true, false, false, false]) 2 rfl (by kernel_rfl) rfl ?_
        refine st_call (xs := [(Operand.tmp 24), (Operand.tmp 25)]) S (enters_of Try.func7 (by decide) rfl) rfl rfl rfl (askThen_any (askL 5 false) (askL 7 false) 0 (by decide) (by decide) ask_fits a1 a2 c1 c2 _ (M.readAll 2 rfl (by decide)) (M.readAll 3 rfl (by decide))) ?_
        rintro _ w11 ⟨d1, d2, m1, m2, e1, e2, rfl, hK⟩; refine ⟨_, rfl, ?_⟩; clear S a; intro a S; replace M := M.grow hK
        refine wpList_nil ?_; refine then_normal ?_; refine ⟨fun _ => hK, ?_⟩
        refine k_pure (listed' := #[true, true, true, true, false, false, false, true, false, false, false]) 3 S rfl rfl rfl rfl (by kernel_rfl) rfl (fun _ d _ _ _ h => by cases d <;> exact h) (fun w => y_move S rfl) ?_; clear S a; intro a S
        refine k_pure (listed' := #[true, true, true, true, true, false, false, true, false, false, false]) 4 S rfl rfl rfl rfl (by kernel_rfl) rfl (fun _ d _ _ _ h => by cases d <;> exact h) (fun w => y_extract S rfl rfl) ?_; clear S a; intro a S
        refine k_pure (listed' := #[true, true, true, true, true, true, false, true, false, false, false]) 5 S rfl rfl rfl rfl (by kernel_rfl) rfl (fun _ d _ _ _ h => by cases d <;> exact h) (fun w => y_extract S rfl rfl) ?_; clear S a; intro a S
        refine k_pure (listed' := #[true, true, true, true, true, true, true, true, false, false, false]) 6 S rfl rfl rfl rfl (by kernel_rfl) rfl (fun _ d _ _ _ h => by cases d <;> exact h) (fun w => y_extract S rfl rfl) ?_; clear S a; intro a S
        refine k_one (listed' := #[true, true, true, true, true, true, true, true, true, false, false]) 8 rfl (by kernel_rfl) rfl ?_
        refine st_store (sz := 2) (us := [_, _]) S M 0 rfl (by kernel_rfl) rfl rfl rfl rfl rfl rfl (by first | decide | (simp; done) | (simp; omega)) ?_; clear M; intro w12 M
        simp only [putL, List.set_cons_zero, List.set_cons_succ, Nat.reduceAdd] at M
        refine wpList_nil ?_; refine then_normal ?_; refine ⟨fun h => absurd h (by decide), ?_⟩
        refine k_pure (listed' := #[true, true, true, true, true, true, true, true, true, true, false]) 9 S rfl rfl rfl rfl (by kernel_rfl) rfl (fun _ d _ _ _ h => by cases d <;> exact h) (fun w => y_assign S rfl) ?_; clear S a; intro a S
        refine k_pure (listed' := #[true, true, true, true, true, true, true, true, true, true, true]) 10 S rfl rfl rfl rfl (by kernel_rfl) rfl (fun _ d _ _ _ h => by cases d <;> exact h) (fun w => y_assign S rfl) ?_; clear S a; intro a S
        refine k_end (by kernel_rfl) ?_
        replace S := S.sub [(0, _), (1, _), (2, _), (5, _)] rfl
        refine then_normal ?_
        replace M := M.drop 0
        simp only [List.eraseIdx_cons_succ, List.eraseIdx_cons_zero] at M
        replace M := M.drop 1
        simp only [List.eraseIdx_cons_succ, List.eraseIdx_cons_zero] at M
        replace M := M.drop 1
        simp only [List.eraseIdx_cons_succ, List.eraseIdx_cons_zero] at M
        exact ⟨S.sub _ rfl, M⟩
    · skip
      refine st_alloc S M rfl rfl #[.slice none 0 0, .slice none 0 0] (by kernel_rfl) ?_; clear S M a; intro a w13 bU S M hB
      refine wpList_nil ?_; refine then_normal ?_; refine ⟨fun _ => hB, ?_⟩
      refine k_one (listed' := #[true, true, false, false, false, false, false, true, false, false, false]) 1 rfl (by kernel_rfl) rfl ?_
      refine st_call (xs := [(Operand.const (Value.int IntKind.i64 7)), (Operand.const (Value.bool false))]) S (enters_of Try.func13 (by decide) rfl) rfl rfl rfl (askL_any 7 false _) ?_
      rintro _ w14 ⟨rfl, hK⟩; refine ⟨_, rfl, ?_⟩; clear S a; intro a S; replace M := M.grow hK
      refine wpList_nil ?_; refine then_normal ?_; refine ⟨fun _ => hK, ?_⟩
      refine k_one (listed' := #[true, true, true, false, false, false, false, true, false, false, false]) 2 rfl (by kernel_rfl) rfl ?_
      refine st_call (xs := [(Operand.tmp 24), (Operand.tmp 25)]) S (enters_of Try.func7 (by decide) rfl) rfl rfl rfl (askThen_any (askL 5 false) (askL 7 false) 0 (by decide) (by decide) ask_fits a1 a2 c1 c2 _ (M.readAll 2 rfl (by decide)) (M.readAll 3 rfl (by decide))) ?_
      rintro _ w15 ⟨d1, d2, m1, m2, e1, e2, rfl, hK⟩; refine ⟨_, rfl, ?_⟩; clear S a; intro a S; replace M := M.grow hK
      refine wpList_nil ?_; refine then_normal ?_; refine ⟨fun _ => hK, ?_⟩
      refine k_pure (listed' := #[true, true, true, true, false, false, false, true, false, false, false]) 3 S rfl rfl rfl rfl (by kernel_rfl) rfl (fun _ d _ _ _ h => by cases d <;> exact h) (fun w => y_move S rfl) ?_; clear S a; intro a S
      refine k_pure (listed' := #[true, true, true, true, true, false, false, true, false, false, false]) 4 S rfl rfl rfl rfl (by kernel_rfl) rfl (fun _ d _ _ _ h => by cases d <;> exact h) (fun w => y_extract S rfl rfl) ?_; clear S a; intro a S
      refine k_pure (listed' := #[true, true, true, true, true, true, false, true, false, false, false]) 5 S rfl rfl rfl rfl (by kernel_rfl) rfl (fun _ d _ _ _ h => by cases d <;> exact h) (fun w => y_extract S rfl rfl) ?_; clear S a; intro a S
      refine k_pure (listed' := #[true, true, true, true, true, true, true, true, false, false, false]) 6 S rfl rfl rfl rfl (by kernel_rfl) rfl (fun _ d _ _ _ h => by cases d <;> exact h) (fun w => y_extract S rfl rfl) ?_; clear S a; intro a S
      refine k_one (listed' := #[true, true, true, true, true, true, true, true, true, false, false]) 8 rfl (by kernel_rfl) rfl ?_
      refine st_store (sz := 2) (us := [_, _]) S M 0 rfl (by kernel_rfl) rfl rfl rfl rfl rfl rfl (by first | decide | (simp; done) | (simp; omega)) ?_; clear M; intro w16 M
      simp only [putL, List.set_cons_zero, List.set_cons_succ, Nat.reduceAdd] at M
      refine wpList_nil ?_; refine then_normal ?_; refine ⟨fun h => absurd h (by decide), ?_⟩
      refine k_pure (listed' := #[true, true, true, true, true, true, true, true, true, true, false]) 9 S rfl rfl rfl rfl (by kernel_rfl) rfl (fun _ d _ _ _ h => by cases d <;> exact h) (fun w => y_assign S rfl) ?_; clear S a; intro a S
      refine k_pure (listed' := #[true, true, true, true, true, true, true, true, true, true, true]) 10 S rfl rfl rfl rfl (by kernel_rfl) rfl (fun _ d _ _ _ h => by cases d <;> exact h) (fun w => y_assign S rfl) ?_; clear S a; intro a S
      refine k_end (by kernel_rfl) ?_
      replace S := S.sub [(0, _), (1, _), (2, _), (5, _)] rfl
      refine then_normal ?_
      replace M := M.drop 0
      simp only [List.eraseIdx_cons_succ, List.eraseIdx_cons_zero] at M
      replace M := M.drop 1
      simp only [List.eraseIdx_cons_succ, List.eraseIdx_cons_zero] at M
      replace M := M.drop 1
      simp only [List.eraseIdx_cons_succ, List.eraseIdx_cons_zero] at M
      exact ⟨S.sub _ rfl, M⟩
  clear S a M; intro a wc
  rintro ⟨S, M⟩
  refine nxD ?_
  refine st_y S rfl rfl rfl (y_build (ps := []) (pl := [(0, 1), (1, 1)]) (z := [.slice none 0 0, .slice none 0 0]) (cs := [_, _]) S (by kernel_rfl) rfl (rfl)) ?_; clear S a; intro a S
  refine st_call (xs := [(Operand.const (Value.int IntKind.i64 5)), (Operand.const (Value.bool true))]) S (enters_of Try.func13 (by decide) rfl) rfl rfl rfl (askL_any 5 true _) ?_
  rintro _ w17 ⟨rfl, hK⟩; refine ⟨_, rfl, ?_⟩; clear S a; intro a S; replace M := M.grow hK
  refine st_call (xs := [(Operand.tmp 31), (Operand.tmp 32)]) S (enters_of Try.func7 (by decide) rfl) rfl rfl rfl (askFirst_any (askL 5 true) (by decide) _) ?_
  rintro _ w18 ⟨b1, b2, q1, q2, lo3, hi3, lo4, hi4, rfl, M1⟩; refine ⟨_, rfl, ?_⟩; clear S a; intro a S; replace M := M.join M1; clear M1
  simp only [List.cons_append, List.nil_append] at M
  refine st_go [1, 1, 1, 1] S rfl (by kernel_rfl) ?_; clear S a; intro a S
  refine st_alloc S M rfl rfl #[.slice none 0 0, .slice none 0 0] (by kernel_rfl) ?_; clear S M a; intro a w19 bX S M hB
  refine st_store (sz := 2) (us := [_, _]) S M 0 rfl (by kernel_rfl) rfl rfl rfl rfl rfl rfl (by first | decide | (simp; done) | (simp; omega)) ?_; clear M; intro w20 M
  simp only [putL, List.set_cons_zero, List.set_cons_succ, Nat.reduceAdd] at M
  refine st_go [1, 1] S rfl (by kernel_rfl) ?_; clear S a; intro a S
  refine nxC ?_
  refine wp_cut (fun a w' => Sees 88 a [(1, .pointer (some ⟨bT, 0, none⟩)), (2, .int .i8 0), (5, .int .i8 0), (7, .pointer (some ⟨bX, 0, none⟩)), (8, .int .i8 0), (11, .int .i8 1), (12, .int .i64 0)] ∧ Mem w w' [.blk bX #[.slice b1 1 q1, .slice b2 0 q2] 30, rowE lo3 hi3 37 5 (.slice b1 1 q1) 1 (lcells [askL 5 true]), rowE lo4 hi4 37 5 (.slice b2 0 q2) 0 (lcells []), .blk bT #[.slice a1 1 c1, .slice a2 0 c2] 30]) ?_ ?_
  · skip
    refine wp_regionK [8] #[false, false, false, false, false, false, false, false, false, false, false] rfl M (by kernel_rfl) ?_; clear M; intro w21 M
    refine k_read (listed' := #[true, false, false, false, false, false, false, false, false, false, false]) 0 S rfl rfl rfl rfl (by kernel_rfl) rfl (fun _ d _ _ _ h => by cases d <;> exact h) (fun w hW => have M := M.grow hW; y_loadAgg (cs := [_, _]) S (by kernel_rfl) rfl rfl (M.cellsAt (k := 2) 0 rfl rfl)) ?_; clear S a; intro a S
    refine k_two (l1 := #[true, true, false, false, false, false, false, false, false, false, false]) (l2 := #[true, false, false, false, false, false, false, true, false, false, false]) 1 7 rfl rfl (by kernel_rfl) rfl rfl ?_ ?_
    · skip
      refine st_call (xs := [(Operand.const (Value.int IntKind.i64 3)), (Operand.const (Value.bool true))]) S (enters_of Try.func13 (by decide) rfl) rfl rfl rfl (askL_any 3 true _) ?_
      rintro _ w22 ⟨rfl, hK⟩; refine ⟨_, rfl, ?_⟩; clear S a; intro a S; replace M := M.grow hK
      refine wpList_nil ?_; refine then_normal ?_; refine ⟨fun _ => hK, ?_⟩
      refine k_two (l1 := #[true, true, true, false, false, false, false, false, false, false, false]) (l2 := #[true, true, false, false, false, false, false, true, false, false, false]) 2 7 rfl rfl (by kernel_rfl) rfl rfl ?_ ?_
      · skip
        refine st_call (xs := [(Operand.tmp 38), (Operand.tmp 39)]) S (enters_of Try.func7 (by decide) rfl) rfl rfl rfl (askThen_any (askL 5 true) (askL 3 true) 1 (by decide) (by decide) ask_waits b1 b2 q1 q2 _ (M.readAll 1 rfl (by decide)) (M.readAll 2 rfl (by decide))) ?_
        rintro _ w23 ⟨d1, d2, m1, m2, e1, e2, rfl, hK⟩; refine ⟨_, rfl, ?_⟩; clear S a; intro a S; replace M := M.grow hK
        refine wpList_nil ?_; refine then_normal ?_; refine ⟨fun _ => hK, ?_⟩
        refine k_pure (listed' := #[true, true, true, true, false, false, false, false, false, false, false]) 3 S rfl rfl rfl rfl (by kernel_rfl) rfl (fun _ d _ _ _ h => by cases d <;> exact h) (fun w => y_move S rfl) ?_; clear S a; intro a S
        refine k_pure (listed' := #[true, true, true, true, true, false, false, false, false, false, false]) 4 S rfl rfl rfl rfl (by kernel_rfl) rfl (fun _ d _ _ _ h => by cases d <;> exact h) (fun w => y_extract S rfl rfl) ?_; clear S a; intro a S
        refine k_pure (listed' := #[true, true, true, true, true, true, false, false, false, false, false]) 5 S rfl rfl rfl rfl (by kernel_rfl) rfl (fun _ d _ _ _ h => by cases d <;> exact h) (fun w => y_extract S rfl rfl) ?_; clear S a; intro a S
        refine k_pure (listed' := #[true, true, true, true, true, true, true, false, false, false, false]) 6 S rfl rfl rfl rfl (by kernel_rfl) rfl (fun _ d _ _ _ h => by cases d <;> exact h) (fun w => y_extract S rfl rfl) ?_; clear S a; intro a S
        refine k_one (listed' := #[true, true, true, true, true, true, true, true, false, false, false]) 7 rfl (by kernel_rfl) rfl ?_
        refine st_alloc S M rfl rfl #[.slice none 0 0, .slice none 0 0] (by kernel_rfl) ?_; clear S M a; intro a w24 bU S M hB
        refine wpList_nil ?_; refine then_normal ?_; refine ⟨fun _ => hB, ?_⟩
        refine k_one (listed' := #[true, true, true, true, true, true, true, true, true, false, false]) 8 rfl (by kernel_rfl) rfl ?_
        refine st_store (sz := 2) (us := [_, _]) S M 0 rfl (by kernel_rfl) rfl rfl rfl rfl rfl rfl (by first | decide | (simp; done) | (simp; omega)) ?_; clear M; intro w25 M
        simp only [putL, List.set_cons_zero, List.set_cons_succ, Nat.reduceAdd] at M
        refine wpList_nil ?_; refine then_normal ?_; refine ⟨fun h => absurd h (by decide), ?_⟩
        refine k_pure (listed' := #[true, true, true, true, true, true, true, true, true, true, false]) 9 S rfl rfl rfl rfl (by kernel_rfl) rfl (fun _ d _ _ _ h => by cases d <;> exact h) (fun w => y_assign S rfl) ?_; clear S a; intro a S
        refine k_pure (listed' := #[true, true, true, true, true, true, true, true, true, true, true]) 10 S rfl rfl rfl rfl (by kernel_rfl) rfl (fun _ d _ _ _ h => by cases d <;> exact h) (fun w => y_assign S rfl) ?_; clear S a; intro a S
        refine k_end (by kernel_rfl) ?_
        replace S := S.sub [(1, _), (2, _), (5, _), (7, _), (8, _), (11, _), (12, _)] rfl
        refine then_normal ?_
        replace M := M.drop 0
        simp only [List.eraseIdx_cons_succ, List.eraseIdx_cons_zero] at M
        exact ⟨S.sub _ rfl, M⟩
      · skip
        refine st_alloc S M rfl rfl #[.slice none 0 0, .slice none 0 0] (by kernel_rfl) ?_; clear S M a; intro a w26 bU S M hB
        refine wpList_nil ?_; refine then_normal ?_; refine ⟨fun _ => hB, ?_⟩
        refine k_one (listed' := #[true, true, true, false, false, false, false, true, false, false, false]) 2 rfl (by kernel_rfl) rfl ?_
        refine st_call (xs := [(Operand.tmp 38), (Operand.tmp 39)]) S (enters_of Try.func7 (by decide) rfl) rfl rfl rfl (askThen_any (askL 5 true) (askL 3 true) 1 (by decide) (by decide) ask_waits b1 b2 q1 q2 _ (M.readAll 2 rfl (by decide)) (M.readAll 3 rfl (by decide))) ?_
        rintro _ w27 ⟨d1, d2, m1, m2, e1, e2, rfl, hK⟩; refine ⟨_, rfl, ?_⟩; clear S a; intro a S; replace M := M.grow hK
        refine wpList_nil ?_; refine then_normal ?_; refine ⟨fun _ => hK, ?_⟩
        refine k_pure (listed' := #[true, true, true, true, false, false, false, true, false, false, false]) 3 S rfl rfl rfl rfl (by kernel_rfl) rfl (fun _ d _ _ _ h => by cases d <;> exact h) (fun w => y_move S rfl) ?_; clear S a; intro a S
        refine k_pure (listed' := #[true, true, true, true, true, false, false, true, false, false, false]) 4 S rfl rfl rfl rfl (by kernel_rfl) rfl (fun _ d _ _ _ h => by cases d <;> exact h) (fun w => y_extract S rfl rfl) ?_; clear S a; intro a S
        refine k_pure (listed' := #[true, true, true, true, true, true, false, true, false, false, false]) 5 S rfl rfl rfl rfl (by kernel_rfl) rfl (fun _ d _ _ _ h => by cases d <;> exact h) (fun w => y_extract S rfl rfl) ?_; clear S a; intro a S
        refine k_pure (listed' := #[true, true, true, true, true, true, true, true, false, false, false]) 6 S rfl rfl rfl rfl (by kernel_rfl) rfl (fun _ d _ _ _ h => by cases d <;> exact h) (fun w => y_extract S rfl rfl) ?_; clear S a; intro a S
        refine k_one (listed' := #[true, true, true, true, true, true, true, true, true, false, false]) 8 rfl (by kernel_rfl) rfl ?_
        refine st_store (sz := 2) (us := [_, _]) S M 0 rfl (by kernel_rfl) rfl rfl rfl rfl rfl rfl (by first | decide | (simp; done) | (simp; omega)) ?_; clear M; intro w28 M
        simp only [putL, List.set_cons_zero, List.set_cons_succ, Nat.reduceAdd] at M
        refine wpList_nil ?_; refine then_normal ?_; refine ⟨fun h => absurd h (by decide), ?_⟩
        refine k_pure (listed' := #[true, true, true, true, true, true, true, true, true, true, false]) 9 S rfl rfl rfl rfl (by kernel_rfl) rfl (fun _ d _ _ _ h => by cases d <;> exact h) (fun w => y_assign S rfl) ?_; clear S a; intro a S
        refine k_pure (listed' := #[true, true, true, true, true, true, true, true, true, true, true]) 10 S rfl rfl rfl rfl (by kernel_rfl) rfl (fun _ d _ _ _ h => by cases d <;> exact h) (fun w => y_assign S rfl) ?_; clear S a; intro a S
        refine k_end (by kernel_rfl) ?_
        replace S := S.sub [(1, _), (2, _), (5, _), (7, _), (8, _), (11, _), (12, _)] rfl
        refine then_normal ?_
        replace M := M.drop 0
        simp only [List.eraseIdx_cons_succ, List.eraseIdx_cons_zero] at M
        exact ⟨S.sub _ rfl, M⟩
    · skip
      refine st_alloc S M rfl rfl #[.slice none 0 0, .slice none 0 0] (by kernel_rfl) ?_; clear S M a; intro a w29 bU S M hB
      refine wpList_nil ?_; refine then_normal ?_; refine ⟨fun _ => hB, ?_⟩
      refine k_one (listed' := #[true, true, false, false, false, false, false, true, false, false, false]) 1 rfl (by kernel_rfl) rfl ?_
      refine st_call (xs := [(Operand.const (Value.int IntKind.i64 3)), (Operand.const (Value.bool true))]) S (enters_of Try.func13 (by decide) rfl) rfl rfl rfl (askL_any 3 true _) ?_
      rintro _ w30 ⟨rfl, hK⟩; refine ⟨_, rfl, ?_⟩; clear S a; intro a S; replace M := M.grow hK
      refine wpList_nil ?_; refine then_normal ?_; refine ⟨fun _ => hK, ?_⟩
      refine k_one (listed' := #[true, true, true, false, false, false, false, true, false, false, false]) 2 rfl (by kernel_rfl) rfl ?_
      refine st_call (xs := [(Operand.tmp 38), (Operand.tmp 39)]) S (enters_of Try.func7 (by decide) rfl) rfl rfl rfl (askThen_any (askL 5 true) (askL 3 true) 1 (by decide) (by decide) ask_waits b1 b2 q1 q2 _ (M.readAll 2 rfl (by decide)) (M.readAll 3 rfl (by decide))) ?_
      rintro _ w31 ⟨d1, d2, m1, m2, e1, e2, rfl, hK⟩; refine ⟨_, rfl, ?_⟩; clear S a; intro a S; replace M := M.grow hK
      refine wpList_nil ?_; refine then_normal ?_; refine ⟨fun _ => hK, ?_⟩
      refine k_pure (listed' := #[true, true, true, true, false, false, false, true, false, false, false]) 3 S rfl rfl rfl rfl (by kernel_rfl) rfl (fun _ d _ _ _ h => by cases d <;> exact h) (fun w => y_move S rfl) ?_; clear S a; intro a S
      refine k_pure (listed' := #[true, true, true, true, true, false, false, true, false, false, false]) 4 S rfl rfl rfl rfl (by kernel_rfl) rfl (fun _ d _ _ _ h => by cases d <;> exact h) (fun w => y_extract S rfl rfl) ?_; clear S a; intro a S
      refine k_pure (listed' := #[true, true, true, true, true, true, false, true, false, false, false]) 5 S rfl rfl rfl rfl (by kernel_rfl) rfl (fun _ d _ _ _ h => by cases d <;> exact h) (fun w => y_extract S rfl rfl) ?_; clear S a; intro a S
      refine k_pure (listed' := #[true, true, true, true, true, true, true, true, false, false, false]) 6 S rfl rfl rfl rfl (by kernel_rfl) rfl (fun _ d _ _ _ h => by cases d <;> exact h) (fun w => y_extract S rfl rfl) ?_; clear S a; intro a S
      refine k_one (listed' := #[true, true, true, true, true, true, true, true, true, false, false]) 8 rfl (by kernel_rfl) rfl ?_
      refine st_store (sz := 2) (us := [_, _]) S M 0 rfl (by kernel_rfl) rfl rfl rfl rfl rfl rfl (by first | decide | (simp; done) | (simp; omega)) ?_; clear M; intro w32 M
      simp only [putL, List.set_cons_zero, List.set_cons_succ, Nat.reduceAdd] at M
      refine wpList_nil ?_; refine then_normal ?_; refine ⟨fun h => absurd h (by decide), ?_⟩
      refine k_pure (listed' := #[true, true, true, true, true, true, true, true, true, true, false]) 9 S rfl rfl rfl rfl (by kernel_rfl) rfl (fun _ d _ _ _ h => by cases d <;> exact h) (fun w => y_assign S rfl) ?_; clear S a; intro a S
      refine k_pure (listed' := #[true, true, true, true, true, true, true, true, true, true, true]) 10 S rfl rfl rfl rfl (by kernel_rfl) rfl (fun _ d _ _ _ h => by cases d <;> exact h) (fun w => y_assign S rfl) ?_; clear S a; intro a S
      refine k_end (by kernel_rfl) ?_
      replace S := S.sub [(1, _), (2, _), (5, _), (7, _), (8, _), (11, _), (12, _)] rfl
      refine then_normal ?_
      replace M := M.drop 0
      simp only [List.eraseIdx_cons_succ, List.eraseIdx_cons_zero] at M
      exact ⟨S.sub _ rfl, M⟩
  clear S a M; intro a wc
  rintro ⟨S, M⟩
  refine wp_cut (fun a w' => Sees 88 a [(1, .pointer (some ⟨bT, 0, none⟩)), (2, .int .i8 0), (5, .int .i8 0), (8, .int .i8 0), (11, .int .i8 1), (12, .int .i64 0), (14, .int .i8 2), (15, .int .i64 0)] ∧ Mem w w' [.blk bT #[.slice a1 1 c1, .slice a2 0 c2] 30]) ?_ ?_
  · skip
    refine wp_regionK [8] #[false, false, false, false, false, false, false, false, false, false, false] rfl M (by kernel_rfl) ?_; clear M; intro w33 M
    refine k_read (listed' := #[true, false, false, false, false, false, false, false, false, false, false]) 0 S rfl rfl rfl rfl (by kernel_rfl) rfl (fun _ d _ _ _ h => by cases d <;> exact h) (fun w hW => have M := M.grow hW; y_loadAgg (cs := [_, _]) S (by kernel_rfl) rfl rfl (M.cellsAt (k := 2) 0 rfl rfl)) ?_; clear S a; intro a S
    refine k_two (l1 := #[true, true, false, false, false, false, false, false, false, false, false]) (l2 := #[true, false, false, false, false, false, false, true, false, false, false]) 1 7 rfl rfl (by kernel_rfl) rfl rfl ?_ ?_
    · skip
      refine st_call (xs := [(Operand.const (Value.int IntKind.i64 7)), (Operand.const (Value.bool true))]) S (enters_of Try.func13 (by decide) rfl) rfl rfl rfl (askL_any 7 true _) ?_
      rintro _ w34 ⟨rfl, hK⟩; refine ⟨_, rfl, ?_⟩; clear S a; intro a S; replace M := M.grow hK
      refine wpList_nil ?_; refine then_normal ?_; refine ⟨fun _ => hK, ?_⟩
      refine k_two (l1 := #[true, true, true, false, false, false, false, false, false, false, false]) (l2 := #[true, true, false, false, false, false, false, true, false, false, false]) 2 7 rfl rfl (by kernel_rfl) rfl rfl ?_ ?_
      · skip
        refine st_call (xs := [(Operand.tmp 45), (Operand.tmp 46)]) S (enters_of Try.func7 (by decide) rfl) rfl rfl rfl (askThen_any (askL 5 true) (askL 7 true) 2 (by decide) (by decide) ask_dies b1 b2 q1 q2 _ (M.readAll 1 rfl (by decide)) (M.readAll 2 rfl (by decide))) ?_
        rintro _ w35 ⟨d1, d2, m1, m2, e1, e2, rfl, hK⟩; refine ⟨_, rfl, ?_⟩; clear S a; intro a S; replace M := M.grow hK
        refine wpList_nil ?_; refine then_normal ?_; refine ⟨fun _ => hK, ?_⟩
        refine k_pure (listed' := #[true, true, true, true, false, false, false, false, false, false, false]) 3 S rfl rfl rfl rfl (by kernel_rfl) rfl (fun _ d _ _ _ h => by cases d <;> exact h) (fun w => y_move S rfl) ?_; clear S a; intro a S
        refine k_pure (listed' := #[true, true, true, true, true, false, false, false, false, false, false]) 4 S rfl rfl rfl rfl (by kernel_rfl) rfl (fun _ d _ _ _ h => by cases d <;> exact h) (fun w => y_extract S rfl rfl) ?_; clear S a; intro a S
        refine k_pure (listed' := #[true, true, true, true, true, true, false, false, false, false, false]) 5 S rfl rfl rfl rfl (by kernel_rfl) rfl (fun _ d _ _ _ h => by cases d <;> exact h) (fun w => y_extract S rfl rfl) ?_; clear S a; intro a S
        refine k_pure (listed' := #[true, true, true, true, true, true, true, false, false, false, false]) 6 S rfl rfl rfl rfl (by kernel_rfl) rfl (fun _ d _ _ _ h => by cases d <;> exact h) (fun w => y_extract S rfl rfl) ?_; clear S a; intro a S
        refine k_one (listed' := #[true, true, true, true, true, true, true, true, false, false, false]) 7 rfl (by kernel_rfl) rfl ?_
        refine st_alloc S M rfl rfl #[.slice none 0 0, .slice none 0 0] (by kernel_rfl) ?_; clear S M a; intro a w36 bU S M hB
        refine wpList_nil ?_; refine then_normal ?_; refine ⟨fun _ => hB, ?_⟩
        refine k_one (listed' := #[true, true, true, true, true, true, true, true, true, false, false]) 8 rfl (by kernel_rfl) rfl ?_
        refine st_store (sz := 2) (us := [_, _]) S M 0 rfl (by kernel_rfl) rfl rfl rfl rfl rfl rfl (by first | decide | (simp; done) | (simp; omega)) ?_; clear M; intro w37 M
        simp only [putL, List.set_cons_zero, List.set_cons_succ, Nat.reduceAdd] at M
        refine wpList_nil ?_; refine then_normal ?_; refine ⟨fun h => absurd h (by decide), ?_⟩
        refine k_pure (listed' := #[true, true, true, true, true, true, true, true, true, true, false]) 9 S rfl rfl rfl rfl (by kernel_rfl) rfl (fun _ d _ _ _ h => by cases d <;> exact h) (fun w => y_assign S rfl) ?_; clear S a; intro a S
        refine k_pure (listed' := #[true, true, true, true, true, true, true, true, true, true, true]) 10 S rfl rfl rfl rfl (by kernel_rfl) rfl (fun _ d _ _ _ h => by cases d <;> exact h) (fun w => y_assign S rfl) ?_; clear S a; intro a S
        refine k_end (by kernel_rfl) ?_
        refine then_normal ?_
        replace M := M.drop 0
        simp only [List.eraseIdx_cons_succ, List.eraseIdx_cons_zero] at M
        replace M := M.drop 0
        simp only [List.eraseIdx_cons_succ, List.eraseIdx_cons_zero] at M
        replace M := M.drop 0
        simp only [List.eraseIdx_cons_succ, List.eraseIdx_cons_zero] at M
        replace M := M.drop 0
        simp only [List.eraseIdx_cons_succ, List.eraseIdx_cons_zero] at M
        exact ⟨S.sub _ rfl, M⟩
      · skip
        refine st_alloc S M rfl rfl #[.slice none 0 0, .slice none 0 0] (by kernel_rfl) ?_; clear S M a; intro a w38 bU S M hB
        refine wpList_nil ?_; refine then_normal ?_; refine ⟨fun _ => hB, ?_⟩
        refine k_one (listed' := #[true, true, true, false, false, false, false, true, false, false, false]) 2 rfl (by kernel_rfl) rfl ?_
        refine st_call (xs := [(Operand.tmp 45), (Operand.tmp 46)]) S (enters_of Try.func7 (by decide) rfl) rfl rfl rfl (askThen_any (askL 5 true) (askL 7 true) 2 (by decide) (by decide) ask_dies b1 b2 q1 q2 _ (M.readAll 2 rfl (by decide)) (M.readAll 3 rfl (by decide))) ?_
        rintro _ w39 ⟨d1, d2, m1, m2, e1, e2, rfl, hK⟩; refine ⟨_, rfl, ?_⟩; clear S a; intro a S; replace M := M.grow hK
        refine wpList_nil ?_; refine then_normal ?_; refine ⟨fun _ => hK, ?_⟩
        refine k_pure (listed' := #[true, true, true, true, false, false, false, true, false, false, false]) 3 S rfl rfl rfl rfl (by kernel_rfl) rfl (fun _ d _ _ _ h => by cases d <;> exact h) (fun w => y_move S rfl) ?_; clear S a; intro a S
        refine k_pure (listed' := #[true, true, true, true, true, false, false, true, false, false, false]) 4 S rfl rfl rfl rfl (by kernel_rfl) rfl (fun _ d _ _ _ h => by cases d <;> exact h) (fun w => y_extract S rfl rfl) ?_; clear S a; intro a S
        refine k_pure (listed' := #[true, true, true, true, true, true, false, true, false, false, false]) 5 S rfl rfl rfl rfl (by kernel_rfl) rfl (fun _ d _ _ _ h => by cases d <;> exact h) (fun w => y_extract S rfl rfl) ?_; clear S a; intro a S
        refine k_pure (listed' := #[true, true, true, true, true, true, true, true, false, false, false]) 6 S rfl rfl rfl rfl (by kernel_rfl) rfl (fun _ d _ _ _ h => by cases d <;> exact h) (fun w => y_extract S rfl rfl) ?_; clear S a; intro a S
        refine k_one (listed' := #[true, true, true, true, true, true, true, true, true, false, false]) 8 rfl (by kernel_rfl) rfl ?_
        refine st_store (sz := 2) (us := [_, _]) S M 0 rfl (by kernel_rfl) rfl rfl rfl rfl rfl rfl (by first | decide | (simp; done) | (simp; omega)) ?_; clear M; intro w40 M
        simp only [putL, List.set_cons_zero, List.set_cons_succ, Nat.reduceAdd] at M
        refine wpList_nil ?_; refine then_normal ?_; refine ⟨fun h => absurd h (by decide), ?_⟩
        refine k_pure (listed' := #[true, true, true, true, true, true, true, true, true, true, false]) 9 S rfl rfl rfl rfl (by kernel_rfl) rfl (fun _ d _ _ _ h => by cases d <;> exact h) (fun w => y_assign S rfl) ?_; clear S a; intro a S
        refine k_pure (listed' := #[true, true, true, true, true, true, true, true, true, true, true]) 10 S rfl rfl rfl rfl (by kernel_rfl) rfl (fun _ d _ _ _ h => by cases d <;> exact h) (fun w => y_assign S rfl) ?_; clear S a; intro a S
        refine k_end (by kernel_rfl) ?_
        refine then_normal ?_
        replace M := M.drop 0
        simp only [List.eraseIdx_cons_succ, List.eraseIdx_cons_zero] at M
        replace M := M.drop 0
        simp only [List.eraseIdx_cons_succ, List.eraseIdx_cons_zero] at M
        replace M := M.drop 0
        simp only [List.eraseIdx_cons_succ, List.eraseIdx_cons_zero] at M
        replace M := M.drop 0
        simp only [List.eraseIdx_cons_succ, List.eraseIdx_cons_zero] at M
        exact ⟨S.sub _ rfl, M⟩
    · skip
      refine st_alloc S M rfl rfl #[.slice none 0 0, .slice none 0 0] (by kernel_rfl) ?_; clear S M a; intro a w41 bU S M hB
      refine wpList_nil ?_; refine then_normal ?_; refine ⟨fun _ => hB, ?_⟩
      refine k_one (listed' := #[true, true, false, false, false, false, false, true, false, false, false]) 1 rfl (by kernel_rfl) rfl ?_
      refine st_call (xs := [(Operand.const (Value.int IntKind.i64 7)), (Operand.const (Value.bool true))]) S (enters_of Try.func13 (by decide) rfl) rfl rfl rfl (askL_any 7 true _) ?_
      rintro _ w42 ⟨rfl, hK⟩; refine ⟨_, rfl, ?_⟩; clear S a; intro a S; replace M := M.grow hK
      refine wpList_nil ?_; refine then_normal ?_; refine ⟨fun _ => hK, ?_⟩
      refine k_one (listed' := #[true, true, true, false, false, false, false, true, false, false, false]) 2 rfl (by kernel_rfl) rfl ?_
      refine st_call (xs := [(Operand.tmp 45), (Operand.tmp 46)]) S (enters_of Try.func7 (by decide) rfl) rfl rfl rfl (askThen_any (askL 5 true) (askL 7 true) 2 (by decide) (by decide) ask_dies b1 b2 q1 q2 _ (M.readAll 2 rfl (by decide)) (M.readAll 3 rfl (by decide))) ?_
      rintro _ w43 ⟨d1, d2, m1, m2, e1, e2, rfl, hK⟩; refine ⟨_, rfl, ?_⟩; clear S a; intro a S; replace M := M.grow hK
      refine wpList_nil ?_; refine then_normal ?_; refine ⟨fun _ => hK, ?_⟩
      refine k_pure (listed' := #[true, true, true, true, false, false, false, true, false, false, false]) 3 S rfl rfl rfl rfl (by kernel_rfl) rfl (fun _ d _ _ _ h => by cases d <;> exact h) (fun w => y_move S rfl) ?_; clear S a; intro a S
      refine k_pure (listed' := #[true, true, true, true, true, false, false, true, false, false, false]) 4 S rfl rfl rfl rfl (by kernel_rfl) rfl (fun _ d _ _ _ h => by cases d <;> exact h) (fun w => y_extract S rfl rfl) ?_; clear S a; intro a S
      refine k_pure (listed' := #[true, true, true, true, true, true, false, true, false, false, false]) 5 S rfl rfl rfl rfl (by kernel_rfl) rfl (fun _ d _ _ _ h => by cases d <;> exact h) (fun w => y_extract S rfl rfl) ?_; clear S a; intro a S
      refine k_pure (listed' := #[true, true, true, true, true, true, true, true, false, false, false]) 6 S rfl rfl rfl rfl (by kernel_rfl) rfl (fun _ d _ _ _ h => by cases d <;> exact h) (fun w => y_extract S rfl rfl) ?_; clear S a; intro a S
      refine k_one (listed' := #[true, true, true, true, true, true, true, true, true, false, false]) 8 rfl (by kernel_rfl) rfl ?_
      refine st_store (sz := 2) (us := [_, _]) S M 0 rfl (by kernel_rfl) rfl rfl rfl rfl rfl rfl (by first | decide | (simp; done) | (simp; omega)) ?_; clear M; intro w44 M
      simp only [putL, List.set_cons_zero, List.set_cons_succ, Nat.reduceAdd] at M
      refine wpList_nil ?_; refine then_normal ?_; refine ⟨fun h => absurd h (by decide), ?_⟩
      refine k_pure (listed' := #[true, true, true, true, true, true, true, true, true, true, false]) 9 S rfl rfl rfl rfl (by kernel_rfl) rfl (fun _ d _ _ _ h => by cases d <;> exact h) (fun w => y_assign S rfl) ?_; clear S a; intro a S
      refine k_pure (listed' := #[true, true, true, true, true, true, true, true, true, true, true]) 10 S rfl rfl rfl rfl (by kernel_rfl) rfl (fun _ d _ _ _ h => by cases d <;> exact h) (fun w => y_assign S rfl) ?_; clear S a; intro a S
      refine k_end (by kernel_rfl) ?_
      refine then_normal ?_
      replace M := M.drop 0
      simp only [List.eraseIdx_cons_succ, List.eraseIdx_cons_zero] at M
      replace M := M.drop 0
      simp only [List.eraseIdx_cons_succ, List.eraseIdx_cons_zero] at M
      replace M := M.drop 0
      simp only [List.eraseIdx_cons_succ, List.eraseIdx_cons_zero] at M
      replace M := M.drop 0
      simp only [List.eraseIdx_cons_succ, List.eraseIdx_cons_zero] at M
      exact ⟨S.sub _ rfl, M⟩
  clear S a M; intro a wc
  rintro ⟨S, M⟩
  refine nxD ?_
  refine st_run [1, 1] S M rfl (by kernel_rfl) ?_; clear S a; intro a S
  refine st_y S rfl rfl rfl (y_lenS (E := 37) S rfl (by kernel_rfl)) ?_; clear S a; intro a S
  refine st_go [1, 1] S rfl (by kernel_rfl) ?_; clear S a; intro a S
  refine st_fi (t := 55) S rfl ?_ ?_
  · clear S; intro h55 S
    refine st_go [0, 0, 1, 1, 0, 0, 1, 1, 0, 0, 1, 1, 0, 0, 1, 1, 0, 0, 1, 1, 0, 0, 1, 1, 0, 0, 1, 1, 0, 0, 0, 1, 1] S rfl (by kernel_rfl) ?_; clear S a; intro a S
    replace S := S.sub [(1, _), (2, _), (5, _), (8, _), (11, _), (12, _), (14, _), (15, _), (0, _)] rfl
    refine nxC ?_
    refine wp_ret ?_
    refine end_one S rfl (res_tmp rfl) ?_
    first | exact ⟨rfl, M.below⟩ | (exfalso; omega) | (exfalso; clear S M; simp_all; done)
  clear S; intro h55 S
  refine st_go [1, 1, 1, 1] S rfl (by kernel_rfl) ?_; clear S a; intro a S
  refine st_fi (t := 59) S rfl ?_ ?_
  · clear S; intro h59 S
    refine st_go [0, 0, 1, 1, 0, 0, 1, 1, 0, 0, 1, 1, 0, 0, 1, 1, 0, 0, 1, 1, 0, 0, 1, 1, 0, 0, 0, 1, 1] S rfl (by kernel_rfl) ?_; clear S a; intro a S
    replace S := S.sub [(1, _), (2, _), (5, _), (8, _), (11, _), (12, _), (14, _), (15, _), (0, _)] rfl
    refine nxC ?_
    refine wp_ret ?_
    refine end_one S rfl (res_tmp rfl) ?_
    first | exact ⟨rfl, M.below⟩ | (exfalso; omega) | (exfalso; clear S M; simp_all; done)
  clear S; intro h59 S
  refine st_go [1, 1, 1, 1] S rfl (by kernel_rfl) ?_; clear S a; intro a S
  refine st_fi (t := 63) S rfl ?_ ?_
  · clear S; intro h63 S
    refine st_go [0, 0, 1, 1, 0, 0, 1, 1, 0, 0, 1, 1, 0, 0, 1, 1, 0, 0, 1, 1, 0, 0, 0, 1, 1] S rfl (by kernel_rfl) ?_; clear S a; intro a S
    replace S := S.sub [(1, _), (2, _), (5, _), (8, _), (11, _), (12, _), (14, _), (15, _), (0, _)] rfl
    refine nxC ?_
    refine wp_ret ?_
    refine end_one S rfl (res_tmp rfl) ?_
    first | exact ⟨rfl, M.below⟩ | (exfalso; omega) | (exfalso; clear S M; simp_all; done)
  clear S; intro h63 S
  refine st_go [1, 1, 1, 1] S rfl (by kernel_rfl) ?_; clear S a; intro a S
  refine st_fi (t := 67) S rfl ?_ ?_
  · clear S; intro h67 S
    refine st_go [0, 0, 1, 1, 0, 0, 1, 1, 0, 0, 1, 1, 0, 0, 1, 1, 0, 0, 0, 1, 1] S rfl (by kernel_rfl) ?_; clear S a; intro a S
    replace S := S.sub [(1, _), (2, _), (5, _), (8, _), (11, _), (12, _), (14, _), (15, _), (0, _)] rfl
    refine nxC ?_
    refine wp_ret ?_
    refine end_one S rfl (res_tmp rfl) ?_
    first | exact ⟨rfl, M.below⟩ | (exfalso; omega) | (exfalso; clear S M; simp_all; done)
  clear S; intro h67 S
  refine st_go [1, 1, 1, 1] S rfl (by kernel_rfl) ?_; clear S a; intro a S
  refine st_fi (t := 71) S rfl ?_ ?_
  · clear S; intro h71 S
    refine st_go [0, 0, 1, 1, 0, 0, 1, 1, 0, 0, 1, 1, 0, 0, 0, 1, 1] S rfl (by kernel_rfl) ?_; clear S a; intro a S
    replace S := S.sub [(1, _), (2, _), (5, _), (8, _), (11, _), (12, _), (14, _), (15, _), (0, _)] rfl
    refine nxC ?_
    refine wp_ret ?_
    refine end_one S rfl (res_tmp rfl) ?_
    first | exact ⟨rfl, M.below⟩ | (exfalso; omega) | (exfalso; clear S M; simp_all; done)
  clear S; intro h71 S
  refine st_go [1, 1, 1, 1] S rfl (by kernel_rfl) ?_; clear S a; intro a S
  refine st_fi (t := 75) S rfl ?_ ?_
  · clear S; intro h75 S
    refine st_go [0, 0, 1, 1, 0, 0, 1, 1, 0, 0, 0, 1, 1] S rfl (by kernel_rfl) ?_; clear S a; intro a S
    replace S := S.sub [(1, _), (2, _), (5, _), (8, _), (11, _), (12, _), (14, _), (15, _), (0, _)] rfl
    refine nxC ?_
    refine wp_ret ?_
    refine end_one S rfl (res_tmp rfl) ?_
    first | exact ⟨rfl, M.below⟩ | (exfalso; omega) | (exfalso; clear S M; simp_all; done)
  clear S; intro h75 S
  refine st_go [1, 1, 1, 1] S rfl (by kernel_rfl) ?_; clear S a; intro a S
  refine st_fi (t := 79) S rfl ?_ ?_
  · clear S; intro h79 S
    refine st_go [0, 0, 1, 1, 0, 0, 0, 1, 1] S rfl (by kernel_rfl) ?_; clear S a; intro a S
    replace S := S.sub [(1, _), (2, _), (5, _), (8, _), (11, _), (12, _), (14, _), (15, _), (0, _)] rfl
    refine nxC ?_
    refine wp_ret ?_
    refine end_one S rfl (res_tmp rfl) ?_
    first | exact ⟨rfl, M.below⟩ | (exfalso; omega) | (exfalso; clear S M; simp_all; done)
  clear S; intro h79 S
  refine st_go [1, 1, 1, 1] S rfl (by kernel_rfl) ?_; clear S a; intro a S
  refine st_fi (t := 83) S rfl ?_ ?_
  · clear S; intro h83 S
    refine st_go [0, 0, 0, 1, 1] S rfl (by kernel_rfl) ?_; clear S a; intro a S
    replace S := S.sub [(1, _), (2, _), (5, _), (8, _), (11, _), (12, _), (14, _), (15, _), (0, _)] rfl
    refine nxC ?_
    refine wp_ret ?_
    refine end_one S rfl (res_tmp rfl) ?_
    first | exact ⟨rfl, M.below⟩ | (exfalso; omega) | (exfalso; clear S M; simp_all; done)
  clear S; intro h83 S
  refine st_y S rfl rfl rfl (y_build (ps := [(0, (Operand.const (Value.int IntKind.i64 1)))]) (pl := [(0, 1), (1, 1), (2, 1)]) (z := [.int .i64 0, .int .i64 0, .int .i64 0]) (cs := [_, _, _]) S (by kernel_rfl) rfl (rfl)) ?_; clear S a; intro a S
  refine st_y S rfl rfl rfl (y_build (ps := [(0, (Operand.const (Value.int IntKind.i64 2)))]) (pl := [(0, 1), (1, 1), (2, 1)]) (z := [.int .i64 0, .int .i64 0, .int .i64 0]) (cs := [_, _, _]) S (by kernel_rfl) rfl (rfl)) ?_; clear S a; intro a S
  refine st_call (xs := [(Operand.tmp 84), (Operand.tmp 85)]) S (enters_of Try.func14 (by decide) rfl) rfl rfl rfl (older_any ⟨1, 0, 0⟩ ⟨2, 0, 0⟩ _) ?_
  rintro _ w45 ⟨rfl, hK⟩; refine ⟨_, rfl, ?_⟩; clear S a; intro a S; replace M := M.grow hK
  refine st_go [1, 1] S rfl (by kernel_rfl) ?_; clear S a; intro a S
  replace S := S.sub [(1, _), (2, _), (5, _), (8, _), (11, _), (12, _), (14, _), (15, _), (0, _)] rfl
  refine nxC ?_
  refine wp_ret ?_
  refine end_one S rfl (res_tmp rfl) ?_
  first | exact ⟨rfl, M.below⟩ | (exfalso; omega) | (exfalso; clear S M; simp_all; done)

end Go.Proofs.Ytcbofgcmfkcglaa
