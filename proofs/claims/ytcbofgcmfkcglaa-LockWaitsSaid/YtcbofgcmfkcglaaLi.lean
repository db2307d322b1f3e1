/-
  Package lock: a release of who is alone.
-/
import Derived.Test.YtcbofgcmfkcglaaLh
namespace Go.Proofs.Ytcbofgcmfkcglaa
open Go.RowKit Go.Sort

abbrev zHB : Array Value := (List.replicate 32 (Value.slice none 0 0)).toArray
set_option maxHeartbeats 4000000 in
theorem relAlone_any (ha wa : Option Addr) (hc wc : Nat) (h : List Lk) (n : Nm) (w : World) (hv : Ls 0 w.heap.size w (.slice ha h.length hc) h) (hu : Ls 0 w.heap.size w (.slice wa ([] : List Lk).length wc) []) (hl : h.length ≤ 1000) (hok : OkT h []) (hall : ∀ q ∈ h, q.name = n) :
    Calls Try.prog 9 #[tabV ha wa h.length hc ([] : List Lk).length wc, .agg n.cells] w fun e w' => ∃ v, e = .returned (.tuple #[v, .slice none 0 0, .int .i64 0]) ∧ NewT [] [] w w' v := by
  have M := Mem.start w
  have hfil : h.filter (fun q => !q.name.eqb n) = [] := by
    rw [List.filter_eq_nil_iff]; intro q hq
    rw [hall q hq, Nm.eqb_iff.2 rfl]; decide
  refine calls_enter Try.func9 rfl 132 rfl rfl ?_; intro a S
  refine nxD ?_
  refine st_box S M rfl rfl rfl #[_, _] rfl ?_; clear S M a; intro a w1 bT S M hB
  refine st_box S M rfl rfl rfl #[_, _, _] rfl ?_; clear S M a; intro a w2 bN S M hB
  refine st_alloc S M rfl rfl #[.slice none 0 0, .slice none 0 0] (by kernel_rfl) ?_; clear S M a; intro a w3 bR S M hB
  refine st_go [1, 1] S rfl (by kernel_rfl) ?_; clear S a; intro a S
  refine nxC ?_
  refine wp_seq ?_
  refine nxD ?_
  refine st_y S rfl rfl rfl (y_loadAgg (cs := [_, _]) S (by kernel_rfl) rfl rfl (M.cellsAt (k := 2) 2 rfl rfl)) ?_; clear S a; intro a S
  refine st_call (xs := [(Operand.tmp 19)]) S (enters_of Try.func11 (by decide) rfl) rfl rfl rfl (check_any ha wa hc wc h [] _ (M.argW hv) (M.argW hu)) ?_
  rintro _ w4 ⟨er, rfl, hK, her⟩; obtain rfl := her.2 hok; refine ⟨_, rfl, ?_⟩; clear S a; intro a S; replace M := M.grow hK
  refine st_go [1] S rfl (by kernel_rfl) ?_; clear S a; intro a S
  refine nxC ?_
  refine st_if (t := 21) S rfl ?_ ?_
  · clear S; intro h21 S
    exact absurd rfl h21
  clear S; intro h21 S
  refine st_condF S rfl ?_
  refine wp_skip ?_
  refine nxE ?_
  refine st_y S rfl rfl rfl (y_makeFunc (fs := []) (cs := [(Operand.tmp 3)]) S rfl rfl) ?_; clear S a; intro a S
  refine st_go [1] S rfl (by kernel_rfl) ?_; clear S a; intro a S
  refine nxC ?_
  refine wp_cut (fun a w' => ∃ (bU : Nat) (va1 va2 : Option Addr) (vc1 vc2 lo1 hi1 lo2 hi2 : Nat), Sees 132 a [(4, .pointer (some ⟨bR, 0, none⟩)), (8, .pointer (some ⟨bU, 0, none⟩))] ∧ Mem w w' [.blk bU #[.slice va1 0 vc1, .slice va2 0 vc2] 30, rowE lo2 hi2 37 5 (.slice va2 0 vc2) 0 [], rowE lo1 hi1 37 5 (.slice va1 0 vc1) 0 [], .blk bR #[.slice none 0 0, .slice none 0 0] 30]) ?_ ?_
  · skip
    refine wp_regionK [10] #[false, false, false, false, false, false, false, false, false, false, false] rfl M (by kernel_rfl) ?_; clear M; intro w5 M
    refine k_pure (listed' := #[true, false, false, false, false, false, false, false, false, false, false]) 0 S rfl rfl rfl rfl (by kernel_rfl) rfl (fun _ d _ _ _ h => by cases d <;> exact h) (fun w => y_fieldAddr (k := 0) S (by kernel_rfl) rfl) ?_; clear S a; intro a S
    refine k_read (listed' := #[true, true, false, false, false, false, false, false, false, false, false]) 1 S rfl rfl rfl rfl (by kernel_rfl) rfl (fun _ d _ _ _ h => by cases d <;> exact h) (fun w hW => have M := M.grow hW; y_load S (by kernel_rfl) rfl (M.cell 2 rfl rfl)) ?_; clear S a; intro a S
    refine k_pure (listed' := #[true, true, true, false, false, false, false, false, false, false, false]) 2 S rfl rfl rfl rfl (by kernel_rfl) rfl (fun _ d _ _ _ h => by cases d <;> exact h) (fun w => y_move S rfl) ?_; clear S a; intro a S
    refine k_pure (listed' := #[true, true, true, false, true, false, false, false, false, false, false]) 4 S rfl rfl rfl rfl (by kernel_rfl) rfl (fun _ d _ _ _ h => by cases d <;> exact h) (fun w => y_fieldAddr (k := 1) S (by kernel_rfl) rfl) ?_; clear S a; intro a S
    refine k_read (listed' := #[true, true, true, false, true, true, false, false, false, false, false]) 5 S rfl rfl rfl rfl (by kernel_rfl) rfl (fun _ d _ _ _ h => by cases d <;> exact h) (fun w hW => have M := M.grow hW; y_load S (by kernel_rfl) rfl (M.cell 2 rfl rfl)) ?_; clear S a; intro a S
    refine k_pure (listed' := #[true, true, true, false, true, true, true, false, false, false, false]) 6 S rfl rfl rfl rfl (by kernel_rfl) rfl (fun _ d _ _ _ h => by cases d <;> exact h) (fun w => y_move S rfl) ?_; clear S a; intro a S
    refine k_two (l1 := #[true, true, true, true, true, true, true, false, false, false, false]) (l2 := #[true, true, true, false, true, true, true, false, false, true, false]) 3 9 rfl rfl (by kernel_rfl) rfl rfl ?_ ?_
    · skip
      refine st_call (xs := [(Operand.tmp 25), (Operand.tmp 26)]) S (enters_of Try.func28 (by decide) rfl) rfl rfl rfl (kept_any (fi := []) (ca := [.pointer (some ⟨bN, 0, none⟩)]) (enters_of Try.func27 (by decide) rfl) ha hc h (fun q => !q.name.eqb n) _ (M.argW hv) (by omega) (fun y _ w' hb => rel1_any y n bN w' ((hb.block bN (M.blk 1 rfl).lt).trans (M.blk 1 rfl)))) ?_
      rintro _ w6 ⟨va1, vc1, lo1, hi1, rfl, M1⟩; refine ⟨_, rfl, ?_⟩; clear S a; intro a S
      rw [hfil] at S M1
      have hK := M1.below
      replace M := M.join M1; clear M1
      simp only [List.cons_append, List.nil_append] at M
      refine wpList_nil ?_; refine then_normal ?_; refine ⟨fun _ => hK, ?_⟩
      refine k_two (l1 := #[true, true, true, true, true, true, true, true, false, false, false]) (l2 := #[true, true, true, true, true, true, true, false, false, true, false]) 7 9 rfl rfl (by kernel_rfl) rfl rfl ?_ ?_
      · skip
        refine st_call (xs := [(Operand.tmp 29), (Operand.tmp 30)]) S (enters_of Try.func28 (by decide) rfl) rfl rfl rfl (kept_any (fi := []) (ca := [.pointer (some ⟨bN, 0, none⟩)]) (enters_of Try.func27 (by decide) rfl) wa wc [] (fun q => !q.name.eqb n) _ (M.argW hu) (by simp) (fun y _ w' hb => rel1_any y n bN w' ((hb.block bN (M.blk 2 rfl).lt).trans (M.blk 2 rfl)))) ?_
        rintro _ w7 ⟨va2, vc2, lo2, hi2, rfl, M1⟩; refine ⟨_, rfl, ?_⟩; clear S a; intro a S
        rw [show ([] : List Lk).filter (fun q => !q.name.eqb n) = [] from rfl] at S M1
        have hK := M1.below
        replace M := M.join M1; clear M1
        simp only [List.cons_append, List.nil_append] at M
        refine wpList_nil ?_; refine then_normal ?_; refine ⟨fun _ => hK, ?_⟩
        refine k_pure (listed' := #[true, true, true, true, true, true, true, true, true, false, false]) 8 S rfl rfl rfl rfl (by kernel_rfl) rfl (fun _ d _ _ _ h => by cases d <;> exact h) (fun w => y_build (ps := [(0, (Operand.tmp 27)), (1, (Operand.tmp 31))]) (pl := [(0, 1), (1, 1)]) (z := [.slice none 0 0, .slice none 0 0]) (cs := [_, _]) S (by kernel_rfl) rfl (rfl)) ?_; clear S a; intro a S
        refine k_one (listed' := #[true, true, true, true, true, true, true, true, true, true, false]) 9 rfl (by kernel_rfl) rfl ?_
        refine st_alloc S M rfl rfl #[.slice none 0 0, .slice none 0 0] (by kernel_rfl) ?_; clear S M a; intro a w8 bU S M hB
        refine wpList_nil ?_; refine then_normal ?_; refine ⟨fun _ => hB, ?_⟩
        refine k_one (listed' := #[true, true, true, true, true, true, true, true, true, true, true]) 10 rfl (by kernel_rfl) rfl ?_
        refine st_store (sz := 2) (us := [_, _]) S M 0 rfl (by kernel_rfl) rfl rfl rfl rfl rfl rfl (by first | decide | (simp; done) | (simp; omega)) ?_; clear M; intro w9 M
        simp only [putL, List.set_cons_zero, List.set_cons_succ, Nat.reduceAdd] at M
        refine wpList_nil ?_; refine then_normal ?_; refine ⟨fun h => absurd h (by decide), ?_⟩
        refine k_end (by kernel_rfl) ?_
        refine then_normal ?_
        replace M := M.drop 5
        simp only [List.eraseIdx_cons_succ, List.eraseIdx_cons_zero] at M
        replace M := M.drop 4
        simp only [List.eraseIdx_cons_succ, List.eraseIdx_cons_zero] at M
        replace M := M.front 3 rfl
        simp only [List.eraseIdx_cons_succ, List.eraseIdx_cons_zero] at M
        replace M := M.front 3 rfl
        simp only [List.eraseIdx_cons_succ, List.eraseIdx_cons_zero] at M
        replace M := M.front 3 rfl
        simp only [List.eraseIdx_cons_succ, List.eraseIdx_cons_zero] at M
        replace M := M.front 3 rfl
        simp only [List.eraseIdx_cons_succ, List.eraseIdx_cons_zero] at M
        exact ⟨bU, va1, va2, vc1, vc2, lo1, hi1, lo2, hi2, S.sub _ rfl, M⟩
      · skip
        refine st_alloc S M rfl rfl #[.slice none 0 0, .slice none 0 0] (by kernel_rfl) ?_; clear S M a; intro a w10 bU S M hB
        refine wpList_nil ?_; refine then_normal ?_; refine ⟨fun _ => hB, ?_⟩
        refine k_one (listed' := #[true, true, true, true, true, true, true, true, false, true, false]) 7 rfl (by kernel_rfl) rfl ?_
        refine st_call (xs := [(Operand.tmp 29), (Operand.tmp 30)]) S (enters_of Try.func28 (by decide) rfl) rfl rfl rfl (kept_any (fi := []) (ca := [.pointer (some ⟨bN, 0, none⟩)]) (enters_of Try.func27 (by decide) rfl) wa wc [] (fun q => !q.name.eqb n) _ (M.argW hu) (by simp) (fun y _ w' hb => rel1_any y n bN w' ((hb.block bN (M.blk 3 rfl).lt).trans (M.blk 3 rfl)))) ?_
        rintro _ w11 ⟨va2, vc2, lo2, hi2, rfl, M1⟩; refine ⟨_, rfl, ?_⟩; clear S a; intro a S
        rw [show ([] : List Lk).filter (fun q => !q.name.eqb n) = [] from rfl] at S M1
        have hK := M1.below
        replace M := M.join M1; clear M1
        simp only [List.cons_append, List.nil_append] at M
        refine wpList_nil ?_; refine then_normal ?_; refine ⟨fun _ => hK, ?_⟩
        refine k_pure (listed' := #[true, true, true, true, true, true, true, true, true, true, false]) 8 S rfl rfl rfl rfl (by kernel_rfl) rfl (fun _ d _ _ _ h => by cases d <;> exact h) (fun w => y_build (ps := [(0, (Operand.tmp 27)), (1, (Operand.tmp 31))]) (pl := [(0, 1), (1, 1)]) (z := [.slice none 0 0, .slice none 0 0]) (cs := [_, _]) S (by kernel_rfl) rfl (rfl)) ?_; clear S a; intro a S
        refine k_one (listed' := #[true, true, true, true, true, true, true, true, true, true, true]) 10 rfl (by kernel_rfl) rfl ?_
        refine st_store (sz := 2) (us := [_, _]) S M 1 rfl (by kernel_rfl) rfl rfl rfl rfl rfl rfl (by first | decide | (simp; done) | (simp; omega)) ?_; clear M; intro w12 M
        simp only [putL, List.set_cons_zero, List.set_cons_succ, Nat.reduceAdd] at M
        refine wpList_nil ?_; refine then_normal ?_; refine ⟨fun h => absurd h (by decide), ?_⟩
        refine k_end (by kernel_rfl) ?_
        refine then_normal ?_
        replace M := M.drop 5
        simp only [List.eraseIdx_cons_succ, List.eraseIdx_cons_zero] at M
        replace M := M.drop 4
        simp only [List.eraseIdx_cons_succ, List.eraseIdx_cons_zero] at M
        replace M := M.front 3 rfl
        simp only [List.eraseIdx_cons_succ, List.eraseIdx_cons_zero] at M
        replace M := M.front 3 rfl
        simp only [List.eraseIdx_cons_succ, List.eraseIdx_cons_zero] at M
        replace M := M.front 2 rfl
        simp only [List.eraseIdx_cons_succ, List.eraseIdx_cons_zero] at M
        replace M := M.front 3 rfl
        simp only [List.eraseIdx_cons_succ, List.eraseIdx_cons_zero] at M
        exact ⟨bU, va1, va2, vc1, vc2, lo1, hi1, lo2, hi2, S.sub _ rfl, M⟩
    · skip
      refine st_alloc S M rfl rfl #[.slice none 0 0, .slice none 0 0] (by kernel_rfl) ?_; clear S M a; intro a w13 bU S M hB
      refine wpList_nil ?_; refine then_normal ?_; refine ⟨fun _ => hB, ?_⟩
      refine k_one (listed' := #[true, true, true, true, true, true, true, false, false, true, false]) 3 rfl (by kernel_rfl) rfl ?_
      refine st_call (xs := [(Operand.tmp 25), (Operand.tmp 26)]) S (enters_of Try.func28 (by decide) rfl) rfl rfl rfl (kept_any (fi := []) (ca := [.pointer (some ⟨bN, 0, none⟩)]) (enters_of Try.func27 (by decide) rfl) ha hc h (fun q => !q.name.eqb n) _ (M.argW hv) (by omega) (fun y _ w' hb => rel1_any y n bN w' ((hb.block bN (M.blk 2 rfl).lt).trans (M.blk 2 rfl)))) ?_
      rintro _ w14 ⟨va1, vc1, lo1, hi1, rfl, M1⟩; refine ⟨_, rfl, ?_⟩; clear S a; intro a S
      rw [hfil] at S M1
      have hK := M1.below
      replace M := M.join M1; clear M1
      simp only [List.cons_append, List.nil_append] at M
      refine wpList_nil ?_; refine then_normal ?_; refine ⟨fun _ => hK, ?_⟩
      refine k_one (listed' := #[true, true, true, true, true, true, true, true, false, true, false]) 7 rfl (by kernel_rfl) rfl ?_
      refine st_call (xs := [(Operand.tmp 29), (Operand.tmp 30)]) S (enters_of Try.func28 (by decide) rfl) rfl rfl rfl (kept_any (fi := []) (ca := [.pointer (some ⟨bN, 0, none⟩)]) (enters_of Try.func27 (by decide) rfl) wa wc [] (fun q => !q.name.eqb n) _ (M.argW hu) (by simp) (fun y _ w' hb => rel1_any y n bN w' ((hb.block bN (M.blk 3 rfl).lt).trans (M.blk 3 rfl)))) ?_
      rintro _ w15 ⟨va2, vc2, lo2, hi2, rfl, M1⟩; refine ⟨_, rfl, ?_⟩; clear S a; intro a S
      rw [show ([] : List Lk).filter (fun q => !q.name.eqb n) = [] from rfl] at S M1
      have hK := M1.below
      replace M := M.join M1; clear M1
      simp only [List.cons_append, List.nil_append] at M
      refine wpList_nil ?_; refine then_normal ?_; refine ⟨fun _ => hK, ?_⟩
      refine k_pure (listed' := #[true, true, true, true, true, true, true, true, true, true, false]) 8 S rfl rfl rfl rfl (by kernel_rfl) rfl (fun _ d _ _ _ h => by cases d <;> exact h) (fun w => y_build (ps := [(0, (Operand.tmp 27)), (1, (Operand.tmp 31))]) (pl := [(0, 1), (1, 1)]) (z := [.slice none 0 0, .slice none 0 0]) (cs := [_, _]) S (by kernel_rfl) rfl (rfl)) ?_; clear S a; intro a S
      refine k_one (listed' := #[true, true, true, true, true, true, true, true, true, true, true]) 10 rfl (by kernel_rfl) rfl ?_
      refine st_store (sz := 2) (us := [_, _]) S M 2 rfl (by kernel_rfl) rfl rfl rfl rfl rfl rfl (by first | decide | (simp; done) | (simp; omega)) ?_; clear M; intro w16 M
      simp only [putL, List.set_cons_zero, List.set_cons_succ, Nat.reduceAdd] at M
      refine wpList_nil ?_; refine then_normal ?_; refine ⟨fun h => absurd h (by decide), ?_⟩
      refine k_end (by kernel_rfl) ?_
      refine then_normal ?_
      replace M := M.drop 5
      simp only [List.eraseIdx_cons_succ, List.eraseIdx_cons_zero] at M
      replace M := M.drop 4
      simp only [List.eraseIdx_cons_succ, List.eraseIdx_cons_zero] at M
      replace M := M.front 3 rfl
      simp only [List.eraseIdx_cons_succ, List.eraseIdx_cons_zero] at M
      replace M := M.front 2 rfl
      simp only [List.eraseIdx_cons_succ, List.eraseIdx_cons_zero] at M
      replace M := M.front 2 rfl
      simp only [List.eraseIdx_cons_succ, List.eraseIdx_cons_zero] at M
      replace M := M.front 3 rfl
      simp only [List.eraseIdx_cons_succ, List.eraseIdx_cons_zero] at M
      exact ⟨bU, va1, va2, vc1, vc2, lo1, hi1, lo2, hi2, S.sub _ rfl, M⟩
  clear S a M; intro a wc
  rintro ⟨bU, va1, va2, vc1, vc2, lo1, hi1, lo2, hi2, S, M⟩
  refine nxD ?_
  refine st_makeMap (κ := Pl) S M rfl rfl ?_; clear S M a; intro a w17 bX S M hB
  refine st_go [1] S rfl (by kernel_rfl) ?_; clear S a; intro a S
  refine nxA ?_
  refine st_alloc S M rfl rfl #[.slice none 0 0, .slice none 0 0, .slice none 0 0, .slice none 0 0, .slice none 0 0, .slice none 0 0, .slice none 0 0, .slice none 0 0, .slice none 0 0, .slice none 0 0, .slice none 0 0, .slice none 0 0, .slice none 0 0, .slice none 0 0, .slice none 0 0, .slice none 0 0, .slice none 0 0, .slice none 0 0, .slice none 0 0, .slice none 0 0, .slice none 0 0, .slice none 0 0, .slice none 0 0, .slice none 0 0, .slice none 0 0, .slice none 0 0, .slice none 0 0, .slice none 0 0, .slice none 0 0, .slice none 0 0, .slice none 0 0, .slice none 0 0] (by kernel_rfl) ?_; clear S M a; intro a w18 bHB S M hB
  refine nxC ?_
  refine wp_seq ?_
  refine nxD ?_
  refine st_run [1, 3] S M rfl (by kernel_rfl) ?_; clear S a; intro a S
  refine st_y S rfl rfl rfl (y_lenS (E := 37) S rfl (by kernel_rfl)) ?_; clear S a; intro a S
  refine st_go [1] S rfl (by kernel_rfl) ?_; clear S a; intro a S
  refine nxC ?_
  refine wp_block ?_
  refine wp_loop_g (fun m a w' => m = 0 ∧ Sees 132 a [(4, .pointer (some ⟨bR, 0, none⟩)), (8, .pointer (some ⟨bU, 0, none⟩)), (36, .int .i64 0), (37, .int .i64 0)] ∧ Mem w w' [.blk bU #[.slice va1 0 vc1, .slice va2 0 vc2] 30, rowE lo2 hi2 37 5 (.slice va2 0 vc2) 0 [], rowE lo1 hi1 37 5 (.slice va1 0 vc1) 0 [], .blk bR #[.slice none 0 0, .slice none 0 0] 30]) (0) ?_ ?_
  · skip
    replace M := M.drop 0
    simp only [List.eraseIdx_cons_succ, List.eraseIdx_cons_zero] at M
    replace M := M.drop 0
    simp only [List.eraseIdx_cons_succ, List.eraseIdx_cons_zero] at M
    exact ⟨rfl, S.sub _ rfl, M⟩
  clear S M a; intro m a wl
  rintro ⟨rfl, S, M⟩
  refine nxD ?_
  refine st_go [1] S rfl (by kernel_rfl) ?_; clear S a; intro a S
  refine nxC ?_
  refine wp_seq ?_
  refine st_if (t := 38) S rfl ?_ ?_
  · clear S; intro h38 S
    exfalso; omega
  clear S; intro h38 S
  refine st_condF S rfl ?_
  refine wp_exit ?_
  refine then_exit ?_
  refine then_exit ?_
  refine block_hit ?_
  refine nxE ?_
  refine st_go [1] S rfl (by kernel_rfl) ?_; clear S a; intro a S
  refine nxA ?_
  refine st_makeMap (κ := Pl) S M rfl rfl ?_; clear S M a; intro a w19 bG S M hB
  refine st_alloc S M rfl rfl #[.map none] (by kernel_rfl) ?_; clear S M a; intro a w20 bGB S M hB
  refine st_store (sz := 1) (us := [_]) S M 0 rfl (by kernel_rfl) rfl rfl rfl rfl rfl rfl (by first | decide | (simp; done) | (simp; omega)) ?_; clear M; intro w21 M
  simp only [putL, List.set_cons_zero, List.set_cons_succ, Nat.reduceAdd] at M
  refine nxC ?_
  refine wp_seq ?_
  refine nxD ?_
  refine st_go [1] S rfl (by kernel_rfl) ?_; clear S a; intro a S
  refine nxC ?_
  refine wp_block ?_
  refine wp_loop_g (fun m a w' => ∃ (k : Nat), k ≤ 32 ∧ m = 32 - k ∧ Sees 132 a [(4, .pointer (some ⟨bR, 0, none⟩)), (8, .pointer (some ⟨bU, 0, none⟩)), (13, .slice none 0 0), (14, .pointer (some ⟨bGB, 0, none⟩)), (59, .int .i64 (k : Int))] ∧ Mem w w' [.blk bGB #[.map (some bG)] 72, mapX bG ([] : Mes Pl) 0, .blk bU #[.slice va1 0 vc1, .slice va2 0 vc2] 30, rowE lo2 hi2 37 5 (.slice va2 0 vc2) 0 [], rowE lo1 hi1 37 5 (.slice va1 0 vc1) 0 [], .blk bR #[.slice none 0 0, .slice none 0 0] 30]) (32) ?_ ?_
  · skip
    exact ⟨0, by omega, rfl, S.sub _ rfl, M⟩
  clear S M a; intro m a wl
  rintro ⟨k, hk, rfl, S, M⟩
  refine nxD ?_
  refine st_go [1] S rfl (by kernel_rfl) ?_; clear S a; intro a S
  refine nxC ?_
  refine wp_seq ?_
  refine st_fi (t := 60) S rfl ?_ ?_
  · clear S; intro h60 S
    refine st_condF S rfl ?_
    refine wp_exit ?_
    refine then_exit ?_
    refine then_exit ?_
    refine block_hit ?_
    refine nxE ?_
    refine st_run [2, 3] S M rfl (by kernel_rfl) ?_; clear S a; intro a S
    refine st_y S rfl rfl rfl (y_makeFunc (fs := []) (cs := [(Operand.tmp 14)]) S rfl rfl) ?_; clear S a; intro a S
    refine st_call (xs := [(Operand.tmp 126), (Operand.tmp 127)]) S (enters_of Try.func28 (by decide) rfl) rfl rfl rfl (kept_any (fi := []) (ca := [.pointer (some ⟨bGB, 0, none⟩)]) (enters_of Try.func31 (by decide) rfl) va2 vc2 [] (fun _ => true) _ (M.readAll 3 rfl (by decide)) (by simp) (fun y hy => by cases hy)) ?_
    rintro _ w25 ⟨va4, vc4, lo4, hi4, rfl, M1⟩; refine ⟨_, rfl, ?_⟩; clear S a; intro a S
    rw [show ([] : List Lk).filter (fun _ => true) = [] from rfl] at S M1
    replace M := M.join M1; clear M1
    simp only [List.cons_append, List.nil_append] at M
    refine st_go [2] S rfl (by kernel_rfl) ?_; clear S a; intro a S
    refine st_store (sz := 1) (us := [_]) S M 3 rfl (by kernel_rfl) rfl rfl rfl rfl rfl rfl (by first | decide | (simp; done) | (simp; omega)) ?_; clear M; intro w26 M
    simp only [putL, List.set_cons_zero, List.set_cons_succ, Nat.reduceAdd] at M
    refine nxA ?_
    refine st_y S rfl rfl rfl (y_loadAgg (cs := [_, _]) S (by kernel_rfl) rfl rfl (M.cellsAt (k := 2) 3 rfl rfl)) ?_; clear S a; intro a S
    refine st_go [1] S rfl (by kernel_rfl) ?_; clear S a; intro a S
    refine st_store (sz := 2) (us := [_, _]) S M 6 rfl (by kernel_rfl) rfl rfl rfl rfl rfl rfl (by first | decide | (simp; done) | (simp; omega)) ?_; clear M; intro w27 M
    simp only [putL, List.set_cons_zero, List.set_cons_succ, Nat.reduceAdd] at M
    refine st_go [1, 1] S rfl (by kernel_rfl) ?_; clear S a; intro a S
    refine nxC ?_
    refine wp_ret ?_
    refine end_three S rfl (res_agg (cs := [_, _]) (by kernel_rfl) rfl rfl (M.cellsAt (k := 2) 6 rfl rfl)) (res_tmp rfl) (res_tmp rfl) ?_
    skip
    replace M := M.front 5 rfl
    simp only [List.eraseIdx_cons_succ, List.eraseIdx_cons_zero] at M
    replace M := M.drop 2
    simp only [List.eraseIdx_cons_succ, List.eraseIdx_cons_zero] at M
    replace M := M.drop 2
    simp only [List.eraseIdx_cons_succ, List.eraseIdx_cons_zero] at M
    replace M := M.drop 2
    simp only [List.eraseIdx_cons_succ, List.eraseIdx_cons_zero] at M
    replace M := M.drop 2
    simp only [List.eraseIdx_cons_succ, List.eraseIdx_cons_zero] at M
    replace M := M.drop 2
    simp only [List.eraseIdx_cons_succ, List.eraseIdx_cons_zero] at M
    exact ⟨_, rfl, va1, va4, vc1, vc4, _, _, _, _, rfl, M⟩
  clear S; intro h60 S
  refine st_condT S rfl ?_
  refine wp_skip ?_
  refine then_normal ?_
  refine wp_seq ?_
  refine wp_block ?_
  refine nxD ?_
  refine st_go [1] S rfl (by kernel_rfl) ?_; clear S a; intro a S
  refine st_alloc S M rfl rfl #[.int .i64 0] (by kernel_rfl) ?_; clear S M a; intro a w22 bB S M hB
  refine st_store (sz := 1) (us := [_]) S M 0 rfl (by kernel_rfl) rfl rfl rfl rfl rfl rfl (by first | decide | (simp; done) | (simp; omega)) ?_; clear M; intro w23 M
  simp only [putL, List.set_cons_zero, List.set_cons_succ, Nat.reduceAdd] at M
  refine nxA ?_
  refine st_run [2, 4] S M rfl (by kernel_rfl) ?_; clear S a; intro a S
  refine st_y S rfl rfl rfl (y_makeFunc (fs := []) (cs := [(Operand.tmp 15)]) S rfl rfl) ?_; clear S a; intro a S
  refine st_call (xs := [(Operand.tmp 63), (Operand.tmp 64)]) S (enters_of Try.func28 (by decide) rfl) rfl rfl rfl (kept_any (fi := []) (ca := [.pointer (some ⟨bB, 0, none⟩)]) (enters_of Try.func29 (by decide) rfl) va2 vc2 [] (fun q => q.block == (k : Int)) _ (M.readAll 4 rfl (by decide)) (by simp) (fun y _ w' hb => rel2_any y (k : Int) bB w' ((hb.block bB (M.blk 0 rfl).lt).trans (M.blk 0 rfl)))) ?_
  rintro _ w24 ⟨va3, vc3, lo3, hi3, rfl, M1⟩; refine ⟨_, rfl, ?_⟩; clear S a; intro a S
  rw [show ([] : List Lk).filter (fun q => q.block == (k : Int)) = [] from rfl] at S M1
  replace M := M.join M1; clear M1
  simp only [List.cons_append, List.nil_append] at M
  refine st_y S rfl rfl rfl (y_lenS (E := 37) S rfl (by kernel_rfl)) ?_; clear S a; intro a S
  refine st_go [1] S rfl (by kernel_rfl) ?_; clear S a; intro a S
  refine nxC ?_
  refine wp_block ?_
  refine wp_loop_g (fun m a w' => m = 0 ∧ Sees 132 a [(4, .pointer (some ⟨bR, 0, none⟩)), (8, .pointer (some ⟨bU, 0, none⟩)), (13, .slice none 0 0), (14, .pointer (some ⟨bGB, 0, none⟩)), (59, .int .i64 (k : Int)), (66, .int .i64 0), (67, .int .i64 0)] ∧ Mem w w' [.blk bGB #[.map (some bG)] 72, mapX bG ([] : Mes Pl) 0, .blk bU #[.slice va1 0 vc1, .slice va2 0 vc2] 30, rowE lo2 hi2 37 5 (.slice va2 0 vc2) 0 [], rowE lo1 hi1 37 5 (.slice va1 0 vc1) 0 [], .blk bR #[.slice none 0 0, .slice none 0 0] 30]) (0) ?_ ?_
  · skip
    replace M := M.drop 0
    simp only [List.eraseIdx_cons_succ, List.eraseIdx_cons_zero] at M
    replace M := M.drop 0
    simp only [List.eraseIdx_cons_succ, List.eraseIdx_cons_zero] at M
    exact ⟨rfl, S.sub _ rfl, M⟩
  clear S M a; intro m a wl
  rintro ⟨rfl, S, M⟩
  refine nxD ?_
  refine st_go [1] S rfl (by kernel_rfl) ?_; clear S a; intro a S
  refine nxC ?_
  refine wp_seq ?_
  refine st_if (t := 68) S rfl ?_ ?_
  · clear S; intro h68 S
    exfalso; omega
  clear S; intro h68 S
  refine st_condF S rfl ?_
  refine wp_exit ?_
  refine then_exit ?_
  refine then_exit ?_
  refine block_hit ?_
  refine block_normal ?_
  refine nxF ?_
  (first | refine st_y S rfl rfl rfl (y_addN S rfl rfl (by omega)) ?_ | refine st_y S rfl rfl rfl (y_int S rfl rfl rfl) ?_); clear S a; intro a S
  refine st_go [1] S rfl (by kernel_rfl) ?_; clear S a; intro a S
  refine nxC ?_
  exact ⟨32 - (k + 1), by omega, k + 1, by omega, rfl, S.sub _ rfl, M⟩

end Go.Proofs.Ytcbofgcmfkcglaa
