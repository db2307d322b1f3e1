/-
  law06.JournalTails, walked.
-/
import Derived.Test.YtafejnbfgkkjkaaJl
import Derived.Test.YtafejnbfgkkjkaaJi
namespace Go.Proofs.Ytafejnbfgkkjkaa
open Go.RowKit Go.Sort

theorem perm_shift {α : Type} (X Y E : List α) : (X ++ (Y ++ E)).Perm (Y ++ (X ++ E)) := by
  rw [← List.append_assoc, ← List.append_assoc]; exact List.perm_append_comm.append_right E
set_option maxHeartbeats 4000000 in
theorem tailsLaw_any (t : Int) (v : Value) (xs : List (List UInt8)) (w : World) (hv : BRows w v xs) : Calls Try.prog 3 #[.int .i64 t, v] w fun e w' => e = .returned (.bool true) ∧ Below w.heap.size w w' := by
  have M := Mem.start w
  obtain ⟨vs, hv1, hv2⟩ := hv
  have hvl := hv1.1
  refine calls_enter Try.func3 rfl 140 rfl rfl ?_; intro a S
  refine nxD ?_
  refine st_go [1] S rfl (by kernel_rfl) ?_; clear S a; intro a S
  refine nxC ?_
  refine wp_seq ?_
  refine nxD ?_
  refine st_go [1] S rfl (by kernel_rfl) ?_; clear S a; intro a S
  refine st_y S rfl rfl rfl (y_lenR (E := 32) S rfl (M.arg hv1) (by kernel_rfl)) ?_; clear S a; intro a S
  refine st_go [1, 1] S rfl (by kernel_rfl) ?_; clear S a; intro a S
  refine st_if (t := 21) S rfl ?_ ?_
  · clear S; intro h21 S
    refine st_go [0, 0, 1, 1, 0, 0, 1] S rfl (by kernel_rfl) ?_; clear S a; intro a S
    refine nxC ?_
    refine st_condT S rfl ?_
    refine nxD ?_
    refine st_call (xs := []) S (enters_of Try.func7 (by decide) rfl) rfl rfl rfl (wakes06 _) ?_
    rintro _ w1 ⟨rfl, hK⟩; refine ⟨_, rfl, ?_⟩; clear S a; intro a S; replace M := M.grow hK
    refine st_go [1] S rfl (by kernel_rfl) ?_; clear S a; intro a S
    refine nxC ?_
    refine wp_ret ?_
    refine then_ret ?_
    refine end_one S rfl (res_tmp rfl) ?_
    exact ⟨rfl, M.below⟩
  clear S; intro h21 S
  refine st_go [1, 1, 1, 1] S rfl (by kernel_rfl) ?_; clear S a; intro a S
  refine st_if (t := 25) S rfl ?_ ?_
  · clear S; intro h25 S
    refine st_go [0, 0, 1] S rfl (by kernel_rfl) ?_; clear S a; intro a S
    refine nxC ?_
    refine st_condT S rfl ?_
    refine nxD ?_
    refine st_call (xs := []) S (enters_of Try.func7 (by decide) rfl) rfl rfl rfl (wakes06 _) ?_
    rintro _ w2 ⟨rfl, hK⟩; refine ⟨_, rfl, ?_⟩; clear S a; intro a S; replace M := M.grow hK
    refine st_go [1] S rfl (by kernel_rfl) ?_; clear S a; intro a S
    refine nxC ?_
    refine wp_ret ?_
    refine then_ret ?_
    refine end_one S rfl (res_tmp rfl) ?_
    exact ⟨rfl, M.below⟩
  clear S; intro h25 S
  refine st_go [1, 1, 1] S rfl (by kernel_rfl) ?_; clear S a; intro a S
  refine nxC ?_
  refine st_if (t := 28) S rfl ?_ ?_
  · clear S; intro h28 S
    refine st_condT S rfl ?_
    refine nxD ?_
    refine st_call (xs := []) S (enters_of Try.func7 (by decide) rfl) rfl rfl rfl (wakes06 _) ?_
    rintro _ w3 ⟨rfl, hK⟩; refine ⟨_, rfl, ?_⟩; clear S a; intro a S; replace M := M.grow hK
    refine st_go [1] S rfl (by kernel_rfl) ?_; clear S a; intro a S
    refine nxC ?_
    refine wp_ret ?_
    refine then_ret ?_
    refine end_one S rfl (res_tmp rfl) ?_
    exact ⟨rfl, M.below⟩
  clear S; intro h28 S
  refine st_condF S rfl ?_
  refine wp_skip ?_
  refine then_normal ?_
  refine wp_seq ?_
  have ht : 1 ≤ t ∧ t ≤ 1073741824 := by omega
  have hx20 : xs.length ≤ 20 := by omega
  refine wp_region_lit ?_
  refine st_call (xs := []) S (enters_of Try.func8 (by decide) rfl) rfl rfl rfl (new_any _) ?_
  rintro _ w4 ⟨b, E, rfl, hE, M1⟩; refine ⟨_, rfl, ?_⟩; clear S a; intro a S; replace M := M.join M1; clear M1
  rw [List.append_nil] at M
  refine st_go [1] S rfl (by kernel_rfl) ?_; clear S a; intro a S
  refine nxA ?_
  refine st_go [1, 1] S rfl (by kernel_rfl) ?_; clear S a; intro a S
  refine st_y S rfl rfl rfl (y_build (ps := [(0, (Operand.tmp 31)), (1, (Operand.tmp 32))]) (pl := [(0, 1), (1, 1)]) (z := [.int .i64 0, .int .i64 0]) (cs := [_, _]) S (by kernel_rfl) rfl (rfl)) ?_; clear S a; intro a S
  refine st_alloc S M rfl rfl #[.int .i64 0, .int .i64 0] (by kernel_rfl) ?_; clear S M a; intro a w5 bL S M hB
  refine st_store (sz := 2) (us := [_, _]) S M 0 rfl (by kernel_rfl) rfl rfl rfl rfl rfl rfl (by first | decide | (simp; done) | (simp; omega)) ?_; clear M; intro w6 M
  simp only [putL, List.set_cons_zero, List.set_cons_succ, Nat.reduceAdd] at M
  replace S := S.sub [(0, _), (1, _), (4, _), (28, _), (5, _), (6, _)] rfl
  refine nxA ?_
  refine st_go [1] S rfl (by kernel_rfl) ?_; clear S a; intro a S
  refine nxA ?_
  refine st_go [1] S rfl (by kernel_rfl) ?_; clear S a; intro a S
  refine nxC ?_
  refine wp_seq ?_
  refine nxD ?_
  refine st_go [1] S rfl (by kernel_rfl) ?_; clear S a; intro a S
  refine nxC ?_
  refine wp_block ?_
  refine wp_loop_g (fun m a w' => ∃ (i : Nat) (put : List (List UInt8)) (pvs : List Value) (S0 : DS) (E : List Ent) (ba : Option Addr) (bc : Nat) (pa : Option Addr) (pc lo hi lo2 hi2 : Nat), i ≤ xs.length ∧ m = xs.length - i ∧ JLog S0 t 1 put 0 ∧ PutV w pvs put ∧ DkE b S0 E ∧ Sees 140 a [(0, .int .i64 t), (1, v), (5, .pointer (some ⟨b, 0, none⟩)), (6, .pointer (some ⟨bL, 0, none⟩)), (7, .slice ba put.length bc), (8, .slice pa put.length pc), (9, .int .i64 (i : Int))] ∧ Mem w w' (rowE lo hi 3 1 (.slice ba put.length bc) put.length ((beginsL t put).map fun p => .int .i64 p.1) :: rowE lo2 hi2 32 1 (.slice pa put.length pc) put.length pvs :: .blk bL #[.int .i64 t, .int .i64 (JLog.nx t 1 put)] 27 :: E)) (xs.length) ?_ ?_
  · skip
    refine ⟨0, [], [], DS.new, E, none, 0, none, 0, w6.heap.size, w6.heap.size, w6.heap.size, w6.heap.size, Nat.zero_le _, rfl, JLog.start t 1, PutV.nil w, hE, S.sub _ rfl, ?_⟩
    have h0 : JLog.nx t 1 [] = t := by simp [JLog.nx, framesL]
    rw [h0]
    exact (M.rowNil 32 1).rowNil 3 1
  clear S M a; intro m a wl
  rintro ⟨i, put, pvs, S0, E, ba, bc, pa, pc, lo, hi, lo2, hi2, hi', rfl, J, hPv, hE, S, M⟩
  have hpl24 := J.puts
  refine wp_seq ?_
  refine nxD ?_
  refine st_go [1, 1] S rfl (by kernel_rfl) ?_; clear S a; intro a S
  refine st_y S rfl rfl rfl (y_lenR (E := 32) S rfl (M.arg hv1) (by kernel_rfl)) ?_; clear S a; intro a S
  refine st_go [1] S rfl (by kernel_rfl) ?_; clear S a; intro a S
  refine nxC ?_
  refine st_if (t := 37) S rfl ?_ ?_
  · clear S; intro h37 S
    refine st_condT S rfl ?_
    refine wp_skip ?_
    refine then_normal ?_
    refine wp_seq ?_
    refine wp_block ?_
    obtain ⟨x, hx⟩ : ∃ x, vs[i]? = some x := ⟨_, List.getElem?_eq_getElem (by omega)⟩
    obtain ⟨bs, hbs⟩ : ∃ bs, xs[i]? = some bs := ⟨_, List.getElem?_eq_getElem (by omega)⟩
    have hxb := hv2 i x bs hx hbs
    refine wp_cut (fun a w' => ∃ (n' er : Int) (S1 : DS) (E1 : List Ent) (bT : Nat), AppP t (JLog.nx t 1 put) 1 bs S0 n' er S1 ∧ DkE b S1 E1 ∧ Sees 140 a [(0, .int .i64 t), (1, v), (5, .pointer (some ⟨b, 0, none⟩)), (6, .pointer (some ⟨bL, 0, none⟩)), (7, .slice ba put.length bc), (8, .slice pa put.length pc), (9, .int .i64 (i : Int)), (10, .pointer (some ⟨bT, 0, none⟩)), (11, .int .i64 er)] ∧ Mem w w' (.blk bT #[.int .i64 t, .int .i64 n'] 27 :: rowE lo hi 3 1 (.slice ba put.length bc) put.length ((beginsL t put).map fun p => .int .i64 p.1) :: rowE lo2 hi2 32 1 (.slice pa put.length pc) put.length pvs :: .blk bL #[.int .i64 t, .int .i64 (JLog.nx t 1 put)] 27 :: E1)) ?_ ?_
    · skip
      refine wp_regionK [6, 11] #[false, false, false, false, false, false, false, false, false, false, false, false, false] rfl M (by kernel_rfl) ?_; clear M; intro w7 M
      refine k_pure (listed' := #[true, false, false, false, false, false, false, false, false, false, false, false, false]) 0 S rfl rfl rfl rfl (by kernel_rfl) rfl (fun _ d _ _ _ h => by cases d <;> exact h) (fun w => y_move S rfl) ?_; clear S a; intro a S
      refine k_read (listed' := #[true, true, false, false, false, false, false, false, false, false, false, false, false]) 1 S rfl rfl rfl rfl (by kernel_rfl) rfl (fun _ d _ _ _ h => by cases d <;> exact h) (fun w hW => have M := M.grow hW; y_loadAgg (cs := [_, _]) S (by kernel_rfl) rfl rfl (M.cellsAt (k := 2) 2 rfl rfl)) ?_; clear S a; intro a S
      refine k_pure (listed' := #[true, true, true, false, false, false, false, false, false, false, false, false, false]) 2 S rfl rfl rfl rfl (by kernel_rfl) rfl (fun _ d _ _ _ h => by cases d <;> exact h) (fun w => y_move S rfl) ?_; clear S a; intro a S
      refine k_pure (listed' := #[true, true, true, true, false, false, false, false, false, false, false, false, false]) 3 S rfl rfl rfl rfl (by kernel_rfl) rfl (fun _ d _ _ _ h => by cases d <;> exact h) (fun w => y_move S rfl) ?_; clear S a; intro a S
      refine k_read (listed' := #[true, true, true, true, true, false, false, false, false, false, false, false, false]) 4 S rfl rfl rfl rfl (by kernel_rfl) rfl (fun _ d _ _ _ h => by cases d <;> exact h) (fun w hW => have M := M.grow hW; y_indexR (e := 32) (sz := 1) S (by kernel_rfl) rfl (M.arg hv1) rfl (by first | omega | (simp; done) | (simp; omega))) ?_; clear S a; intro a S
      try simp only [Int.toNat_natCast, Nat.mul_one, Nat.zero_add] at S
      refine k_read (listed' := #[true, true, true, true, true, true, false, false, false, false, false, false, false]) 5 S rfl rfl rfl rfl (by kernel_rfl) rfl (fun _ d _ _ _ h => by cases d <;> exact h) (fun w hW => have M := M.grow hW; y_load S (by kernel_rfl) rfl ((M.arg hv1).at_.one i hx)) ?_; clear S a; intro a S
      refine k_two (l1 := #[true, true, true, true, true, true, true, false, false, false, false, false, false]) (l2 := #[true, true, true, true, true, true, false, false, false, false, true, false, false]) 6 10 rfl rfl (by kernel_rfl) rfl rfl ?_ ?_
      · skip
        refine st_call (xs := [(Operand.tmp 41), (Operand.tmp 42), (Operand.const (Value.int IntKind.i64 1)), (Operand.tmp 46)]) S (enters_of Try.func9 (by decide) rfl) rfl rfl rfl ((by first | exact append_any (A := [_, _, _]) t (JLog.nx t 1 put) 1 x bs hE M (RdH.arg hxb) J.up (J.may ht) (by have := J.inv.len; unfold JLog.nx; omega) (by omega) (fun k => by have := J.cache k; omega) | exact append_any (A := [_, _, _, _]) t (JLog.nx t 1 put) 1 x bs hE M (RdH.arg hxb) J.up (J.may ht) (by have := J.inv.len; unfold JLog.nx; omega) (by omega) (fun k => by have := J.cache k; omega))) ?_
        rintro _ w8 ⟨n', er, S1, rfl, hP, E1, hE1, M1⟩; refine ⟨_, rfl, ?_⟩; clear S M a; intro a S; have M := M1; clear M1
        simp only [List.cons_append, List.nil_append] at M
        refine wpList_nil ?_; refine then_normal ?_; refine ⟨fun h => absurd h (by decide), ?_⟩
        refine k_pure (listed' := #[true, true, true, true, true, true, true, true, false, false, false, false, false]) 7 S rfl rfl rfl rfl (by kernel_rfl) rfl (fun _ d _ _ _ h => by cases d <;> exact h) (fun w => y_move S rfl) ?_; clear S a; intro a S
        refine k_pure (listed' := #[true, true, true, true, true, true, true, true, true, false, false, false, false]) 8 S rfl rfl rfl rfl (by kernel_rfl) rfl (fun _ d _ _ _ h => by cases d <;> exact h) (fun w => y_extract S rfl rfl) ?_; clear S a; intro a S
        refine k_pure (listed' := #[true, true, true, true, true, true, true, true, true, true, false, false, false]) 9 S rfl rfl rfl rfl (by kernel_rfl) rfl (fun _ d _ _ _ h => by cases d <;> exact h) (fun w => y_extract S rfl rfl) ?_; clear S a; intro a S
        refine k_one (listed' := #[true, true, true, true, true, true, true, true, true, true, true, false, false]) 10 rfl (by kernel_rfl) rfl ?_
        refine st_alloc S M rfl rfl #[.int .i64 0, .int .i64 0] (by kernel_rfl) ?_; clear S M a; intro a w9 bT S M hB
        refine wpList_nil ?_; refine then_normal ?_; refine ⟨fun _ => hB, ?_⟩
        refine k_one (listed' := #[true, true, true, true, true, true, true, true, true, true, true, true, false]) 11 rfl (by kernel_rfl) rfl ?_
        refine st_store (sz := 2) (us := [_, _]) S M 0 rfl (by kernel_rfl) rfl rfl rfl rfl rfl rfl (by first | decide | (simp; done) | (simp; omega)) ?_; clear M; intro w10 M
        simp only [putL, List.set_cons_zero, List.set_cons_succ, Nat.reduceAdd] at M
        refine wpList_nil ?_; refine then_normal ?_; refine ⟨fun h => absurd h (by decide), ?_⟩
        refine k_pure (listed' := #[true, true, true, true, true, true, true, true, true, true, true, true, true]) 12 S rfl rfl rfl rfl (by kernel_rfl) rfl (fun _ d _ _ _ h => by cases d <;> exact h) (fun w => y_assign S rfl) ?_; clear S a; intro a S
        refine k_end (by kernel_rfl) ?_
        refine then_normal ?_
        exact ⟨_, _, _, _, _, hP, hE1, S.sub _ rfl, M⟩
      · skip
        refine st_alloc S M rfl rfl #[.int .i64 0, .int .i64 0] (by kernel_rfl) ?_; clear S M a; intro a w11 bT S M hB
        refine wpList_nil ?_; refine then_normal ?_; refine ⟨fun _ => hB, ?_⟩
        refine k_one (listed' := #[true, true, true, true, true, true, true, false, false, false, true, false, false]) 6 rfl (by kernel_rfl) rfl ?_
        refine st_call (xs := [(Operand.tmp 41), (Operand.tmp 42), (Operand.const (Value.int IntKind.i64 1)), (Operand.tmp 46)]) S (enters_of Try.func9 (by decide) rfl) rfl rfl rfl ((by first | exact append_any (A := [_, _, _]) t (JLog.nx t 1 put) 1 x bs hE M (RdH.arg hxb) J.up (J.may ht) (by have := J.inv.len; unfold JLog.nx; omega) (by omega) (fun k => by have := J.cache k; omega) | exact append_any (A := [_, _, _, _]) t (JLog.nx t 1 put) 1 x bs hE M (RdH.arg hxb) J.up (J.may ht) (by have := J.inv.len; unfold JLog.nx; omega) (by omega) (fun k => by have := J.cache k; omega))) ?_
        rintro _ w12 ⟨n', er, S1, rfl, hP, E1, hE1, M1⟩; refine ⟨_, rfl, ?_⟩; clear S M a; intro a S; have M := M1; clear M1
        simp only [List.cons_append, List.nil_append] at M
        refine wpList_nil ?_; refine then_normal ?_; refine ⟨fun h => absurd h (by decide), ?_⟩
        refine k_pure (listed' := #[true, true, true, true, true, true, true, true, false, false, true, false, false]) 7 S rfl rfl rfl rfl (by kernel_rfl) rfl (fun _ d _ _ _ h => by cases d <;> exact h) (fun w => y_move S rfl) ?_; clear S a; intro a S
        refine k_pure (listed' := #[true, true, true, true, true, true, true, true, true, false, true, false, false]) 8 S rfl rfl rfl rfl (by kernel_rfl) rfl (fun _ d _ _ _ h => by cases d <;> exact h) (fun w => y_extract S rfl rfl) ?_; clear S a; intro a S
        refine k_pure (listed' := #[true, true, true, true, true, true, true, true, true, true, true, false, false]) 9 S rfl rfl rfl rfl (by kernel_rfl) rfl (fun _ d _ _ _ h => by cases d <;> exact h) (fun w => y_extract S rfl rfl) ?_; clear S a; intro a S
        refine k_one (listed' := #[true, true, true, true, true, true, true, true, true, true, true, true, false]) 11 rfl (by kernel_rfl) rfl ?_
        refine st_store (sz := 2) (us := [_, _]) S M 0 rfl (by kernel_rfl) rfl rfl rfl rfl rfl rfl (by first | decide | (simp; done) | (simp; omega)) ?_; clear M; intro w13 M
        simp only [putL, List.set_cons_zero, List.set_cons_succ, Nat.reduceAdd] at M
        refine wpList_nil ?_; refine then_normal ?_; refine ⟨fun h => absurd h (by decide), ?_⟩
        refine k_pure (listed' := #[true, true, true, true, true, true, true, true, true, true, true, true, true]) 12 S rfl rfl rfl rfl (by kernel_rfl) rfl (fun _ d _ _ _ h => by cases d <;> exact h) (fun w => y_assign S rfl) ?_; clear S a; intro a S
        refine k_end (by kernel_rfl) ?_
        refine then_normal ?_
        exact ⟨_, _, _, _, _, hP, hE1, S.sub _ rfl, M⟩
    clear S a M; intro a wc
    rintro ⟨n', er, S1, E1, bT, hP, hE1, S, M⟩
    have hJ := J.app ht (by omega) hP
    refine wp_seq ?_
    refine nxD ?_
    refine st_go [1, 1] S rfl (by kernel_rfl) ?_; clear S a; intro a S
    refine nxC ?_
    refine st_fi (t := 51) S rfl ?_ ?_
    · clear S; intro h51 S
      refine st_condF S rfl ?_
      refine wp_skip ?_
      refine nxF ?_
      refine st_y S rfl rfl rfl (y_loadAgg (cs := [_, _]) S (by kernel_rfl) rfl rfl (M.cellsAt (k := 2) 0 rfl rfl)) ?_; clear S a; intro a S
      refine st_store (sz := 2) (us := [_, _]) S M 3 rfl (by kernel_rfl) rfl rfl rfl rfl rfl rfl (by first | decide | (simp; done) | (simp; omega)) ?_; clear M; intro w19 M
      simp only [putL, List.set_cons_zero, List.set_cons_succ, Nat.reduceAdd] at M
      refine wpList_nil ?_
      refine block_normal ?_
      refine nxF ?_
      refine st_go [1] S rfl (by kernel_rfl) ?_; clear S a; intro a S
      (first | refine st_y S rfl rfl rfl (y_addN S rfl rfl (by omega)) ?_ | refine st_y S rfl rfl rfl (y_int S rfl rfl rfl) ?_); clear S a; intro a S
      refine st_go [1] S rfl (by kernel_rfl) ?_; clear S a; intro a S
      refine nxC ?_
      skip
      replace M := M.drop 0
      simp only [List.eraseIdx_cons_succ, List.eraseIdx_cons_zero] at M
      replace M := M.front 2 rfl
      simp only [List.eraseIdx_cons_succ, List.eraseIdx_cons_zero] at M
      replace M := M.front 2 rfl
      simp only [List.eraseIdx_cons_succ, List.eraseIdx_cons_zero] at M
      replace M := M.front 2 rfl
      simp only [List.eraseIdx_cons_succ, List.eraseIdx_cons_zero] at M
      first
        | (obtain ⟨-, ho, J1, rfl⟩ : er = 0 ∧ appOk t (JLog.nx t 1 put) bs ∧ JLog S1 t 1 (put ++ [bs]) 0 ∧ n' = JLog.nx t 1 (put ++ [bs]) := by
             rcases hJ with h | ⟨h, -⟩
             · exact h
             · exact absurd h51 h
           have hpl : (put ++ [bs]).length = put.length + 1 := by simp
           refine ⟨xs.length - (i + 1), by omega, i + 1, put ++ [bs], pvs ++ [_], S1, E1, aB, cB, aP, cP, ?l1, ?l2, ?l3, ?l4, by omega, rfl, J1, hPv.snoc hxb, hE1, by rw [hpl]; exact S.sub _ rfl, ?MM⟩
           case MM =>
             rw [hpl, beginsL_snoc 1, List.map_append]
             exact M)
        | (obtain ⟨-, ho, rfl, rfl⟩ : er ≠ 0 ∧ ¬ appOk t (JLog.nx t 1 put) bs ∧ S1 = S0 ∧ n' = JLog.nx t 1 put := by
             rcases hJ with ⟨h, -⟩ | h
             · exact absurd h h51
             · exact h
           exact ⟨xs.length - (i + 1), by omega, i + 1, put, pvs, S1, E1, ba, bc, pa, pc, _, _, _, _, by omega, rfl, J, hPv, hE1, S.sub _ rfl, M⟩)
    clear S; intro h51 S
    refine st_condT S rfl ?_
    refine nxD ?_
    refine st_run [1, 2, 4] S M rfl (by kernel_rfl) ?_; clear S a; intro a S
    refine st_lit (ps := [(0, (Operand.tmp 54))]) (e := 3) (sz := 1) (zl := [.int .i64 0]) (cs := [_]) S M rfl rfl (by kernel_rfl) rfl (rfl) ?_; clear S M a; intro a w14 bZ1 S M hB
    refine st_append (e := 3) (sz := 1) (by_ := 8) (zc := [.int .i64 0]) S M 2 rfl rfl (by kernel_rfl) rfl (by decide) rfl rfl rfl (show Rd _ _ _ 1 _ 1 [Value.int .i64 (JLog.nx t 1 put)] from M.sliceAt 0 rfl (M.cellsAt (k := 1) 0 rfl rfl) rfl (Nat.le_refl _) (by unfold maxLen; omega)) (rfl) (by omega) (by unfold maxLen; omega) ?_; clear S M a; intro a w15 vA loA hiA S M
    obtain ⟨aB, cB, rfl, -, -⟩ := (M.readAll 0 rfl (by unfold maxLen; omega)).form
    refine st_y S rfl rfl rfl (y_assign S rfl) ?_; clear S a; intro a S
    refine nxB ?_
    refine st_go [1, 1, 1] S rfl (by kernel_rfl) ?_; clear S a; intro a S
    refine st_y S rfl rfl rfl (y_indexR (e := 32) (sz := 1) S (by kernel_rfl) rfl (M.arg hv1) rfl (by first | omega | (simp; done) | (simp; omega))) ?_; clear S a; intro a S
    try simp only [Int.toNat_natCast, Nat.mul_one, Nat.zero_add] at S
    refine st_y S rfl rfl rfl (y_load S (by kernel_rfl) rfl ((M.arg hv1).at_.one i hx)) ?_; clear S a; intro a S
    obtain ⟨xa, xc, rfl, -, -⟩ := hxb.form
    refine st_lit (ps := [(0, (Operand.tmp 61))]) (e := 32) (sz := 1) (zl := [.slice none 0 0]) (cs := [_]) S M rfl rfl (by kernel_rfl) rfl (rfl) ?_; clear S M a; intro a w16 bZ2 S M hB
    refine st_append (e := 32) (sz := 1) (by_ := 24) (zc := [.slice none 0 0]) S M 4 rfl rfl (by kernel_rfl) rfl (by decide) rfl rfl rfl (show Rd _ _ _ 1 _ 1 [_] from M.sliceAt 0 rfl (M.cellsAt (k := 1) 0 rfl rfl) rfl (Nat.le_refl _) (by unfold maxLen; omega)) (rfl) (by omega) (by unfold maxLen; omega) ?_; clear S M a; intro a w17 vA loA hiA S M
    obtain ⟨aP, cP, rfl, -, -⟩ := (M.readAll 0 rfl (by unfold maxLen; omega)).form
    replace M := M.drop 3
    simp only [List.eraseIdx_cons_succ, List.eraseIdx_cons_zero] at M
    replace M := M.drop 1
    simp only [List.eraseIdx_cons_succ, List.eraseIdx_cons_zero] at M
    refine st_y S rfl rfl rfl (y_assign S rfl) ?_; clear S a; intro a S
    replace S := S.sub [(0, _), (1, _), (5, _), (6, _), (9, _), (10, _), (11, _), (51, _), (7, _), (8, _)] rfl
    refine nxB ?_
    refine st_y S rfl rfl rfl (y_loadAgg (cs := [_, _]) S (by kernel_rfl) rfl rfl (M.cellsAt (k := 2) 2 rfl rfl)) ?_; clear S a; intro a S
    refine st_store (sz := 2) (us := [_, _]) S M 3 rfl (by kernel_rfl) rfl rfl rfl rfl rfl rfl (by first | decide | (simp; done) | (simp; omega)) ?_; clear M; intro w18 M
    simp only [putL, List.set_cons_zero, List.set_cons_succ, Nat.reduceAdd] at M
    refine wpList_nil ?_
    refine block_normal ?_
    refine nxF ?_
    refine st_go [1] S rfl (by kernel_rfl) ?_; clear S a; intro a S
    (first | refine st_y S rfl rfl rfl (y_addN S rfl rfl (by omega)) ?_ | refine st_y S rfl rfl rfl (y_int S rfl rfl rfl) ?_); clear S a; intro a S
    refine st_go [1] S rfl (by kernel_rfl) ?_; clear S a; intro a S
    refine nxC ?_
    skip
    replace M := M.drop 2
    simp only [List.eraseIdx_cons_succ, List.eraseIdx_cons_zero] at M
    replace M := M.front 2 rfl
    simp only [List.eraseIdx_cons_succ, List.eraseIdx_cons_zero] at M
    replace M := M.front 1 rfl
    simp only [List.eraseIdx_cons_succ, List.eraseIdx_cons_zero] at M
    replace M := M.front 2 rfl
    simp only [List.eraseIdx_cons_succ, List.eraseIdx_cons_zero] at M
    first
      | (obtain ⟨-, ho, J1, rfl⟩ : er = 0 ∧ appOk t (JLog.nx t 1 put) bs ∧ JLog S1 t 1 (put ++ [bs]) 0 ∧ n' = JLog.nx t 1 (put ++ [bs]) := by
           rcases hJ with h | ⟨h, -⟩
           · exact h
           · exact absurd h51 h
         have hpl : (put ++ [bs]).length = put.length + 1 := by simp
         refine ⟨xs.length - (i + 1), by omega, i + 1, put ++ [bs], pvs ++ [_], S1, E1, aB, cB, aP, cP, ?l1, ?l2, ?l3, ?l4, by omega, rfl, J1, hPv.snoc hxb, hE1, by rw [hpl]; exact S.sub _ rfl, ?MM⟩
         case MM =>
           rw [hpl, beginsL_snoc 1, List.map_append]
           exact M)
      | (obtain ⟨-, ho, rfl, rfl⟩ : er ≠ 0 ∧ ¬ appOk t (JLog.nx t 1 put) bs ∧ S1 = S0 ∧ n' = JLog.nx t 1 put := by
           rcases hJ with ⟨h, -⟩ | h
           · exact absurd h h51
           · exact h
         exact ⟨xs.length - (i + 1), by omega, i + 1, put, pvs, S1, E1, ba, bc, pa, pc, _, _, _, _, by omega, rfl, J, hPv, hE1, S.sub _ rfl, M⟩)
  clear S; intro h37 S
  refine st_condF S rfl ?_
  refine wp_exit ?_
  refine then_exit ?_
  refine then_exit ?_
  refine block_hit ?_
  refine then_normal ?_
  refine wp_seq ?_
  refine nxD ?_
  refine st_go [1, 1] S rfl (by kernel_rfl) ?_; clear S a; intro a S
  refine nxC ?_
  refine wp_block ?_
  refine wp_loop_g (fun m a w' => ∃ (k : Nat), k ≤ (framesL 1 t put).length ∧ m = (framesL 1 t put).length - k ∧ Sees 140 a [(0, .int .i64 t), (5, .pointer (some ⟨b, 0, none⟩)), (6, .pointer (some ⟨bL, 0, none⟩)), (7, .slice ba put.length bc), (8, .slice pa put.length pc), (12, .int .i64 (t + (k : Int)))] ∧ Mem w w' (rowE lo hi 3 1 (.slice ba put.length bc) put.length ((beginsL t put).map fun p => .int .i64 p.1) :: rowE lo2 hi2 32 1 (.slice pa put.length pc) put.length pvs :: .blk bL #[.int .i64 t, .int .i64 (JLog.nx t 1 put)] 27 :: E)) ((framesL 1 t put).length) ?_ ?_
  · skip
    exact ⟨0, Nat.zero_le _, rfl, by rw [Int.natCast_zero, Int.add_zero]; exact S.sub _ rfl, M⟩
  clear S M a; intro m a wl
  rintro ⟨k, hk, rfl, S, M⟩
  have hG := J.inv.len
  have hnx : JLog.nx t 1 put = t + ((framesL 1 t put).length : Int) := rfl
  refine wp_seq ?_
  refine nxD ?_
  refine st_run [1, 2, 3, 1, 1] S M rfl (by kernel_rfl) ?_; clear S a; intro a S
  refine st_fi (t := 70) S rfl ?_ ?_
  · clear S; intro h70 S
    refine st_go [0, 0, 0, 0, 1] S rfl (by kernel_rfl) ?_; clear S a; intro a S
    refine nxC ?_
    refine st_condF S rfl ?_
    refine wp_exit ?_
    refine then_exit ?_
    refine then_exit ?_
    refine block_hit ?_
    refine nxE ?_
    refine st_call (xs := []) S (enters_of Try.func7 (by decide) rfl) rfl rfl rfl (wakes06 _) ?_
    rintro _ w25 ⟨rfl, hK⟩; refine ⟨_, rfl, ?_⟩; clear S a; intro a S; replace M := M.grow hK
    refine st_go [1] S rfl (by kernel_rfl) ?_; clear S a; intro a S
    refine nxC ?_
    refine wp_ret ?_
    refine end_one S rfl (res_tmp rfl) ?_
    exact ⟨rfl, M.below⟩
  clear S; intro h70 S
  refine st_go [1, 1] S rfl (by kernel_rfl) ?_; clear S a; intro a S
  (first | refine st_y S rfl rfl rfl (y_addN S rfl rfl (by omega)) ?_ | refine st_y S rfl rfl rfl (y_int S rfl rfl rfl) ?_); clear S a; intro a S
  refine st_go [1, 1] S rfl (by kernel_rfl) ?_; clear S a; intro a S
  refine nxC ?_
  refine st_fi (t := 75) S rfl ?_ ?_
  · clear S; intro h75 S
    refine st_condF S rfl ?_
    refine wp_exit ?_
    refine then_exit ?_
    refine then_exit ?_
    refine block_hit ?_
    refine nxE ?_
    refine st_call (xs := []) S (enters_of Try.func7 (by decide) rfl) rfl rfl rfl (wakes06 _) ?_
    rintro _ w24 ⟨rfl, hK⟩; refine ⟨_, rfl, ?_⟩; clear S a; intro a S; replace M := M.grow hK
    refine st_go [1] S rfl (by kernel_rfl) ?_; clear S a; intro a S
    refine nxC ?_
    refine wp_ret ?_
    refine end_one S rfl (res_tmp rfl) ?_
    exact ⟨rfl, M.below⟩
  clear S; intro h75 S
  refine st_condT S rfl ?_
  refine wp_skip ?_
  refine then_normal ?_
  refine wp_seq ?_
  refine wp_block ?_
  refine wp_seq ?_
  have hkl : k < (framesL 1 t put).length := by omega
  refine wp_region_lit ?_
  refine st_go [1, 1] S rfl (by kernel_rfl) ?_; clear S a; intro a S
  refine st_call (xs := [(Operand.tmp 79), (Operand.tmp 80)]) S (enters_of Try.func10 (by decide) rfl) rfl rfl rfl (Scan_any (A := [_, _, _]) (t + (k : Int)) hE M J.up (fun k => by have := J.cache k; omega) (by omega)) ?_
  rintro _ w20 ⟨rs, ra, rc, lo3, hi3, rfl, hrs, hr90, hr24, M1⟩; refine ⟨_, rfl, ?_⟩; clear S M a; intro a S
  have M := M1.perm (List.Perm.cons _ (perm_shift (rs.map RB.ent) [_, _, _] E)); clear M1
  simp only [List.cons_append, List.nil_append] at M
  refine st_go [1, 1, 1, 1] S rfl (by kernel_rfl) ?_; clear S a; intro a S
  refine st_alloc S M rfl rfl #[.int .i64 0, .int .i64 0] (by kernel_rfl) ?_; clear S M a; intro a w21 bG S M hB
  refine st_go [1] S rfl (by kernel_rfl) ?_; clear S a; intro a S
  refine st_store (sz := 2) (us := [_, _]) S M 0 rfl (by kernel_rfl) rfl rfl rfl rfl rfl rfl (by first | decide | (simp; done) | (simp; omega)) ?_; clear M; intro w22 M
  simp only [putL, List.set_cons_zero, List.set_cons_succ, Nat.reduceAdd] at M
  refine st_go [1] S rfl (by kernel_rfl) ?_; clear S a; intro a S
  replace S := S.sub [(0, _), (5, _), (6, _), (7, _), (8, _), (12, _), (75, _), (14, _), (13, _), (15, _)] rfl
  refine nxC ?_
  refine wp_seq ?_
  refine nxD ?_
  refine st_go [1, 1, 1] S rfl (by kernel_rfl) ?_; clear S a; intro a S
  refine st_if (t := 87) S rfl ?_ ?_
  · clear S; intro h87 S
    exfalso; simp at h87
  clear S; intro h87 S
  refine st_run [1, 1, 1, 1, 1] S M rfl (by kernel_rfl) ?_; clear S a; intro a S
  refine nxC ?_
  refine st_if (t := 92) S rfl ?_ ?_
  · clear S; intro h92 S
    exfalso; simp at h92
  clear S; intro h92 S
  refine st_condF S rfl ?_
  refine wp_skip ?_
  refine nxE ?_
  refine st_go [1] S rfl (by kernel_rfl) ?_; clear S a; intro a S
  refine st_y S rfl rfl rfl (y_lenS (E := 32) S rfl (by kernel_rfl)) ?_; clear S a; intro a S
  refine st_go [1] S rfl (by kernel_rfl) ?_; clear S a; intro a S
  refine nxC ?_
  refine wp_seq ?_
  refine nxD ?_
  refine st_go [1] S rfl (by kernel_rfl) ?_; clear S a; intro a S
  refine nxC ?_
  refine wp_block ?_
  refine wp_loop_g (fun m a w' => ∃ (i k2 : Nat), i ≤ put.length ∧ m = put.length - i ∧ k2 ≤ put.length ∧ ((k2 = put.length ∧ ∀ (i' : Nat) r, i' < i → (beginsL t put)[i']? ≠ some (t + (k : Int), r)) ∨ ∃ r, (beginsL t put)[k2]? = some (t + (k : Int), r)) ∧ Sees 140 a [(0, .int .i64 t), (5, .pointer (some ⟨b, 0, none⟩)), (6, .pointer (some ⟨bL, 0, none⟩)), (7, .slice ba put.length bc), (8, .slice pa put.length pc), (12, .int .i64 (t + (k : Int))), (13, .slice ra rs.length rc), (14, .pointer (some ⟨bG, 0, none⟩)), (16, .int .i64 (k2 : Int)), (17, .int .i64 (i : Int))] ∧ Mem w w' (.blk bG #[.int .i64 (t + (k : Int)), .int .i64 (scanOf S0 (t + (k : Int))).next] 27 :: rowE lo3 hi3 32 1 (.slice ra rs.length rc) rs.length (rs.map RB.val) :: rowE lo hi 3 1 (.slice ba put.length bc) put.length ((beginsL t put).map fun p => .int .i64 p.1) :: rowE lo2 hi2 32 1 (.slice pa put.length pc) put.length pvs :: .blk bL #[.int .i64 t, .int .i64 (JLog.nx t 1 put)] 27 :: (rs.map RB.ent ++ E))) (put.length) ?_ ?_
  · skip
    exact ⟨0, put.length, Nat.zero_le _, rfl, Nat.le_refl _, .inl ⟨rfl, fun i' r h => by omega⟩, S.sub _ rfl, M⟩
  clear S M a; intro m a wl
  rintro ⟨i, k2, hi', rfl, hk2, hfnd, S, M⟩
  refine wp_seq ?_
  refine nxD ?_
  refine st_go [1, 1] S rfl (by kernel_rfl) ?_; clear S a; intro a S
  refine st_y S rfl rfl rfl (y_lenS (E := 3) S rfl (by kernel_rfl)) ?_; clear S a; intro a S
  refine st_go [1] S rfl (by kernel_rfl) ?_; clear S a; intro a S
  refine nxC ?_
  refine st_if (t := 98) S rfl ?_ ?_
  · clear S; intro h98 S
    refine st_condT S rfl ?_
    refine wp_skip ?_
    refine then_normal ?_
    refine wp_seq ?_
    refine wp_block ?_
    refine wp_seq ?_
    obtain ⟨p, hp⟩ : ∃ p, (beginsL t put)[i]? = some p := ⟨_, List.getElem?_eq_getElem (by rw [beginsL_len]; omega)⟩
    refine wp_region_lit ?_
    refine st_go [1, 1] S rfl (by kernel_rfl) ?_; clear S a; intro a S
    refine st_y S rfl rfl rfl (y_indexR (e := 3) (sz := 1) S (by kernel_rfl) rfl (M.readAll 2 rfl (by unfold maxLen; omega)) rfl (by first | omega | (simp; done) | (simp; omega))) ?_; clear S a; intro a S
    try simp only [Int.toNat_natCast, Nat.mul_one, Nat.zero_add] at S
    refine st_y S rfl rfl rfl (y_load S (by kernel_rfl) rfl ((M.readAll 2 rfl (by unfold maxLen; omega)).at_.one i (by rw [List.getElem?_map, hp]; rfl))) ?_; clear S a; intro a S
    refine st_go [1, 1] S rfl (by kernel_rfl) ?_; clear S a; intro a S
    refine nxC ?_
    refine st_fi (t := 106) S rfl ?_ ?_
    · clear S; intro h106 S
      refine st_condF S rfl ?_
      refine wp_skip ?_
      refine block_normal ?_
      refine nxF ?_
      refine st_go [1] S rfl (by kernel_rfl) ?_; clear S a; intro a S
      (first | refine st_y S rfl rfl rfl (y_addN S rfl rfl (by omega)) ?_ | refine st_y S rfl rfl rfl (y_int S rfl rfl rfl) ?_); clear S a; intro a S
      refine st_go [1] S rfl (by kernel_rfl) ?_; clear S a; intro a S
      refine nxC ?_
      first
        | (have hp1 : p = (t + (k : Int), p.2) := Prod.ext h106 rfl
           exact ⟨put.length - (i + 1), by omega, i + 1, i, by omega, rfl, by omega, .inr ⟨p.2, by rw [hp, ← hp1]⟩, S.sub _ rfl, M⟩)
        | (refine ⟨put.length - (i + 1), by omega, i + 1, k2, by omega, rfl, hk2, ?_, S.sub _ rfl, M⟩
           rcases hfnd with ⟨h1, h2⟩ | h
           · refine .inl ⟨h1, fun i' r hi2 => ?_⟩
             rcases Nat.lt_or_ge i' i with h3 | h3
             · exact h2 i' r h3
             · obtain rfl : i' = i := by omega
               rw [hp]
               intro e
               exact h106 (congrArg Prod.fst (Option.some.inj e))
           · exact .inr h)
    clear S; intro h106 S
    refine st_condT S rfl ?_
    refine wp_region_lit ?_
    refine st_go [1, 1] S rfl (by kernel_rfl) ?_; clear S a; intro a S
    refine wpList_nil ?_
    refine block_normal ?_
    refine nxF ?_
    refine st_go [1] S rfl (by kernel_rfl) ?_; clear S a; intro a S
    (first | refine st_y S rfl rfl rfl (y_addN S rfl rfl (by omega)) ?_ | refine st_y S rfl rfl rfl (y_int S rfl rfl rfl) ?_); clear S a; intro a S
    refine st_go [1] S rfl (by kernel_rfl) ?_; clear S a; intro a S
    refine nxC ?_
    first
      | (have hp1 : p = (t + (k : Int), p.2) := Prod.ext h106 rfl
         exact ⟨put.length - (i + 1), by omega, i + 1, i, by omega, rfl, by omega, .inr ⟨p.2, by rw [hp, ← hp1]⟩, S.sub _ rfl, M⟩)
      | (refine ⟨put.length - (i + 1), by omega, i + 1, k2, by omega, rfl, hk2, ?_, S.sub _ rfl, M⟩
         rcases hfnd with ⟨h1, h2⟩ | h
         · refine .inl ⟨h1, fun i' r hi2 => ?_⟩
           rcases Nat.lt_or_ge i' i with h3 | h3
           · exact h2 i' r h3
           · obtain rfl : i' = i := by omega
             rw [hp]
             intro e
             exact h106 (congrArg Prod.fst (Option.some.inj e))
         · exact .inr h)
  clear S; intro h98 S
  refine st_condF S rfl ?_
  refine wp_exit ?_
  refine then_exit ?_
  refine then_exit ?_
  refine block_hit ?_
  refine then_normal ?_
  refine wp_seq ?_
  obtain ⟨hrows, hlt, hge⟩ : rs.map RB.bs = put.drop k2 ∧ (k2 < put.length → (scanOf S0 (t + (k : Int))).next = JLog.nx t 1 put) ∧ (k2 = put.length → (scanOf S0 (t + (k : Int))).next = t + (k : Int)) := by
    rcases hfnd with ⟨h1, h2⟩ | ⟨r, h⟩
    · obtain ⟨e1, e2⟩ := tails_no J hkl fun i r hr => by
        have := (List.getElem?_eq_some_iff.1 hr).1
        rw [beginsL_len] at this
        exact h2 i r (by omega) hr
      exact ⟨by rw [hrs, e1, h1]; simp, fun h => by omega, fun _ => e2⟩
    · obtain ⟨e1, e2⟩ := tails_at J (by omega) h
      have := (List.getElem?_eq_some_iff.1 h).1
      rw [beginsL_len] at this
      exact ⟨by rw [hrs, e1], fun _ => e2, fun h => by omega⟩
  refine wp_region_lit ?_
  refine st_go [1, 1, 1] S rfl (by kernel_rfl) ?_; clear S a; intro a S
  refine st_y S rfl rfl rfl (y_slice1R (e := 32) (sz := 1) S (by kernel_rfl) rfl (M.readAll 3 rfl (by unfold maxLen; omega)) rfl (by first | omega | (simp; done) | (simp; omega))) ?_; clear S a; intro a S
  refine st_call (xs := [(Operand.tmp 108), (Operand.tmp 111)]) S (enters_of Try.func11 (by decide) rfl) rfl rfl rfl (rows_any _ _ (rs.map RB.bs) (put.drop k2) _ (brows_of (lo := lo3) (hi := hi3) M (.tail _ (.head _)) (fun r hr => .tail _ (.tail _ (.tail _ (.tail _ (.tail _ (List.mem_append_left _ (List.mem_map_of_mem hr))))))) hr90 (by omega)) (BRows.cutFrom (brows_put (lo := lo2) (hi := hi2) M (.tail _ (.tail _ (.tail _ (.head _)))) hPv (by omega)) hk2)) ?_
  rintro _ w23 ⟨rfl, hK⟩; refine ⟨_, rfl, ?_⟩; clear S a; intro a S; replace M := M.grow hK
  refine st_go [1, 1] S rfl (by kernel_rfl) ?_; clear S a; intro a S
  refine st_split (t := 114) S rfl ?_ ?_
  · clear S; intro h114 S
    exfalso; rw [hrows] at h114; simp at h114
  clear S; intro h114 S
  refine st_go [1, 1] S rfl (by kernel_rfl) ?_; clear S a; intro a S
  refine st_y S rfl rfl rfl (y_lenS (E := 32) S rfl (by kernel_rfl)) ?_; clear S a; intro a S
  refine st_go [1, 1] S rfl (by kernel_rfl) ?_; clear S a; intro a S
  refine st_fi (t := 119) S rfl ?_ ?_
  · clear S; intro h119 S
    refine st_go [0, 0, 0, 0, 0, 1, 1, 1, 1, 1] S rfl (by kernel_rfl) ?_; clear S a; intro a S
    refine st_y S rfl rfl rfl (y_lenS (E := 32) S rfl (by kernel_rfl)) ?_; clear S a; intro a S
    refine st_go [1, 1] S rfl (by kernel_rfl) ?_; clear S a; intro a S
    refine st_fi (t := 132) S rfl ?_ ?_
    · clear S; intro h132 S
      refine st_go [0, 0, 0, 0, 1, 1] S rfl (by kernel_rfl) ?_; clear S a; intro a S
      replace S := S.sub [(0, _), (5, _), (6, _), (7, _), (8, _), (12, _), (13, _), (14, _), (16, _), (17, _), (98, _), (138, _)] rfl
      refine nxC ?_
      refine st_condF S rfl ?_
      refine wp_skip ?_
      refine block_normal ?_
      refine nxF ?_
      refine st_go [1] S rfl (by kernel_rfl) ?_; clear S a; intro a S
      (first | refine st_y S rfl rfl rfl (y_addN S rfl rfl (by omega)) ?_ | refine st_y S rfl rfl rfl (y_int S rfl rfl rfl) ?_); clear S a; intro a S
      refine st_go [1] S rfl (by kernel_rfl) ?_; clear S a; intro a S
      refine nxC ?_
      skip
      replace M := M.drop 0
      simp only [List.eraseIdx_cons_succ, List.eraseIdx_cons_zero] at M
      replace M := M.drop 0
      simp only [List.eraseIdx_cons_succ, List.eraseIdx_cons_zero] at M
      have M6 := M.sub (H' := rowE lo hi 3 1 (.slice ba put.length bc) put.length ((beginsL t put).map fun p => .int .i64 p.1) :: rowE lo2 hi2 32 1 (.slice pa put.length pc) put.length pvs :: .blk bL #[.int .i64 t, .int .i64 (JLog.nx t 1 put)] 27 :: E) (.cons_cons _ (.cons_cons _ (.cons_cons _ (List.sublist_append_right _ _))))
      exact ⟨(framesL 1 t put).length - (k + 1), by omega, k + 1, by omega, rfl, by rw [show t + (((k + 1 : Nat)) : Int) = t + (k : Int) + 1 by omega]; exact S.sub _ rfl, M6⟩
    clear S; intro h132 S
    refine st_run [2, 1, 1, 1, 1, 1] S M rfl (by kernel_rfl) ?_; clear S a; intro a S
    replace S := S.sub [(0, _), (5, _), (6, _), (7, _), (8, _), (12, _), (13, _), (14, _), (16, _), (17, _), (98, _), (138, _)] rfl
    refine nxC ?_
    refine st_if (t := 138) S rfl ?_ ?_
    · clear S; intro h138 S
      exfalso; omega
    clear S; intro h138 S
    refine st_condF S rfl ?_
    refine wp_skip ?_
    refine block_normal ?_
    refine nxF ?_
    refine st_go [1] S rfl (by kernel_rfl) ?_; clear S a; intro a S
    (first | refine st_y S rfl rfl rfl (y_addN S rfl rfl (by omega)) ?_ | refine st_y S rfl rfl rfl (y_int S rfl rfl rfl) ?_); clear S a; intro a S
    refine st_go [1] S rfl (by kernel_rfl) ?_; clear S a; intro a S
    refine nxC ?_
    skip
    replace M := M.drop 0
    simp only [List.eraseIdx_cons_succ, List.eraseIdx_cons_zero] at M
    replace M := M.drop 0
    simp only [List.eraseIdx_cons_succ, List.eraseIdx_cons_zero] at M
    have M6 := M.sub (H' := rowE lo hi 3 1 (.slice ba put.length bc) put.length ((beginsL t put).map fun p => .int .i64 p.1) :: rowE lo2 hi2 32 1 (.slice pa put.length pc) put.length pvs :: .blk bL #[.int .i64 t, .int .i64 (JLog.nx t 1 put)] 27 :: E) (.cons_cons _ (.cons_cons _ (.cons_cons _ (List.sublist_append_right _ _))))
    exact ⟨(framesL 1 t put).length - (k + 1), by omega, k + 1, by omega, rfl, by rw [show t + (((k + 1 : Nat)) : Int) = t + (k : Int) + 1 by omega]; exact S.sub _ rfl, M6⟩
  clear S; intro h119 S
  refine st_run [2, 1, 2, 5, 1, 1, 1, 1] S M rfl (by kernel_rfl) ?_; clear S a; intro a S
  refine st_if (t := 127) S rfl ?_ ?_
  · clear S; intro h127 S
    exfalso; omega
  clear S; intro h127 S
  refine st_go [1, 1] S rfl (by kernel_rfl) ?_; clear S a; intro a S
  refine st_y S rfl rfl rfl (y_lenS (E := 32) S rfl (by kernel_rfl)) ?_; clear S a; intro a S
  refine st_go [1, 1] S rfl (by kernel_rfl) ?_; clear S a; intro a S
  refine st_fi (t := 132) S rfl ?_ ?_
  · clear S; intro h132 S
    refine st_go [0, 0, 0, 0, 1, 1] S rfl (by kernel_rfl) ?_; clear S a; intro a S
    replace S := S.sub [(0, _), (5, _), (6, _), (7, _), (8, _), (12, _), (13, _), (14, _), (16, _), (17, _), (98, _), (138, _)] rfl
    refine nxC ?_
    refine st_condF S rfl ?_
    refine wp_skip ?_
    refine block_normal ?_
    refine nxF ?_
    refine st_go [1] S rfl (by kernel_rfl) ?_; clear S a; intro a S
    (first | refine st_y S rfl rfl rfl (y_addN S rfl rfl (by omega)) ?_ | refine st_y S rfl rfl rfl (y_int S rfl rfl rfl) ?_); clear S a; intro a S
    refine st_go [1] S rfl (by kernel_rfl) ?_; clear S a; intro a S
    refine nxC ?_
    skip
    replace M := M.drop 0
    simp only [List.eraseIdx_cons_succ, List.eraseIdx_cons_zero] at M
    replace M := M.drop 0
    simp only [List.eraseIdx_cons_succ, List.eraseIdx_cons_zero] at M
    have M6 := M.sub (H' := rowE lo hi 3 1 (.slice ba put.length bc) put.length ((beginsL t put).map fun p => .int .i64 p.1) :: rowE lo2 hi2 32 1 (.slice pa put.length pc) put.length pvs :: .blk bL #[.int .i64 t, .int .i64 (JLog.nx t 1 put)] 27 :: E) (.cons_cons _ (.cons_cons _ (.cons_cons _ (List.sublist_append_right _ _))))
    exact ⟨(framesL 1 t put).length - (k + 1), by omega, k + 1, by omega, rfl, by rw [show t + (((k + 1 : Nat)) : Int) = t + (k : Int) + 1 by omega]; exact S.sub _ rfl, M6⟩
  clear S; intro h132 S
  refine st_run [2, 1, 1, 1, 1, 1] S M rfl (by kernel_rfl) ?_; clear S a; intro a S
  replace S := S.sub [(0, _), (5, _), (6, _), (7, _), (8, _), (12, _), (13, _), (14, _), (16, _), (17, _), (98, _), (138, _)] rfl
  refine nxC ?_
  refine st_if (t := 138) S rfl ?_ ?_
  · clear S; intro h138 S
    exfalso; omega
  clear S; intro h138 S
  refine st_condF S rfl ?_
  refine wp_skip ?_
  refine block_normal ?_
  refine nxF ?_
  refine st_go [1] S rfl (by kernel_rfl) ?_; clear S a; intro a S
  (first | refine st_y S rfl rfl rfl (y_addN S rfl rfl (by omega)) ?_ | refine st_y S rfl rfl rfl (y_int S rfl rfl rfl) ?_); clear S a; intro a S
  refine st_go [1] S rfl (by kernel_rfl) ?_; clear S a; intro a S
  refine nxC ?_
  skip
  replace M := M.drop 0
  simp only [List.eraseIdx_cons_succ, List.eraseIdx_cons_zero] at M
  replace M := M.drop 0
  simp only [List.eraseIdx_cons_succ, List.eraseIdx_cons_zero] at M
  have M6 := M.sub (H' := rowE lo hi 3 1 (.slice ba put.length bc) put.length ((beginsL t put).map fun p => .int .i64 p.1) :: rowE lo2 hi2 32 1 (.slice pa put.length pc) put.length pvs :: .blk bL #[.int .i64 t, .int .i64 (JLog.nx t 1 put)] 27 :: E) (.cons_cons _ (.cons_cons _ (.cons_cons _ (List.sublist_append_right _ _))))
  exact ⟨(framesL 1 t put).length - (k + 1), by omega, k + 1, by omega, rfl, by rw [show t + (((k + 1 : Nat)) : Int) = t + (k : Int) + 1 by omega]; exact S.sub _ rfl, M6⟩

end Go.Proofs.Ytafejnbfgkkjkaa
