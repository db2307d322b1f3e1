/-
  Package wire: a field is taken.
-/
import Derived.Test.YtojgcgaoajfihaaWg
namespace Go.Proofs.Ytojgcgaoajfihaa
open Go.RowKit Go.Sort

theorem Msg.putVal (m : Msg) (v : Value) {t : List UInt8} (h : t.length = 8) : ((m.cells v).toList.take (0 + 11) ++ bcells t ++ (m.cells v).toList.drop (0 + 11 + (bcells t).length)).toArray = Msg.cells { m with val := v8 t } v := by
  match t, h with
  | [a, b, c, d, e, f, g, i], _ => rfl
theorem Wr.putVal (b : Int) {t : List UInt8} (h : t.length = 8) : ([Value.int .i64 b, .int .u8 0, .int .u8 0, .int .u8 0, .int .u8 0, .int .u8 0, .int .u8 0, .int .u8 0, .int .u8 0].take (0 + 1) ++ bcells t ++ [Value.int .i64 b, .int .u8 0, .int .u8 0, .int .u8 0, .int .u8 0, .int .u8 0, .int .u8 0, .int .u8 0, .int .u8 0].drop (0 + 1 + (bcells t).length)).toArray = (Wr.cellsL ⟨b, v8 t⟩).toArray := by
  match t, h with
  | [a, b, c, d, e, f, g, i], _ => rfl
def FldPost (p : Ps) (wc : World) (bf bm lo hi : Nat) (H : List Ent) (e : Ending) (w' : World) : Prop :=
  ∃ bv' vx' xlo xhi, e = .returned (.tuple #[]) ∧ Mem wc w' (.blk bf (rdrC bv' p.2.2.2) 105 :: lfE lo hi bv' p.2.2.1 :: .blk bm (p.1.cells vx') 42 :: rowE xlo xhi 72 9 vx' p.2.1.length (wcells p.2.1) :: H)
set_option maxHeartbeats 1000000 in
theorem field_any {wc w : World} {H : List Ent} {bf bm lo hi xlo xhi : Nat} {bv vx : Value} (f : Nat) (hf : f < 10) {m : Msg} {x : List Wr} {l : List UInt8} {sh : Bool} (hx : x.length ≤ 1000)
    (M : Mem wc w (.blk bf (rdrC bv sh) 105 :: lfE lo hi bv l :: .blk bm (m.cells vx) 42 :: rowE xlo xhi 72 9 vx x.length (wcells x) :: H)) :
    Calls Try.prog 67 #[.pointer (some ⟨bf, 0, none⟩), .pointer (some ⟨bm, 0, none⟩), .int .i64 (f : Int)] w (FldPost (fldP f (m, x, (l, sh))) wc bf bm lo hi H) := by
  obtain ⟨xa, xc, rfl, -, -⟩ := (M.readRow 3 rfl (by unfold maxLen; omega)).form
  refine calls_enter Try.func67 rfl 112 rfl rfl ?_; intro a S
  refine wp_seq ?_
  skip
  refine wp_region_lit ?_
  refine st_go [1] S rfl (by kernel_rfl) ?_; clear S a; intro a S
  refine nxC ?_
  refine wp_block ?_
  refine nxD ?_
  refine st_go [1, 1] S rfl (by kernel_rfl) ?_; clear S a; intro a S
  refine nxC ?_
  refine st_if (t := 8) S rfl ?_ ?_
  · clear S; intro h8 S
    refine st_condT S rfl ?_
    obtain rfl : f = 0 := by omega
    refine wp_region_lit ?_
    refine st_go [1, 1, 1, 1] S rfl (by kernel_rfl) ?_; clear S a; intro a S
    refine st_call (xs := [(Operand.tmp 13), (Operand.const (Value.int IntKind.i64 3))]) S (enters_of Try.func66 (by decide) rfl) rfl rfl rfl (numI_at 3 M rfl (by decide)) ?_
    rintro _ w1 ⟨bv1, rfl, M1⟩; refine ⟨_, rfl, ?_⟩; clear S a; intro a S; replace M := M1; clear M1
    refine st_go [1] S rfl (by kernel_rfl) ?_; clear S a; intro a S
    refine st_call (xs := [(Operand.tmp 15), (Operand.const (Value.int IntKind.i64 3))]) S (enters_of Try.func66 (by decide) rfl) rfl rfl rfl (numI_at 3 M rfl (by decide)) ?_
    rintro _ w2 ⟨bv1, rfl, M1⟩; refine ⟨_, rfl, ?_⟩; clear S a; intro a S; replace M := M1; clear M1
    refine st_go [1] S rfl (by kernel_rfl) ?_; clear S a; intro a S
    refine st_call (xs := [(Operand.tmp 17), (Operand.const (Value.int IntKind.i64 3))]) S (enters_of Try.func66 (by decide) rfl) rfl rfl rfl (numI_at 3 M rfl (by decide)) ?_
    rintro _ w3 ⟨bv1, rfl, M1⟩; refine ⟨_, rfl, ?_⟩; clear S a; intro a S; replace M := M1; clear M1
    refine st_go [1, 6, 1] S rfl (by kernel_rfl) ?_; clear S a; intro a S
    refine st_store (sz := 1) (us := [_]) S M 2 rfl (by kernel_rfl) rfl rfl rfl rfl rfl rfl (by first | decide | (simp; done) | (simp; omega)) ?_; clear M; intro w4 M
    simp only [putL, List.set_cons_zero, List.set_cons_succ, Nat.reduceAdd] at M
    refine st_go [1, 6, 2] S rfl (by kernel_rfl) ?_; clear S a; intro a S
    refine st_store (sz := 1) (us := [_]) S M 2 rfl (by kernel_rfl) rfl rfl rfl rfl rfl rfl (by first | decide | (simp; done) | (simp; omega)) ?_; clear M; intro w5 M
    simp only [putL, List.set_cons_zero, List.set_cons_succ, Nat.reduceAdd] at M
    refine st_go [1, 6, 3] S rfl (by kernel_rfl) ?_; clear S a; intro a S
    refine st_store (sz := 1) (us := [_]) S M 2 rfl (by kernel_rfl) rfl rfl rfl rfl rfl rfl (by first | decide | (simp; done) | (simp; omega)) ?_; clear M; intro w6 M
    simp only [putL, List.set_cons_zero, List.set_cons_succ, Nat.reduceAdd] at M
    replace S := S.sub [(0, _), (1, _), (2, _), (7, _), (8, _)] rfl
    refine wpList_nil ?_
    refine block_normal ?_
    refine end_noneN S rfl ?_
    exact ⟨_, _, _, _, rfl, M⟩
  clear S; intro h8 S
  refine st_condF S rfl ?_
  refine nxD ?_
  refine st_go [1, 1] S rfl (by kernel_rfl) ?_; clear S a; intro a S
  refine nxC ?_
  refine st_if (t := 28) S rfl ?_ ?_
  · clear S; intro h28 S
    refine st_condT S rfl ?_
    obtain rfl : f = 1 := by omega
    refine wp_region_lit ?_
    refine st_go [1, 1] S rfl (by kernel_rfl) ?_; clear S a; intro a S
    refine st_call (xs := [(Operand.tmp 31), (Operand.const (Value.int IntKind.i64 3))]) S (enters_of Try.func66 (by decide) rfl) rfl rfl rfl (numI_at 3 M rfl (by decide)) ?_
    rintro _ w7 ⟨bv1, rfl, M1⟩; refine ⟨_, rfl, ?_⟩; clear S a; intro a S; replace M := M1; clear M1
    refine st_go [1, 9] S rfl (by kernel_rfl) ?_; clear S a; intro a S
    refine st_store (sz := 1) (us := [_]) S M 2 rfl (by kernel_rfl) rfl rfl rfl rfl rfl rfl (by first | decide | (simp; done) | (simp; omega)) ?_; clear M; intro w8 M
    simp only [putL, List.set_cons_zero, List.set_cons_succ, Nat.reduceAdd] at M
    refine wpList_nil ?_
    refine block_normal ?_
    refine end_noneN S rfl ?_
    exact ⟨_, _, _, _, rfl, M⟩
  clear S; intro h28 S
  refine st_condF S rfl ?_
  refine nxD ?_
  refine st_go [1, 1] S rfl (by kernel_rfl) ?_; clear S a; intro a S
  refine nxC ?_
  refine st_if (t := 35) S rfl ?_ ?_
  · clear S; intro h35 S
    refine st_condT S rfl ?_
    obtain rfl : f = 2 := by omega
    refine wp_region_lit ?_
    refine st_go [1, 1] S rfl (by kernel_rfl) ?_; clear S a; intro a S
    refine st_call (xs := [(Operand.tmp 38), (Operand.const (Value.int IntKind.i64 1))]) S (enters_of Try.func65 (by decide) rfl) rfl rfl rfl (num8_at 1 M rfl (by decide)) ?_
    rintro _ w9 ⟨bv1, rfl, M1⟩; refine ⟨_, rfl, ?_⟩; clear S a; intro a S; replace M := M1; clear M1
    refine st_go [1, 10] S rfl (by kernel_rfl) ?_; clear S a; intro a S
    refine st_store (sz := 1) (us := [_]) S M 2 rfl (by kernel_rfl) rfl rfl rfl rfl rfl rfl (by first | decide | (simp; done) | (simp; omega)) ?_; clear M; intro w10 M
    simp only [putL, List.set_cons_zero, List.set_cons_succ, Nat.reduceAdd] at M
    refine wpList_nil ?_
    refine block_normal ?_
    refine end_noneN S rfl ?_
    exact ⟨_, _, _, _, rfl, M⟩
  clear S; intro h35 S
  refine st_condF S rfl ?_
  refine nxD ?_
  refine st_go [1, 1] S rfl (by kernel_rfl) ?_; clear S a; intro a S
  refine nxC ?_
  refine st_if (t := 42) S rfl ?_ ?_
  · clear S; intro h42 S
    refine st_condT S rfl ?_
    obtain rfl : f = 3 := by omega
    refine wp_region_lit ?_
    refine st_go [1, 1] S rfl (by kernel_rfl) ?_; clear S a; intro a S
    refine st_call (xs := [(Operand.tmp 45), (Operand.const (Value.int IntKind.i64 1))]) S (enters_of Try.func66 (by decide) rfl) rfl rfl rfl (numI_at 1 M rfl (by decide)) ?_
    rintro _ w11 ⟨bv1, rfl, M1⟩; refine ⟨_, rfl, ?_⟩; clear S a; intro a S; replace M := M1; clear M1
    refine st_go [1, 11] S rfl (by kernel_rfl) ?_; clear S a; intro a S
    refine st_store (sz := 1) (us := [_]) S M 2 rfl (by kernel_rfl) rfl rfl rfl rfl rfl rfl (by first | decide | (simp; done) | (simp; omega)) ?_; clear M; intro w12 M
    simp only [putL, List.set_cons_zero, List.set_cons_succ, Nat.reduceAdd] at M
    refine wpList_nil ?_
    refine block_normal ?_
    refine end_noneN S rfl ?_
    exact ⟨_, _, _, _, rfl, M⟩
  clear S; intro h42 S
  refine st_condF S rfl ?_
  refine nxD ?_
  refine st_go [1, 1] S rfl (by kernel_rfl) ?_; clear S a; intro a S
  refine nxC ?_
  refine st_if (t := 49) S rfl ?_ ?_
  · clear S; intro h49 S
    refine st_condT S rfl ?_
    obtain rfl : f = 4 := by omega
    refine wp_regionK [5, 6] #[false, false, false, false, false, false, false] rfl M (by kernel_rfl) ?_; clear M; intro w13 M
    refine k_pure (listed' := #[true, false, false, false, false, false, false]) 0 S rfl rfl rfl rfl (by kernel_rfl) rfl (fun _ d _ _ _ h => by cases d <;> exact h) (fun w => y_move S rfl) ?_; clear S a; intro a S
    refine k_pure (listed' := #[true, true, false, false, false, false, false]) 1 S rfl rfl rfl rfl (by kernel_rfl) rfl (fun _ d _ _ _ h => by cases d <;> exact h) (fun w => y_nilCheck S rfl) ?_; clear S a; intro a S
    refine k_pure (listed' := #[true, true, true, false, false, false, false]) 2 S rfl rfl rfl rfl (by kernel_rfl) rfl (fun _ d _ _ _ h => by cases d <;> exact h) (fun w => y_fieldAddr (k := 11) S (by kernel_rfl) rfl) ?_; clear S a; intro a S
    refine k_pure (listed' := #[true, true, true, true, false, false, false]) 3 S rfl rfl rfl rfl (by kernel_rfl) rfl (fun _ d _ _ _ h => by cases d <;> exact h) (fun w => y_sliceA (m := 8) (sz := 1) S (by kernel_rfl) rfl) ?_; clear S a; intro a S
    refine k_pure (listed' := #[true, true, true, true, true, false, false]) 4 S rfl rfl rfl rfl (by kernel_rfl) rfl (fun _ d _ _ _ h => by cases d <;> exact h) (fun w => y_move S rfl) ?_; clear S a; intro a S
    refine k_one (listed' := #[true, true, true, true, true, true, false]) 5 rfl (by kernel_rfl) rfl ?_
    refine st_call (xs := [(Operand.tmp 55), (Operand.const (Value.int IntKind.i64 8))]) S (enters_of Try.func74 (by decide) rfl) rfl rfl rfl (takeW_at 8 M rfl (by decide)) ?_
    rintro _ w14 ⟨v1, bv1, rfl, M1, hT⟩; refine ⟨_, rfl, ?_⟩; clear S a; intro a S; replace M := M1; clear M1
    obtain ⟨t, ht⟩ : ∃ t, tkW 8 (l, sh) = t := ⟨_, rfl⟩
    have htl : t.1.length = 8 := by rw [← ht, tkW_len]
    rw [ht] at M hT
    refine wpList_nil ?_; refine then_normal ?_; refine ⟨fun h => absurd h (by decide), ?_⟩
    refine k_one (listed' := #[true, true, true, true, true, true, true]) 6 rfl (by kernel_rfl) rfl ?_
    refine st_copy (e := 5) (us := bcells t.1) S M 2 rfl rfl (by kernel_rfl) rfl rfl rfl (hT) (List.take_of_length_le (by rw [bcells_length]; omega)) (allOne_bcells _) (by rw [bcells_length, htl]; exact (by decide : 0 + 11 + 8 ≤ 24)) ?_; clear S M a; intro a w15 S M
    simp only [List.set_cons_zero, List.set_cons_succ] at M
    refine wpList_nil ?_; refine then_normal ?_; refine ⟨fun h => absurd h (by decide), ?_⟩
    refine k_end (by kernel_rfl) ?_
    refine block_normal ?_
    refine end_noneN S rfl ?_
    replace M := M.blkEq 2 rfl (Msg.putVal m _ htl)
    simp only [List.set_cons_zero, List.set_cons_succ] at M
    unfold FldPost fldP; rw [ht]
    exact ⟨_, _, _, _, rfl, M⟩
  clear S; intro h49 S
  refine st_condF S rfl ?_
  refine nxD ?_
  refine st_go [1, 1] S rfl (by kernel_rfl) ?_; clear S a; intro a S
  refine nxC ?_
  refine st_if (t := 58) S rfl ?_ ?_
  · clear S; intro h58 S
    refine st_condT S rfl ?_
    obtain rfl : f = 5 := by omega
    refine wp_region_lit ?_
    refine st_go [1, 1] S rfl (by kernel_rfl) ?_; clear S a; intro a S
    refine st_call (xs := [(Operand.tmp 61), (Operand.const (Value.int IntKind.i64 2))]) S (enters_of Try.func75 (by decide) rfl) rfl rfl rfl (numE_at 2 M rfl (by decide)) ?_
    rintro _ w16 ⟨bv1, rfl, M1⟩; refine ⟨_, rfl, ?_⟩; clear S a; intro a S; replace M := M1; clear M1
    refine st_go [1, 20] S rfl (by kernel_rfl) ?_; clear S a; intro a S
    refine st_store (sz := 1) (us := [_]) S M 2 rfl (by kernel_rfl) rfl rfl rfl rfl rfl rfl (by first | decide | (simp; done) | (simp; omega)) ?_; clear M; intro w17 M
    simp only [putL, List.set_cons_zero, List.set_cons_succ, Nat.reduceAdd] at M
    refine wpList_nil ?_
    refine block_normal ?_
    refine end_noneN S rfl ?_
    exact ⟨_, _, _, _, rfl, M⟩
  clear S; intro h58 S
  refine st_condF S rfl ?_
  refine nxD ?_
  refine st_go [1, 1] S rfl (by kernel_rfl) ?_; clear S a; intro a S
  refine nxC ?_
  refine st_if (t := 65) S rfl ?_ ?_
  · clear S; intro h65 S
    refine st_condT S rfl ?_
    obtain rfl : f = 6 := by omega
    refine wp_region_lit ?_
    refine st_go [1, 1] S rfl (by kernel_rfl) ?_; clear S a; intro a S
    refine st_call (xs := [(Operand.tmp 68), (Operand.const (Value.int IntKind.i64 1))]) S (enters_of Try.func66 (by decide) rfl) rfl rfl rfl (numI_at 1 M rfl (by decide)) ?_
    rintro _ w18 ⟨bv1, rfl, M1⟩; refine ⟨_, rfl, ?_⟩; clear S a; intro a S; replace M := M1; clear M1
    refine st_go [1, 1, 21] S rfl (by kernel_rfl) ?_; clear S a; intro a S
    refine st_store (sz := 1) (us := [_]) S M 2 rfl (by kernel_rfl) rfl rfl rfl rfl rfl rfl (by first | decide | (simp; done) | (simp; omega)) ?_; clear M; intro w19 M
    simp only [putL, List.set_cons_zero, List.set_cons_succ, Nat.reduceAdd] at M
    refine wpList_nil ?_
    refine block_normal ?_
    refine end_noneN S rfl ?_
    exact ⟨_, _, _, _, rfl, M⟩
  clear S; intro h65 S
  refine st_condF S rfl ?_
  refine nxD ?_
  refine st_go [1, 1] S rfl (by kernel_rfl) ?_; clear S a; intro a S
  refine nxC ?_
  refine st_if (t := 73) S rfl ?_ ?_
  · clear S; intro h73 S
    refine st_condT S rfl ?_
    obtain rfl : f = 7 := by omega
    refine wp_region_lit ?_
    refine st_go [1, 1] S rfl (by kernel_rfl) ?_; clear S a; intro a S
    refine st_call (xs := [(Operand.tmp 76), (Operand.const (Value.int IntKind.i64 1))]) S (enters_of Try.func66 (by decide) rfl) rfl rfl rfl (numI_at 1 M rfl (by decide)) ?_
    rintro _ w20 ⟨bv1, rfl, M1⟩; refine ⟨_, rfl, ?_⟩; clear S a; intro a S; replace M := M1; clear M1
    refine st_go [1, 22] S rfl (by kernel_rfl) ?_; clear S a; intro a S
    refine st_store (sz := 1) (us := [_]) S M 2 rfl (by kernel_rfl) rfl rfl rfl rfl rfl rfl (by first | decide | (simp; done) | (simp; omega)) ?_; clear M; intro w21 M
    simp only [putL, List.set_cons_zero, List.set_cons_succ, Nat.reduceAdd] at M
    refine wpList_nil ?_
    refine block_normal ?_
    refine end_noneN S rfl ?_
    exact ⟨_, _, _, _, rfl, M⟩
  clear S; intro h73 S
  refine st_condF S rfl ?_
  refine nxD ?_
  refine st_go [1, 1] S rfl (by kernel_rfl) ?_; clear S a; intro a S
  refine nxC ?_
  refine st_if (t := 80) S rfl ?_ ?_
  · clear S; intro h80 S
    refine st_condT S rfl ?_
    obtain rfl : f = 8 := by omega
    refine wp_region_lit ?_
    refine st_go [1, 1] S rfl (by kernel_rfl) ?_; clear S a; intro a S
    refine st_call (xs := [(Operand.tmp 83), (Operand.const (Value.int IntKind.i64 1))]) S (enters_of Try.func66 (by decide) rfl) rfl rfl rfl (numI_at 1 M rfl (by decide)) ?_
    rintro _ w22 ⟨bv1, rfl, M1⟩; refine ⟨_, rfl, ?_⟩; clear S a; intro a S; replace M := M1; clear M1
    refine st_go [1, 23] S rfl (by kernel_rfl) ?_; clear S a; intro a S
    refine st_store (sz := 1) (us := [_]) S M 2 rfl (by kernel_rfl) rfl rfl rfl rfl rfl rfl (by first | decide | (simp; done) | (simp; omega)) ?_; clear M; intro w23 M
    simp only [putL, List.set_cons_zero, List.set_cons_succ, Nat.reduceAdd] at M
    replace S := S.sub [(0, _), (1, _), (2, _), (7, _), (8, _), (28, _), (35, _), (42, _), (49, _), (58, _), (65, _), (73, _), (80, _)] rfl
    refine wpList_nil ?_
    refine block_normal ?_
    refine end_noneN S rfl ?_
    exact ⟨_, _, _, _, rfl, M⟩
  clear S; intro h80 S
  refine st_condF S rfl ?_
  refine nxD ?_
  refine st_go [1, 1] S rfl (by kernel_rfl) ?_; clear S a; intro a S
  refine nxC ?_
  refine st_fi (t := 87) S rfl ?_ ?_
  · clear S; intro h87 S
    refine st_condF S rfl ?_
    refine wp_skip ?_
    refine block_normal ?_
    refine end_noneN S rfl ?_
    exfalso; omega
  clear S; intro h87 S
  refine st_condT S rfl ?_
  refine wp_seq ?_
  obtain rfl : f = 9 := by omega
  refine wp_region_lit ?_
  refine st_go [1] S rfl (by kernel_rfl) ?_; clear S a; intro a S
  refine st_call (xs := [(Operand.tmp 89), (Operand.const (Value.int IntKind.i64 1))]) S (enters_of Try.func66 (by decide) rfl) rfl rfl rfl (numI_at 1 M rfl (by decide)) ?_
  rintro _ w24 ⟨bv1, rfl, M1⟩; refine ⟨_, rfl, ?_⟩; clear S a; intro a S; replace M := M1; clear M1
  have hN := nmW_bd 1 (l, sh)
  obtain ⟨s1, hs1⟩ : ∃ s1, (nmW 1 (l, sh)).2 = s1 := ⟨_, rfl⟩
  obtain ⟨N, hNe⟩ : ∃ N : Nat, (nmW 1 (l, sh)).1 = (N : Int) := ⟨(nmW 1 (l, sh)).1.toNat, by omega⟩
  rw [hs1] at M
  rw [hNe] at S hN
  refine st_y S rfl rfl rfl (y_move S rfl) ?_; clear S a; intro a S
  refine nxC ?_
  refine wp_block ?_
  refine wp_loop_g (fun q a w' => ∃ (j : Nat), j ≤ N ∧ q = N - j ∧ Sees 112 a [(0, .pointer (some ⟨bf, 0, none⟩)), (1, .pointer (some ⟨bm, 0, none⟩)), (90, .int .i64 (N : Int)), (91, .int .i64 (j : Int))] ∧ ∃ bv' vx' xlo xhi, Mem wc w' (.blk bf (rdrC bv' (wrsW j s1).2.2) 105 :: lfE lo hi bv' (wrsW j s1).2.1 :: .blk bm (m.cells vx') 42 :: rowE xlo xhi 72 9 vx' (x ++ (wrsW j s1).1).length (wcells (x ++ (wrsW j s1).1)) :: H)) (N) ?_ ?_
  · skip
    exact ⟨0, Nat.zero_le _, rfl, S.sub _ rfl, _, _, _, _, by simp only [wrsW, List.append_nil]; exact M⟩
  clear S M a; intro m a wl
  clear bv bv1 xlo xhi xa xc
  rintro ⟨j, hj, rfl, S, bv, vx, xlo, xhi, M⟩
  obtain ⟨y, s2, hy⟩ : ∃ y s2, wrsW j s1 = (y, s2) := ⟨_, _, rfl⟩
  have hyl : y.length = j := by have := wrsW_len j s1; rw [hy] at this; exact this
  have hxy : (x ++ y).length ≤ 1300 := by rw [List.length_append]; omega
  rw [hy] at M
  simp only at M
  obtain ⟨xa, xc, rfl, -, -⟩ := (M.readRow 3 rfl (by unfold maxLen; omega)).form
  refine nxD ?_
  refine st_go [1] S rfl (by kernel_rfl) ?_; clear S a; intro a S
  refine nxC ?_
  refine wp_seq ?_
  refine st_fi (t := 92) S rfl ?_ ?_
  · clear S; intro h92 S
    refine st_condF S rfl ?_
    refine wp_exit ?_
    refine then_exit ?_
    refine then_exit ?_
    refine block_hit ?_
    refine block_normal ?_
    refine end_noneN S rfl ?_
    obtain rfl : j = N := by omega
    have e : fldP 9 (m, x, (l, sh)) = (m, x ++ y, s2) := by unfold fldP; simp only; rw [hNe, Int.toNat_natCast, hs1, hy]
    rw [e]; exact ⟨_, _, _, _, rfl, M⟩
  clear S; intro h92 S
  refine st_condT S rfl ?_
  refine wp_skip ?_
  refine then_normal ?_
  refine wp_seq ?_
  refine wp_block ?_
  refine nxD ?_
  replace M := M.front 1 rfl
  simp only [List.eraseIdx_cons_succ, List.eraseIdx_cons_zero] at M
  replace M := M.front 1 rfl
  simp only [List.eraseIdx_cons_succ, List.eraseIdx_cons_zero] at M
  refine st_y S rfl rfl rfl (y_move S rfl) ?_; clear S a; intro a S
  refine st_call (xs := [(Operand.tmp 93), (Operand.const (Value.int IntKind.i64 1))]) S (enters_of Try.func66 (by decide) rfl) rfl rfl rfl (numI_at 1 M rfl (by decide)) ?_
  rintro _ w25 ⟨bv1, rfl, M1⟩; refine ⟨_, rfl, ?_⟩; clear S a; intro a S; replace M := M1; clear M1
  refine st_y S rfl rfl rfl (y_build (ps := [(0, (Operand.tmp 94))]) (pl := [(0, 1), (1, 8)]) (z := [.int .i64 0, .int .u8 0, .int .u8 0, .int .u8 0, .int .u8 0, .int .u8 0, .int .u8 0, .int .u8 0, .int .u8 0]) (cs := [_, _, _, _, _, _, _, _, _]) S (by kernel_rfl) rfl (rfl)) ?_; clear S a; intro a S
  refine st_alloc S M rfl rfl #[.int .i64 0, .int .u8 0, .int .u8 0, .int .u8 0, .int .u8 0, .int .u8 0, .int .u8 0, .int .u8 0, .int .u8 0] (by kernel_rfl) ?_; clear S M a; intro a w26 bW S M hB
  refine st_store (sz := 9) (us := [_, _, _, _, _, _, _, _, _]) S M 0 rfl (by kernel_rfl) rfl rfl rfl rfl rfl rfl (by first | decide | (simp; done) | (simp; omega)) ?_; clear M; intro w27 M
  simp only [putL, List.set_cons_zero, List.set_cons_succ, Nat.reduceAdd] at M
  refine nxC ?_
  refine wp_seq ?_
  replace M := M.front 2 rfl
  simp only [List.eraseIdx_cons_succ, List.eraseIdx_cons_zero] at M
  replace M := M.front 2 rfl
  simp only [List.eraseIdx_cons_succ, List.eraseIdx_cons_zero] at M
  refine wp_regionK [3, 4] #[false, false, false, false, false] rfl M (by kernel_rfl) ?_; clear M; intro w28 M
  refine k_pure (listed' := #[true, false, false, false, false]) 0 S rfl rfl rfl rfl (by kernel_rfl) rfl (fun _ d _ _ _ h => by cases d <;> exact h) (fun w => y_fieldAddr (k := 1) S (by kernel_rfl) rfl) ?_; clear S a; intro a S
  refine k_pure (listed' := #[true, true, false, false, false]) 1 S rfl rfl rfl rfl (by kernel_rfl) rfl (fun _ d _ _ _ h => by cases d <;> exact h) (fun w => y_sliceA (m := 8) (sz := 1) S (by kernel_rfl) rfl) ?_; clear S a; intro a S
  refine k_pure (listed' := #[true, true, true, false, false]) 2 S rfl rfl rfl rfl (by kernel_rfl) rfl (fun _ d _ _ _ h => by cases d <;> exact h) (fun w => y_move S rfl) ?_; clear S a; intro a S
  refine k_one (listed' := #[true, true, true, true, false]) 3 rfl (by kernel_rfl) rfl ?_
  refine st_call (xs := [(Operand.tmp 98), (Operand.const (Value.int IntKind.i64 8))]) S (enters_of Try.func74 (by decide) rfl) rfl rfl rfl (takeW_at 8 M rfl (by decide)) ?_
  rintro _ w29 ⟨v1, bv1, rfl, M1, hT⟩; refine ⟨_, rfl, ?_⟩; clear S a; intro a S; replace M := M1; clear M1
  obtain ⟨t, ht⟩ : ∃ t, tkW 8 (nmW 1 s2).2 = t := ⟨_, rfl⟩
  have htl : t.1.length = 8 := by rw [← ht, tkW_len]
  rw [ht] at M hT
  refine wpList_nil ?_; refine then_normal ?_; refine ⟨fun h => absurd h (by decide), ?_⟩
  refine k_one (listed' := #[true, true, true, true, true]) 4 rfl (by kernel_rfl) rfl ?_
  refine st_copy (e := 5) (us := bcells t.1) S M 2 rfl rfl (by kernel_rfl) rfl rfl rfl (hT) (List.take_of_length_le (by rw [bcells_length]; omega)) (allOne_bcells _) (by rw [bcells_length, htl]; exact (by decide : 0 + 1 + 8 ≤ 9)) ?_; clear S M a; intro a w30 S M
  simp only [List.set_cons_zero, List.set_cons_succ] at M
  refine wpList_nil ?_; refine then_normal ?_; refine ⟨fun h => absurd h (by decide), ?_⟩
  refine k_end (by kernel_rfl) ?_
  refine then_normal ?_
  replace M := M.blkEq 2 rfl (Wr.putVal _ htl)
  simp only [List.set_cons_zero, List.set_cons_succ] at M
  obtain ⟨p, hp⟩ : ∃ p : Wr, p = ⟨(nmW 1 s2).1, v8 t.1⟩ := ⟨_, rfl⟩
  rw [← hp] at M
  refine wp_regionK [7, 10] #[false, false, false, false, false, false, false, false, false, false, false] rfl M (by kernel_rfl) ?_; clear M; intro w31 M
  refine k_pure (listed' := #[true, false, false, false, false, false, false, false, false, false, false]) 0 S rfl rfl rfl rfl (by kernel_rfl) rfl (fun _ d _ _ _ h => by cases d <;> exact h) (fun w => y_move S rfl) ?_; clear S a; intro a S
  refine k_pure (listed' := #[true, true, false, false, false, false, false, false, false, false, false]) 1 S rfl rfl rfl rfl (by kernel_rfl) rfl (fun _ d _ _ _ h => by cases d <;> exact h) (fun w => y_move S rfl) ?_; clear S a; intro a S
  refine k_pure (listed' := #[true, true, true, false, false, false, false, false, false, false, false]) 2 S rfl rfl rfl rfl (by kernel_rfl) rfl (fun _ d _ _ _ h => by cases d <;> exact h) (fun w => y_nilCheck S rfl) ?_; clear S a; intro a S
  refine k_pure (listed' := #[true, true, true, true, false, false, false, false, false, false, false]) 3 S rfl rfl rfl rfl (by kernel_rfl) rfl (fun _ d _ _ _ h => by cases d <;> exact h) (fun w => y_fieldAddr (k := 23) S (by kernel_rfl) rfl) ?_; clear S a; intro a S
  refine k_read (listed' := #[true, true, true, true, true, false, false, false, false, false, false]) 4 S rfl rfl rfl rfl (by kernel_rfl) rfl (fun _ d _ _ _ h => by cases d <;> exact h) (fun w hW => have M := M.grow hW; y_load S (by kernel_rfl) rfl (M.cell 3 rfl rfl)) ?_; clear S a; intro a S
  refine k_read (listed' := #[true, true, true, true, true, true, false, false, false, false, false]) 5 S rfl rfl rfl rfl (by kernel_rfl) rfl (fun _ d _ _ _ h => by cases d <;> exact h) (fun w hW => have M := M.grow hW; y_loadAgg (cs := [_, _, _, _, _, _, _, _, _]) S (by kernel_rfl) rfl rfl (M.cellsAt (k := 9) 2 rfl rfl)) ?_; clear S a; intro a S
  refine k_one (listed' := #[true, true, true, true, true, true, true, false, false, false, false]) 6 rfl (by kernel_rfl) rfl ?_
  refine st_lit (ps := [(0, (Operand.tmp 106))]) (e := 72) (sz := 9) (zl := [.int .i64 0, .int .u8 0, .int .u8 0, .int .u8 0, .int .u8 0, .int .u8 0, .int .u8 0, .int .u8 0, .int .u8 0]) (cs := [_, _, _, _, _, _, _, _, _]) S M rfl rfl (by kernel_rfl) rfl (rfl) ?_; clear S M a; intro a w32 bZ S M hB
  refine wpList_nil ?_; refine then_normal ?_; refine ⟨fun _ => hB, ?_⟩
  refine k_one (listed' := #[true, true, true, true, true, true, true, true, false, false, false]) 7 rfl (by kernel_rfl) rfl ?_
  refine st_append (e := 72) (sz := 9) (by_ := 16) (zc := [.int .i64 0, .int .u8 0, .int .u8 0, .int .u8 0, .int .u8 0, .int .u8 0, .int .u8 0, .int .u8 0, .int .u8 0]) S M 5 rfl rfl (by kernel_rfl) rfl (by decide) rfl rfl rfl (show Rd _ _ _ 9 _ 1 (wcells [p]) from M.sliceAt 0 rfl (M.cellsAt (k := 9) 0 rfl rfl) rfl (Nat.le_refl _) (by unfold maxLen; omega)) (allOne_wcells _) (by omega) (by unfold maxLen; omega) ?_; clear S M a; intro a w33 vA loA hiA S M
  refine wpList_nil ?_; refine then_normal ?_; refine ⟨fun h => absurd h (by decide), ?_⟩
  refine k_pure (listed' := #[true, true, true, true, true, true, true, true, true, false, false]) 8 S rfl rfl rfl rfl (by kernel_rfl) rfl (fun _ d _ _ _ h => by cases d <;> exact h) (fun w => y_nilCheck S rfl) ?_; clear S a; intro a S
  refine k_pure (listed' := #[true, true, true, true, true, true, true, true, true, true, false]) 9 S rfl rfl rfl rfl (by kernel_rfl) rfl (fun _ d _ _ _ h => by cases d <;> exact h) (fun w => y_fieldAddr (k := 23) S (by kernel_rfl) rfl) ?_; clear S a; intro a S
  refine k_one (listed' := #[true, true, true, true, true, true, true, true, true, true, true]) 10 rfl (by kernel_rfl) rfl ?_
  obtain ⟨aA, cA, rfl, -, -⟩ := (M.readAll 0 rfl (by unfold maxLen; omega)).form
  refine st_store (sz := 1) (us := [_]) S M 5 rfl (by kernel_rfl) rfl rfl rfl rfl rfl rfl (by first | decide | (simp; done) | (simp; omega)) ?_; clear M; intro w34 M
  simp only [putL, List.set_cons_zero, List.set_cons_succ, Nat.reduceAdd] at M
  refine wpList_nil ?_; refine then_normal ?_; refine ⟨fun h => absurd h (by decide), ?_⟩
  refine k_end (by kernel_rfl) ?_
  replace S := S.sub [(0, _), (1, _), (90, _), (91, _), (92, _), (6, _)] rfl
  refine block_normal ?_
  refine nxF ?_
  (first | refine st_y S rfl rfl rfl (y_addN S rfl rfl (by omega)) ?_ | refine st_y S rfl rfl rfl (y_int S rfl rfl rfl) ?_); clear S a; intro a S
  refine st_go [1] S rfl (by kernel_rfl) ?_; clear S a; intro a S
  refine nxC ?_
  replace M := M.drop 1
  simp only [List.eraseIdx_cons_succ, List.eraseIdx_cons_zero] at M
  replace M := M.drop 3
  simp only [List.eraseIdx_cons_succ, List.eraseIdx_cons_zero] at M
  replace M := M.front 3 rfl
  simp only [List.eraseIdx_cons_succ, List.eraseIdx_cons_zero] at M
  replace M := M.front 3 rfl
  simp only [List.eraseIdx_cons_succ, List.eraseIdx_cons_zero] at M
  replace M := M.front 3 rfl
  simp only [List.eraseIdx_cons_succ, List.eraseIdx_cons_zero] at M
  have e : wrsW (j + 1) s1 = (y ++ [p], t.2) := by rw [wrsW, hy]; simp only; rw [ht, ← hp]
  refine ⟨N - (j + 1), by omega, j + 1, by omega, rfl, S.sub _ rfl, bv1, .slice aA ((x ++ y).length + 1) cA, loA, hiA, ?_⟩
  rw [e]
  simp only
  rw [← List.append_assoc, wcells_append, List.length_append (bs := [p])]
  exact M

end Go.Proofs.Ytojgcgaoajfihaa
