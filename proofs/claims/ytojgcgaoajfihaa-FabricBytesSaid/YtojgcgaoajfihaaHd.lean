/-
  Package fabric: the reader, Read.
-/
import Derived.Test.YtojgcgaoajfihaaHc
import Derived.Test.YtojgcgaoajfihaaRdh
namespace Go.Proofs.Ytojgcgaoajfihaa
open Go.RowKit Go.Sort

theorem RdH.at2 {wc w : World} {H : List Ent} {e f : Ent} {bv : Value} {bs : List UInt8} (h : RdH wc H bv bs) (M : Mem wc w (e :: f :: H)) : Bs 0 w.heap.size w bv bs := h w ((M.drop 0).drop 0)
theorem RdH.at3 {wc w : World} {H : List Ent} {e f g : Ent} {bv : Value} {bs : List UInt8} (h : RdH wc H bv bs) (M : Mem wc w (e :: f :: g :: H)) : Bs 0 w.heap.size w bv bs := h w (((M.drop 0).drop 0).drop 0)
theorem RdH.cut {wc : World} {H : List Ent} {bv : Value} {bs : List UInt8} {i n : Nat} (h : RdH wc H bv bs) (hi : i + n ≤ bs.length) : RdH wc H (cutV bv i (i + n) (i + n) 1) ((bs.drop i).take n) := fun w M => by
  have hb := h w M
  have := hb.cutB (i := i) (j := i + n) (mx := i + n) (by omega) hi (Nat.le_refl _) (by have := hb.cap; omega)
  rwa [Nat.add_sub_cancel_left] at this
theorem leB_leN2 {l : List UInt8} (h : l.length = 2) : leB (leN l : Int) 2 = l := by
  match l, h with
  | [a, b], _ =>
    have ha := UInt8.toNat_lt a
    have hb := UInt8.toNat_lt b
    have e : ∀ (z : Int) (c : UInt8), z % 256 = (c.toNat : Int) → byteOf z = c := fun z c h => by
      apply UInt8.toNat_inj.1
      have := byteOf_toNat z
      omega
    simp only [leB, leN, List.range, List.range.loop, List.map_cons, List.map_nil, Int.pow_zero, Int.ediv_one]
    rw [e _ a (by omega), e _ b (by omega)]
theorem leN_leB2n {n : Nat} (h : n < 65536) : leN (leB (n : Int) 2) = n := by
  have := leN_leB2 (n := (n : Int)) (by omega) (by omega); omega

theorem more_any {wc w : World} {H : List Ent} {bR : Nat} {bv : Value} {k : Nat} {bs : List UInt8} (M : Mem wc w (.blk bR #[bv, .int .i64 (k : Int)] 57 :: H)) (hb : RdH wc H bv bs) :
    Calls Try.prog 23 #[.pointer (some ⟨bR, 0, none⟩)] w fun e w' => e = .returned (.bool (decide (k < bs.length))) ∧ Mem wc w' (.blk bR #[bv, .int .i64 (k : Int)] 57 :: H) := by
  refine calls_enter Try.func23 rfl 13 rfl rfl ?_; intro a S
  refine wp_seq ?_
  skip
  refine wp_region_lit ?_
  refine st_go [1] S rfl (by kernel_rfl) ?_; clear S a; intro a S
  refine nxC ?_
  refine wp_seq ?_
  refine wp_quiet M (by kernel_rfl) (by kernel_rfl) ?_
  refine qt_y S rfl rfl rfl (fun w M => y_move S rfl) ?_; clear S a; intro a S
  refine qt_y S rfl rfl rfl (fun w M => y_nilCheck S rfl) ?_; clear S a; intro a S
  refine qt_y S rfl rfl rfl (fun w M => y_fieldAddr (k := 1) S (by kernel_rfl) rfl) ?_; clear S a; intro a S
  refine qt_y S rfl rfl rfl (fun w M => y_load S (by kernel_rfl) rfl (M.cell 0 rfl rfl)) ?_; clear S a; intro a S
  refine qt_y S rfl rfl rfl (fun w M => y_move S rfl) ?_; clear S a; intro a S
  refine qt_y S rfl rfl rfl (fun w M => y_nilCheck S rfl) ?_; clear S a; intro a S
  refine qt_y S rfl rfl rfl (fun w M => y_fieldAddr (k := 0) S (by kernel_rfl) rfl) ?_; clear S a; intro a S
  refine qt_y S rfl rfl rfl (fun w M => y_load S (by kernel_rfl) rfl (M.cell 0 rfl rfl)) ?_; clear S a; intro a S
  refine qt_y S rfl rfl rfl (fun w M => y_lenR (E := 5) S rfl (hb.at M) (by kernel_rfl)) ?_; clear S a; intro a S
  refine qt_y S rfl rfl rfl (fun w M => y_int S rfl rfl rfl) ?_; clear S a; intro a S
  refine qt_y S rfl rfl rfl (fun w M => y_assign S rfl) ?_; clear S a; intro a S
  refine wpQuiet_nil ?_; clear M; intro w1 M
  refine then_normal ?_
  refine wp_ret ?_
  refine end_one S rfl (res_tmp rfl) ?_
  refine ⟨ret_bool ?_, M⟩; clear S M; rw [Bool.eq_iff_iff]; simp

/-- no message begins here -/
def NoNext (bs : List UInt8) (k : Nat) : Prop := ∀ q : Msg × List Wr, q.1.may q.2 = true → k + 2 + (msB q).length ≤ bs.length → (bs.drop k).take 2 = leB (msB q).length 2 → (bs.drop (k + 2)).take (msB q).length = msB q → False
def NextPost (bs : List UInt8) (k : Nat) (wc : World) (bR : Nat) (bv : Value) (H : List Ent) (e : Ending) (w' : World) : Prop :=
  ∃ (q : Msg × List Wr) (ad : Option Addr) (cp : Nat) (c : Int) (k' lo hi : Nat), e = .returned (.tuple #[.agg (q.1.cells (.slice ad q.2.length cp)), .int .i64 c]) ∧
    Mem wc w' (.blk bR #[bv, .int .i64 (k' : Int)] 57 :: rowE lo hi 72 9 (.slice ad q.2.length cp) q.2.length (wcells q.2) :: H) ∧
    ((c = 0 ∧ q.1.may q.2 = true ∧ k' = k + 2 + (msB q).length ∧ k' ≤ bs.length ∧ (bs.drop k).take 2 = leB (msB q).length 2 ∧ (bs.drop (k + 2)).take (msB q).length = msB q) ∨ (c ≠ 0 ∧ NoNext bs k))
theorem next_no {bs : List UInt8} {k k' : Nat} {wc w' : World} {bR : Nat} {bv : Value} {H : List Ent} {c : Int} (M : Mem wc w' (.blk bR #[bv, .int .i64 (k' : Int)] 57 :: H)) (hc : c ≠ 0) (h : NoNext bs k) :
    NextPost bs k wc bR bv H (.returned (.tuple #[.agg (zM.cells (.slice none 0 0)), .int .i64 c])) w' :=
  ⟨(zM, []), none, 0, c, k', _, _, rfl, (M.rowNil 72 9).front 1 rfl, .inr ⟨hc, h⟩⟩
theorem ReadMPost.form {bs : List UInt8} {w w' : World} {e : Ending} (h : ReadMPost bs w e w') : ∃ (q : Msg × List Wr) (ad : Option Addr) (cp : Nat) (c : Int), e = .returned (.tuple #[.agg (q.1.cells (.slice ad q.2.length cp)), .int .i64 c]) ∧ Fresh w w' 72 9 (.slice ad q.2.length cp) q.2.length (wcells q.2) ∧ q.2.length ≤ 256 ∧
    ((c = 0 ∧ q.1.may q.2 = true ∧ msB q = bs) ∨ (c = 40 ∧ ∀ q : Msg × List Wr, q.1.may q.2 = true → msB q ≠ bs)) := by
  obtain ⟨m, x, v', c, rfl, hF, hx, hc⟩ := h
  obtain ⟨ad, cp, rfl, -, -⟩ := (hF.rd0 (by unfold maxLen; omega)).form
  refine ⟨(m, x), ad, cp, c, rfl, hF, hx, ?_⟩
  rcases hc with hc | ⟨h1, -, -, -, h4⟩
  · exact .inl hc
  · exact .inr ⟨h1, fun q hq => h4 q.1 q.2 hq⟩

set_option maxHeartbeats 1000000 in
theorem next_any {wc w : World} {H : List Ent} {bR : Nat} {bv : Value} {k : Nat} {bs : List UInt8} (M : Mem wc w (.blk bR #[bv, .int .i64 (k : Int)] 57 :: H)) (hb : RdH wc H bv bs) (hk : k ≤ bs.length) (hl : bs.length ≤ 70000000000000) :
    Calls Try.prog 24 #[.pointer (some ⟨bR, 0, none⟩)] w (NextPost bs k wc bR bv H) := by
  have hN : getN bs (k : Int) 2 = if k + 2 ≤ bs.length then (leN ((bs.drop k).take 2) : Int) else 0 := by
    unfold getN
    by_cases h : k + 2 ≤ bs.length
    · rw [if_pos h, if_pos (by omega)]; rfl
    · rw [if_neg h, if_neg (by omega)]
  have hE : getE bs (k : Int) 2 = if k + 2 ≤ bs.length then 0 else 40 := by
    unfold getE
    by_cases h : k + 2 ≤ bs.length
    · rw [if_pos h, if_neg (by omega), if_neg (by omega)]
    · rw [if_neg h, if_neg (by omega), if_pos (by omega)]
  refine calls_enter Try.func24 rfl 66 rfl rfl ?_; intro a S
  refine wp_seq ?_
  skip
  refine wp_region_lit ?_
  refine st_alloc S M rfl rfl #[.int .i8 0, .int .i64 0, .int .i64 0, .int .i64 0, .int .i64 0, .int .i64 0, .int .i64 0, .int .i64 0, .int .i64 0, .int .i8 0, .int .i64 0, .int .u8 0, .int .u8 0, .int .u8 0, .int .u8 0, .int .u8 0, .int .u8 0, .int .u8 0, .int .u8 0, .int .i64 0, .bool false, .int .i64 0, .int .i64 0, .slice none 0 0] (by kernel_rfl) ?_; clear S M a; intro a w1 bO S M hB
  refine st_go [1] S rfl (by kernel_rfl) ?_; clear S a; intro a S
  refine nxC ?_
  refine wp_seq ?_
  refine wp_regionK [] #[false, false, false, false, false, false, false, false, false, false, false, false, false, false] rfl M (by kernel_rfl) ?_; clear M; intro w2 M
  refine k_pure (listed' := #[true, false, false, false, false, false, false, false, false, false, false, false, false, false]) 0 S rfl rfl rfl rfl (by kernel_rfl) rfl (fun _ d _ _ _ h => by cases d <;> exact h) (fun w => y_move S rfl) ?_; clear S a; intro a S
  refine k_pure (listed' := #[true, true, false, false, false, false, false, false, false, false, false, false, false, false]) 1 S rfl rfl rfl rfl (by kernel_rfl) rfl (fun _ d _ _ _ h => by cases d <;> exact h) (fun w => y_nilCheck S rfl) ?_; clear S a; intro a S
  refine k_pure (listed' := #[true, true, true, false, false, false, false, false, false, false, false, false, false, false]) 2 S rfl rfl rfl rfl (by kernel_rfl) rfl (fun _ d _ _ _ h => by cases d <;> exact h) (fun w => y_fieldAddr (k := 0) S (by kernel_rfl) rfl) ?_; clear S a; intro a S
  refine k_read (listed' := #[true, true, true, true, false, false, false, false, false, false, false, false, false, false]) 3 S rfl rfl rfl rfl (by kernel_rfl) rfl (fun _ d _ _ _ h => by cases d <;> exact h) (fun w hW => have M := M.grow hW; y_load S (by kernel_rfl) rfl (M.cell 1 rfl rfl)) ?_; clear S a; intro a S
  refine k_pure (listed' := #[true, true, true, true, true, false, false, false, false, false, false, false, false, false]) 4 S rfl rfl rfl rfl (by kernel_rfl) rfl (fun _ d _ _ _ h => by cases d <;> exact h) (fun w => y_move S rfl) ?_; clear S a; intro a S
  refine k_pure (listed' := #[true, true, true, true, true, true, false, false, false, false, false, false, false, false]) 5 S rfl rfl rfl rfl (by kernel_rfl) rfl (fun _ d _ _ _ h => by cases d <;> exact h) (fun w => y_nilCheck S rfl) ?_; clear S a; intro a S
  refine k_pure (listed' := #[true, true, true, true, true, true, true, false, false, false, false, false, false, false]) 6 S rfl rfl rfl rfl (by kernel_rfl) rfl (fun _ d _ _ _ h => by cases d <;> exact h) (fun w => y_fieldAddr (k := 1) S (by kernel_rfl) rfl) ?_; clear S a; intro a S
  refine k_read (listed' := #[true, true, true, true, true, true, true, true, false, false, false, false, false, false]) 7 S rfl rfl rfl rfl (by kernel_rfl) rfl (fun _ d _ _ _ h => by cases d <;> exact h) (fun w hW => have M := M.grow hW; y_load S (by kernel_rfl) rfl (M.cell 1 rfl rfl)) ?_; clear S a; intro a S
  refine k_one (listed' := #[true, true, true, true, true, true, true, true, true, false, false, false, false, false]) 8 rfl (by kernel_rfl) rfl ?_
  refine st_call (xs := [(Operand.tmp 12), (Operand.tmp 16), (Operand.const (Value.int IntKind.i64 2))]) S (enters_of Try.func42 (by decide) rfl) rfl rfl rfl (get_any _ bs _ 2 _ (hb.at2 M) (by omega)) ?_
  rintro _ w3 ⟨rfl, hK⟩; refine ⟨_, rfl, ?_⟩; clear S a; intro a S; replace M := M.grow hK
  rw [hN, hE] at S
  refine wpList_nil ?_; refine then_normal ?_; refine ⟨fun _ => hK, ?_⟩
  refine k_pure (listed' := #[true, true, true, true, true, true, true, true, true, true, false, false, false, false]) 9 S rfl rfl rfl rfl (by kernel_rfl) rfl (fun _ d _ _ _ h => by cases d <;> exact h) (fun w => y_move S rfl) ?_; clear S a; intro a S
  refine k_pure (listed' := #[true, true, true, true, true, true, true, true, true, true, true, false, false, false]) 10 S rfl rfl rfl rfl (by kernel_rfl) rfl (fun _ d _ _ _ h => by cases d <;> exact h) (fun w => y_extract S rfl rfl) ?_; clear S a; intro a S
  refine k_pure (listed' := #[true, true, true, true, true, true, true, true, true, true, true, true, false, false]) 11 S rfl rfl rfl rfl (by kernel_rfl) rfl (fun _ d _ _ _ h => by cases d <;> exact h) (fun w => y_extract S rfl rfl) ?_; clear S a; intro a S
  refine k_pure (listed' := #[true, true, true, true, true, true, true, true, true, true, true, true, true, false]) 12 S rfl rfl rfl rfl (by kernel_rfl) rfl (fun _ d _ _ _ h => by cases d <;> exact h) (fun w => y_assign S rfl) ?_; clear S a; intro a S
  refine k_pure (listed' := #[true, true, true, true, true, true, true, true, true, true, true, true, true, true]) 13 S rfl rfl rfl rfl (by kernel_rfl) rfl (fun _ d _ _ _ h => by cases d <;> exact h) (fun w => y_assign S rfl) ?_; clear S a; intro a S
  refine k_end (by kernel_rfl) ?_
  refine then_normal ?_
  refine wp_seq ?_
  refine nxD ?_
  refine st_go [1, 1] S rfl (by kernel_rfl) ?_; clear S a; intro a S
  refine nxC ?_
  refine st_split (t := 21) S rfl ?_ ?_
  · clear S; intro h21 S
    refine st_condT S rfl ?_
    refine wp_seq ?_
    have hno : ¬ k + 2 ≤ bs.length := by
      intro h; rw [if_pos h] at h21; simp at h21
    refine wp_region_lit ?_
    refine st_y S rfl rfl rfl (y_build (ps := []) (pl := [(0, 1), (1, 1), (2, 1), (3, 1), (4, 1), (5, 3), (8, 1), (9, 1), (10, 1), (11, 8), (19, 1), (20, 1), (21, 1), (22, 1), (23, 1)]) (z := [.int .i8 0, .int .i64 0, .int .i64 0, .int .i64 0, .int .i64 0, .int .i64 0, .int .i64 0, .int .i64 0, .int .i64 0, .int .i8 0, .int .i64 0, .int .u8 0, .int .u8 0, .int .u8 0, .int .u8 0, .int .u8 0, .int .u8 0, .int .u8 0, .int .u8 0, .int .i64 0, .bool false, .int .i64 0, .int .i64 0, .slice none 0 0]) (cs := [_, _, _, _, _, _, _, _, _, _, _, _, _, _, _, _, _, _, _, _, _, _, _, _]) S (by kernel_rfl) rfl (rfl)) ?_; clear S a; intro a S
    refine st_store (sz := 24) (us := [_, _, _, _, _, _, _, _, _, _, _, _, _, _, _, _, _, _, _, _, _, _, _, _]) S M 0 rfl (by kernel_rfl) rfl rfl rfl rfl rfl rfl (by first | decide | (simp; done) | (simp; omega)) ?_; clear M; intro w4 M
    simp only [putL, List.set_cons_zero, List.set_cons_succ, Nat.reduceAdd] at M
    refine st_go [1] S rfl (by kernel_rfl) ?_; clear S a; intro a S
    replace S := S.sub [(0, _), (2, _), (4, _), (5, _), (21, _), (3, _)] rfl
    refine nxC ?_
    refine wp_ret ?_
    refine then_ret ?_
    refine end_two S rfl (res_agg (cs := [_, _, _, _, _, _, _, _, _, _, _, _, _, _, _, _, _, _, _, _, _, _, _, _]) (by kernel_rfl) rfl rfl (M.cellsAt (k := 24) 0 rfl rfl)) (res_tmp rfl) ?_
    replace M := M.drop 0
    simp only [List.eraseIdx_cons_succ, List.eraseIdx_cons_zero] at M
    exact next_no M (by omega) fun q _ h1 _ _ => by omega
  clear S; intro h21 S
  refine st_condF S rfl ?_
  refine wp_skip ?_
  refine then_normal ?_
  refine wp_seq ?_
  have hin : k + 2 ≤ bs.length := by
    apply Classical.byContradiction; intro h; rw [if_neg h] at h21; simp at h21
  rw [if_pos hin, if_pos hin] at S
  obtain ⟨n, hn⟩ : ∃ n, leN ((bs.drop k).take 2) = n := ⟨_, rfl⟩
  rw [hn] at S
  have hn2 : n < 65536 := by
    have := leN_lt ((bs.drop k).take 2)
    rw [List.length_take, List.length_drop, Nat.min_eq_left (by omega), hn] at this; simpa using this
  have hnn : leB (n : Int) 2 = (bs.drop k).take 2 := by
    rw [← hn]; exact leB_leN2 (by rw [List.length_take, List.length_drop]; omega)
  have hNo : ∀ q : Msg × List Wr, q.1.may q.2 = true → (bs.drop k).take 2 = leB (msB q).length 2 → (msB q).length = n := fun q hq h => by
    rw [← hn, h]; exact (leN_leB2n (by have := msB_len hq; omega)).symm
  refine wp_region_lit ?_
  refine st_run [1, 1, 2, 2] S M rfl (by kernel_rfl) ?_; clear S a; intro a S
  (first | refine st_y S rfl rfl rfl (y_addN S rfl rfl (by omega)) ?_ | refine st_y S rfl rfl rfl (y_int S rfl rfl rfl) ?_); clear S a; intro a S
  refine st_go [1] S rfl (by kernel_rfl) ?_; clear S a; intro a S
  replace S := S.sub [(0, _), (2, _), (3, _), (4, _), (5, _), (21, _), (6, _)] rfl
  refine nxC ?_
  refine wp_seq ?_
  refine nxD ?_
  refine st_run [1, 1, 1, 1, 2] S M rfl (by kernel_rfl) ?_; clear S a; intro a S
  refine st_y S rfl rfl rfl (y_lenR (E := 5) S rfl (hb.at2 M) (by kernel_rfl)) ?_; clear S a; intro a S
  refine st_go [1] S rfl (by kernel_rfl) ?_; clear S a; intro a S
  (first | refine st_y S rfl rfl rfl (y_subN S rfl rfl (by omega)) ?_ | refine st_y S rfl rfl rfl (y_int S rfl rfl rfl) ?_); clear S a; intro a S
  refine st_go [1] S rfl (by kernel_rfl) ?_; clear S a; intro a S
  refine nxC ?_
  refine st_if (t := 36) S rfl ?_ ?_
  · clear S; intro h36 S
    refine st_condT S rfl ?_
    refine nxD ?_
    refine st_y S rfl rfl rfl (y_build (ps := []) (pl := [(0, 1), (1, 1), (2, 1), (3, 1), (4, 1), (5, 3), (8, 1), (9, 1), (10, 1), (11, 8), (19, 1), (20, 1), (21, 1), (22, 1), (23, 1)]) (z := [.int .i8 0, .int .i64 0, .int .i64 0, .int .i64 0, .int .i64 0, .int .i64 0, .int .i64 0, .int .i64 0, .int .i64 0, .int .i8 0, .int .i64 0, .int .u8 0, .int .u8 0, .int .u8 0, .int .u8 0, .int .u8 0, .int .u8 0, .int .u8 0, .int .u8 0, .int .i64 0, .bool false, .int .i64 0, .int .i64 0, .slice none 0 0]) (cs := [_, _, _, _, _, _, _, _, _, _, _, _, _, _, _, _, _, _, _, _, _, _, _, _]) S (by kernel_rfl) rfl (rfl)) ?_; clear S a; intro a S
    refine st_store (sz := 24) (us := [_, _, _, _, _, _, _, _, _, _, _, _, _, _, _, _, _, _, _, _, _, _, _, _]) S M 0 rfl (by kernel_rfl) rfl rfl rfl rfl rfl rfl (by first | decide | (simp; done) | (simp; omega)) ?_; clear M; intro w5 M
    simp only [putL, List.set_cons_zero, List.set_cons_succ, Nat.reduceAdd] at M
    refine st_go [1] S rfl (by kernel_rfl) ?_; clear S a; intro a S
    refine nxC ?_
    refine wp_ret ?_
    refine then_ret ?_
    refine end_two S rfl (res_agg (cs := [_, _, _, _, _, _, _, _, _, _, _, _, _, _, _, _, _, _, _, _, _, _, _, _]) (by kernel_rfl) rfl rfl (M.cellsAt (k := 24) 0 rfl rfl)) (res_tmp rfl) ?_
    replace M := M.drop 0
    simp only [List.eraseIdx_cons_succ, List.eraseIdx_cons_zero] at M
    exact next_no M (by omega) fun q hq h1 h2 _ => by
      have := hNo q hq h2; omega
  clear S; intro h36 S
  refine st_condF S rfl ?_
  refine wp_skip ?_
  refine then_normal ?_
  refine wp_seq ?_
  have hfit : k + 2 + n ≤ bs.length := by omega
  have hcut := hb.cut (i := k + 2) (n := n) hfit
  refine wp_region_lit ?_
  refine st_go [1, 1, 1] S rfl (by kernel_rfl) ?_; clear S a; intro a S
  (first | refine st_y S rfl rfl rfl (y_addN S rfl rfl (by omega)) ?_ | refine st_y S rfl rfl rfl (y_int S rfl rfl rfl) ?_); clear S a; intro a S
  refine st_go [1, 2] S rfl (by kernel_rfl) ?_; clear S a; intro a S
  refine st_store (sz := 1) (us := [_]) S M 1 rfl (by kernel_rfl) rfl rfl rfl rfl rfl rfl (by first | decide | (simp; done) | (simp; omega)) ?_; clear M; intro w6 M
  simp only [putL, List.set_cons_zero, List.set_cons_succ, Nat.reduceAdd] at M
  replace S := S.sub [(0, _), (2, _), (3, _), (4, _), (5, _), (21, _), (6, _), (36, _)] rfl
  refine nxC ?_
  refine wp_seq ?_
  refine wp_regionK [19] #[false, false, false, false, false, false, false, false, false, false, false, false, false, false, false, false, false, false, false, false, false] rfl M (by kernel_rfl) ?_; clear M; intro w7 M
  refine k_pure (listed' := #[true, false, false, false, false, false, false, false, false, false, false, false, false, false, false, false, false, false, false, false, false]) 0 S rfl rfl rfl rfl (by kernel_rfl) rfl (fun _ d _ _ _ h => by cases d <;> exact h) (fun w => y_move S rfl) ?_; clear S a; intro a S
  refine k_pure (listed' := #[true, true, false, false, false, false, false, false, false, false, false, false, false, false, false, false, false, false, false, false, false]) 1 S rfl rfl rfl rfl (by kernel_rfl) rfl (fun _ d _ _ _ h => by cases d <;> exact h) (fun w => y_nilCheck S rfl) ?_; clear S a; intro a S
  refine k_pure (listed' := #[true, true, true, false, false, false, false, false, false, false, false, false, false, false, false, false, false, false, false, false, false]) 2 S rfl rfl rfl rfl (by kernel_rfl) rfl (fun _ d _ _ _ h => by cases d <;> exact h) (fun w => y_fieldAddr (k := 0) S (by kernel_rfl) rfl) ?_; clear S a; intro a S
  refine k_read (listed' := #[true, true, true, true, false, false, false, false, false, false, false, false, false, false, false, false, false, false, false, false, false]) 3 S rfl rfl rfl rfl (by kernel_rfl) rfl (fun _ d _ _ _ h => by cases d <;> exact h) (fun w hW => have M := M.grow hW; y_load S (by kernel_rfl) rfl (M.cell 1 rfl rfl)) ?_; clear S a; intro a S
  refine k_pure (listed' := #[true, true, true, true, true, false, false, false, false, false, false, false, false, false, false, false, false, false, false, false, false]) 4 S rfl rfl rfl rfl (by kernel_rfl) rfl (fun _ d _ _ _ h => by cases d <;> exact h) (fun w => y_move S rfl) ?_; clear S a; intro a S
  refine k_pure (listed' := #[true, true, true, true, true, true, false, false, false, false, false, false, false, false, false, false, false, false, false, false, false]) 5 S rfl rfl rfl rfl (by kernel_rfl) rfl (fun _ d _ _ _ h => by cases d <;> exact h) (fun w => y_move S rfl) ?_; clear S a; intro a S
  refine k_pure (listed' := #[true, true, true, true, true, true, true, false, false, false, false, false, false, false, false, false, false, false, false, false, false]) 6 S rfl rfl rfl rfl (by kernel_rfl) rfl (fun _ d _ _ _ h => by cases d <;> exact h) (fun w => y_nilCheck S rfl) ?_; clear S a; intro a S
  refine k_pure (listed' := #[true, true, true, true, true, true, true, true, false, false, false, false, false, false, false, false, false, false, false, false, false]) 7 S rfl rfl rfl rfl (by kernel_rfl) rfl (fun _ d _ _ _ h => by cases d <;> exact h) (fun w => y_fieldAddr (k := 1) S (by kernel_rfl) rfl) ?_; clear S a; intro a S
  refine k_read (listed' := #[true, true, true, true, true, true, true, true, true, false, false, false, false, false, false, false, false, false, false, false, false]) 8 S rfl rfl rfl rfl (by kernel_rfl) rfl (fun _ d _ _ _ h => by cases d <;> exact h) (fun w hW => have M := M.grow hW; y_load S (by kernel_rfl) rfl (M.cell 1 rfl rfl)) ?_; clear S a; intro a S
  refine k_pure (listed' := #[true, true, true, true, true, true, true, true, true, true, false, false, false, false, false, false, false, false, false, false, false]) 9 S rfl rfl rfl rfl (by kernel_rfl) rfl (fun _ d _ _ _ h => by cases d <;> exact h) (fun w => y_move S rfl) ?_; clear S a; intro a S
  refine k_pure (listed' := #[true, true, true, true, true, true, true, true, true, true, true, false, false, false, false, false, false, false, false, false, false]) 10 S rfl rfl rfl rfl (by kernel_rfl) rfl (fun _ d _ _ _ h => by cases d <;> exact h) (fun w => y_nilCheck S rfl) ?_; clear S a; intro a S
  refine k_pure (listed' := #[true, true, true, true, true, true, true, true, true, true, true, true, false, false, false, false, false, false, false, false, false]) 11 S rfl rfl rfl rfl (by kernel_rfl) rfl (fun _ d _ _ _ h => by cases d <;> exact h) (fun w => y_fieldAddr (k := 1) S (by kernel_rfl) rfl) ?_; clear S a; intro a S
  refine k_read (listed' := #[true, true, true, true, true, true, true, true, true, true, true, true, true, false, false, false, false, false, false, false, false]) 12 S rfl rfl rfl rfl (by kernel_rfl) rfl (fun _ d _ _ _ h => by cases d <;> exact h) (fun w hW => have M := M.grow hW; y_load S (by kernel_rfl) rfl (M.cell 1 rfl rfl)) ?_; clear S a; intro a S
  refine k_read (listed' := #[true, true, true, true, true, true, true, true, true, true, true, true, true, true, false, false, false, false, false, false, false]) 13 S rfl rfl rfl rfl (by kernel_rfl) rfl (fun _ d _ _ _ h => by cases d <;> exact h) (fun w hW => have M := M.grow hW; y_slice3R (e := 5) (sz := 1) S (by kernel_rfl) rfl (hb.at2 M) rfl rfl rfl (by first | omega | (simp; done) | (simp; omega))) ?_; clear S a; intro a S
  refine k_two (l1 := #[true, true, true, true, true, true, true, true, true, true, true, true, true, true, true, false, false, false, false, false, false]) (l2 := #[true, true, true, true, true, true, true, true, true, true, true, true, true, true, false, false, false, false, true, false, false]) 14 18 rfl rfl (by kernel_rfl) rfl rfl ?_ ?_
  · skip
    simp only [show ((k : Int) + 2).toNat = k + 2 by omega, show ((k : Int) + 2 + (n : Int)).toNat = k + 2 + n by omega] at S
    refine st_call (xs := [(Operand.tmp 58)]) S (enters_of Try.func43 (by decide) rfl) rfl rfl rfl (readM_any _ _ _ (by first | exact hcut.at2 M | exact hcut.at3 M) (by rw [List.length_take]; omega)) ?_
    rintro _ w8 hpost
    obtain ⟨q, ad, cp, c, rfl, hF, hx, hc⟩ := hpost.form
    refine ⟨_, rfl, ?_⟩; clear S a hpost; intro a S; have hK := hF.below
    obtain ⟨lo, hi, -, M⟩ := M.pushFresh hF
    refine wpList_nil ?_; refine then_normal ?_; refine ⟨fun _ => hK, ?_⟩
    refine k_pure (listed' := #[true, true, true, true, true, true, true, true, true, true, true, true, true, true, true, true, false, false, false, false, false]) 15 S rfl rfl rfl rfl (by kernel_rfl) rfl (fun _ d _ _ _ h => by cases d <;> exact h) (fun w => y_move S rfl) ?_; clear S a; intro a S
    refine k_pure (listed' := #[true, true, true, true, true, true, true, true, true, true, true, true, true, true, true, true, true, false, false, false, false]) 16 S rfl rfl rfl rfl (by kernel_rfl) rfl (fun _ d _ _ _ h => by cases d <;> exact h) (fun w => y_extract S rfl rfl) ?_; clear S a; intro a S
    refine k_pure (listed' := #[true, true, true, true, true, true, true, true, true, true, true, true, true, true, true, true, true, true, false, false, false]) 17 S rfl rfl rfl rfl (by kernel_rfl) rfl (fun _ d _ _ _ h => by cases d <;> exact h) (fun w => y_extract S rfl rfl) ?_; clear S a; intro a S
    refine k_one (listed' := #[true, true, true, true, true, true, true, true, true, true, true, true, true, true, true, true, true, true, true, false, false]) 18 rfl (by kernel_rfl) rfl ?_
    refine st_alloc S M rfl rfl #[.int .i8 0, .int .i64 0, .int .i64 0, .int .i64 0, .int .i64 0, .int .i64 0, .int .i64 0, .int .i64 0, .int .i64 0, .int .i8 0, .int .i64 0, .int .u8 0, .int .u8 0, .int .u8 0, .int .u8 0, .int .u8 0, .int .u8 0, .int .u8 0, .int .u8 0, .int .i64 0, .bool false, .int .i64 0, .int .i64 0, .slice none 0 0] (by kernel_rfl) ?_; clear S M a; intro a w9 bN S M hB
    refine wpList_nil ?_; refine then_normal ?_; refine ⟨fun _ => hB, ?_⟩
    refine k_one (listed' := #[true, true, true, true, true, true, true, true, true, true, true, true, true, true, true, true, true, true, true, true, false]) 19 rfl (by kernel_rfl) rfl ?_
    refine st_store (sz := 24) (us := [_, _, _, _, _, _, _, _, _, _, _, _, _, _, _, _, _, _, _, _, _, _, _, _]) S M 0 rfl (by kernel_rfl) rfl rfl rfl rfl rfl rfl (by first | decide | (simp; done) | (simp; omega)) ?_; clear M; intro w10 M
    simp only [putL, List.set_cons_zero, List.set_cons_succ, Nat.reduceAdd] at M
    refine wpList_nil ?_; refine then_normal ?_; refine ⟨fun h => absurd h (by decide), ?_⟩
    refine k_pure (listed' := #[true, true, true, true, true, true, true, true, true, true, true, true, true, true, true, true, true, true, true, true, true]) 20 S rfl rfl rfl rfl (by kernel_rfl) rfl (fun _ d _ _ _ h => by cases d <;> exact h) (fun w => y_assign S rfl) ?_; clear S a; intro a S
    refine k_end (by kernel_rfl) ?_
    replace S := S.sub [(0, _), (2, _), (3, _), (4, _), (21, _), (6, _), (36, _), (7, _), (5, _)] rfl
    refine then_normal ?_
    refine wp_seq ?_
    refine nxD ?_
    refine st_go [1, 1] S rfl (by kernel_rfl) ?_; clear S a; intro a S
    refine nxC ?_
    refine st_fi (t := 63) S rfl ?_ ?_
    · clear S; intro h63 S
      refine st_condF S rfl ?_
      refine wp_skip ?_
      refine nxE ?_
      refine st_y S rfl rfl rfl (y_loadAgg (cs := [_, _, _, _, _, _, _, _, _, _, _, _, _, _, _, _, _, _, _, _, _, _, _, _]) S (by kernel_rfl) rfl rfl (M.cellsAt (k := 24) 0 rfl rfl)) ?_; clear S a; intro a S
      refine st_store (sz := 24) (us := [_, _, _, _, _, _, _, _, _, _, _, _, _, _, _, _, _, _, _, _, _, _, _, _]) S M 2 rfl (by kernel_rfl) rfl rfl rfl rfl rfl rfl (by first | decide | (simp; done) | (simp; omega)) ?_; clear M; intro w12 M
      simp only [putL, List.set_cons_zero, List.set_cons_succ, Nat.reduceAdd] at M
      refine st_go [1] S rfl (by kernel_rfl) ?_; clear S a; intro a S
      refine nxC ?_
      refine wp_ret ?_
      refine end_two S rfl (res_agg (cs := [_, _, _, _, _, _, _, _, _, _, _, _, _, _, _, _, _, _, _, _, _, _, _, _]) (by kernel_rfl) rfl rfl (M.cellsAt (k := 24) 2 rfl rfl)) (res_tmp rfl) ?_
      replace M := M.drop 0
      simp only [List.eraseIdx_cons_succ, List.eraseIdx_cons_zero] at M
      replace M := M.drop 1
      simp only [List.eraseIdx_cons_succ, List.eraseIdx_cons_zero] at M
      replace M := M.front 1 rfl
      simp only [List.eraseIdx_cons_succ, List.eraseIdx_cons_zero] at M
      rcases hc with ⟨h4, hm, h5⟩ | ⟨h4, -⟩
      · have hlen : (msB q).length = n := by rw [h5, List.length_take, List.length_drop]; omega
        subst hlen
        subst h4
        exact ⟨q, ad, cp, 0, k + 2 + (msB q).length, lo, hi, rfl, by rw [show ((k + 2 + (msB q).length : Nat) : Int) = (k : Int) + 2 + ((msB q).length : Int) by omega]; exact M, .inl ⟨rfl, hm, rfl, hfit, hnn.symm, h5.symm⟩⟩
      · exfalso; simp [h4] at h63
    clear S; intro h63 S
    refine st_condT S rfl ?_
    refine wp_seq ?_
    have hcn : c ≠ 0 := by first | assumption | simpa using h63
    refine wp_region_lit ?_
    refine st_y S rfl rfl rfl (y_build (ps := []) (pl := [(0, 1), (1, 1), (2, 1), (3, 1), (4, 1), (5, 3), (8, 1), (9, 1), (10, 1), (11, 8), (19, 1), (20, 1), (21, 1), (22, 1), (23, 1)]) (z := [.int .i8 0, .int .i64 0, .int .i64 0, .int .i64 0, .int .i64 0, .int .i64 0, .int .i64 0, .int .i64 0, .int .i64 0, .int .i8 0, .int .i64 0, .int .u8 0, .int .u8 0, .int .u8 0, .int .u8 0, .int .u8 0, .int .u8 0, .int .u8 0, .int .u8 0, .int .i64 0, .bool false, .int .i64 0, .int .i64 0, .slice none 0 0]) (cs := [_, _, _, _, _, _, _, _, _, _, _, _, _, _, _, _, _, _, _, _, _, _, _, _]) S (by kernel_rfl) rfl (rfl)) ?_; clear S a; intro a S
    refine st_store (sz := 24) (us := [_, _, _, _, _, _, _, _, _, _, _, _, _, _, _, _, _, _, _, _, _, _, _, _]) S M 2 rfl (by kernel_rfl) rfl rfl rfl rfl rfl rfl (by first | decide | (simp; done) | (simp; omega)) ?_; clear M; intro w11 M
    simp only [putL, List.set_cons_zero, List.set_cons_succ, Nat.reduceAdd] at M
    refine st_go [1] S rfl (by kernel_rfl) ?_; clear S a; intro a S
    refine nxC ?_
    refine wp_ret ?_
    refine then_ret ?_
    refine end_two S rfl (res_agg (cs := [_, _, _, _, _, _, _, _, _, _, _, _, _, _, _, _, _, _, _, _, _, _, _, _]) (by kernel_rfl) rfl rfl (M.cellsAt (k := 24) 2 rfl rfl)) (res_tmp rfl) ?_
    replace M := M.drop 0
    simp only [List.eraseIdx_cons_succ, List.eraseIdx_cons_zero] at M
    replace M := M.drop 1
    simp only [List.eraseIdx_cons_succ, List.eraseIdx_cons_zero] at M
    replace M := M.drop 0
    simp only [List.eraseIdx_cons_succ, List.eraseIdx_cons_zero] at M
    refine next_no (k' := k + 2 + n) (by rw [show ((k + 2 + n : Nat) : Int) = (k : Int) + 2 + (n : Int) by omega]; exact M) (by omega) fun q hq h1 h2 h3 => ?_
    have := hNo q hq h2
    rcases hc with ⟨h4, -⟩ | ⟨-, h4⟩
    · exact hcn h4
    · subst this; exact h4 q hq h3.symm
  · skip
    refine st_alloc S M rfl rfl #[.int .i8 0, .int .i64 0, .int .i64 0, .int .i64 0, .int .i64 0, .int .i64 0, .int .i64 0, .int .i64 0, .int .i64 0, .int .i8 0, .int .i64 0, .int .u8 0, .int .u8 0, .int .u8 0, .int .u8 0, .int .u8 0, .int .u8 0, .int .u8 0, .int .u8 0, .int .i64 0, .bool false, .int .i64 0, .int .i64 0, .slice none 0 0] (by kernel_rfl) ?_; clear S M a; intro a w13 bN S M hB
    refine wpList_nil ?_; refine then_normal ?_; refine ⟨fun _ => hB, ?_⟩
    refine k_one (listed' := #[true, true, true, true, true, true, true, true, true, true, true, true, true, true, true, false, false, false, true, false, false]) 14 rfl (by kernel_rfl) rfl ?_
    simp only [show ((k : Int) + 2).toNat = k + 2 by omega, show ((k : Int) + 2 + (n : Int)).toNat = k + 2 + n by omega] at S
    refine st_call (xs := [(Operand.tmp 58)]) S (enters_of Try.func43 (by decide) rfl) rfl rfl rfl (readM_any _ _ _ (by first | exact hcut.at2 M | exact hcut.at3 M) (by rw [List.length_take]; omega)) ?_
    rintro _ w14 hpost
    obtain ⟨q, ad, cp, c, rfl, hF, hx, hc⟩ := hpost.form
    refine ⟨_, rfl, ?_⟩; clear S a hpost; intro a S; have hK := hF.below
    obtain ⟨lo, hi, -, M⟩ := M.pushFresh hF
    refine wpList_nil ?_; refine then_normal ?_; refine ⟨fun _ => hK, ?_⟩
    refine k_pure (listed' := #[true, true, true, true, true, true, true, true, true, true, true, true, true, true, true, true, false, false, true, false, false]) 15 S rfl rfl rfl rfl (by kernel_rfl) rfl (fun _ d _ _ _ h => by cases d <;> exact h) (fun w => y_move S rfl) ?_; clear S a; intro a S
    refine k_pure (listed' := #[true, true, true, true, true, true, true, true, true, true, true, true, true, true, true, true, true, false, true, false, false]) 16 S rfl rfl rfl rfl (by kernel_rfl) rfl (fun _ d _ _ _ h => by cases d <;> exact h) (fun w => y_extract S rfl rfl) ?_; clear S a; intro a S
    refine k_pure (listed' := #[true, true, true, true, true, true, true, true, true, true, true, true, true, true, true, true, true, true, true, false, false]) 17 S rfl rfl rfl rfl (by kernel_rfl) rfl (fun _ d _ _ _ h => by cases d <;> exact h) (fun w => y_extract S rfl rfl) ?_; clear S a; intro a S
    refine k_one (listed' := #[true, true, true, true, true, true, true, true, true, true, true, true, true, true, true, true, true, true, true, true, false]) 19 rfl (by kernel_rfl) rfl ?_
    refine st_store (sz := 24) (us := [_, _, _, _, _, _, _, _, _, _, _, _, _, _, _, _, _, _, _, _, _, _, _, _]) S M 1 rfl (by kernel_rfl) rfl rfl rfl rfl rfl rfl (by first | decide | (simp; done) | (simp; omega)) ?_; clear M; intro w15 M
    simp only [putL, List.set_cons_zero, List.set_cons_succ, Nat.reduceAdd] at M
    refine wpList_nil ?_; refine then_normal ?_; refine ⟨fun h => absurd h (by decide), ?_⟩
    refine k_pure (listed' := #[true, true, true, true, true, true, true, true, true, true, true, true, true, true, true, true, true, true, true, true, true]) 20 S rfl rfl rfl rfl (by kernel_rfl) rfl (fun _ d _ _ _ h => by cases d <;> exact h) (fun w => y_assign S rfl) ?_; clear S a; intro a S
    refine k_end (by kernel_rfl) ?_
    replace S := S.sub [(0, _), (2, _), (3, _), (4, _), (21, _), (6, _), (36, _), (7, _), (5, _)] rfl
    refine then_normal ?_
    refine wp_seq ?_
    refine nxD ?_
    refine st_go [1, 1] S rfl (by kernel_rfl) ?_; clear S a; intro a S
    refine nxC ?_
    refine st_fi (t := 63) S rfl ?_ ?_
    · clear S; intro h63 S
      refine st_condF S rfl ?_
      refine wp_skip ?_
      refine nxE ?_
      refine st_y S rfl rfl rfl (y_loadAgg (cs := [_, _, _, _, _, _, _, _, _, _, _, _, _, _, _, _, _, _, _, _, _, _, _, _]) S (by kernel_rfl) rfl rfl (M.cellsAt (k := 24) 1 rfl rfl)) ?_; clear S a; intro a S
      refine st_store (sz := 24) (us := [_, _, _, _, _, _, _, _, _, _, _, _, _, _, _, _, _, _, _, _, _, _, _, _]) S M 2 rfl (by kernel_rfl) rfl rfl rfl rfl rfl rfl (by first | decide | (simp; done) | (simp; omega)) ?_; clear M; intro w17 M
      simp only [putL, List.set_cons_zero, List.set_cons_succ, Nat.reduceAdd] at M
      refine st_go [1] S rfl (by kernel_rfl) ?_; clear S a; intro a S
      refine nxC ?_
      refine wp_ret ?_
      refine end_two S rfl (res_agg (cs := [_, _, _, _, _, _, _, _, _, _, _, _, _, _, _, _, _, _, _, _, _, _, _, _]) (by kernel_rfl) rfl rfl (M.cellsAt (k := 24) 2 rfl rfl)) (res_tmp rfl) ?_
      replace M := M.drop 1
      simp only [List.eraseIdx_cons_succ, List.eraseIdx_cons_zero] at M
      replace M := M.drop 1
      simp only [List.eraseIdx_cons_succ, List.eraseIdx_cons_zero] at M
      replace M := M.front 1 rfl
      simp only [List.eraseIdx_cons_succ, List.eraseIdx_cons_zero] at M
      rcases hc with ⟨h4, hm, h5⟩ | ⟨h4, -⟩
      · have hlen : (msB q).length = n := by rw [h5, List.length_take, List.length_drop]; omega
        subst hlen
        subst h4
        exact ⟨q, ad, cp, 0, k + 2 + (msB q).length, lo, hi, rfl, by rw [show ((k + 2 + (msB q).length : Nat) : Int) = (k : Int) + 2 + ((msB q).length : Int) by omega]; exact M, .inl ⟨rfl, hm, rfl, hfit, hnn.symm, h5.symm⟩⟩
      · exfalso; simp [h4] at h63
    clear S; intro h63 S
    refine st_condT S rfl ?_
    refine wp_seq ?_
    have hcn : c ≠ 0 := by first | assumption | simpa using h63
    refine wp_region_lit ?_
    refine st_y S rfl rfl rfl (y_build (ps := []) (pl := [(0, 1), (1, 1), (2, 1), (3, 1), (4, 1), (5, 3), (8, 1), (9, 1), (10, 1), (11, 8), (19, 1), (20, 1), (21, 1), (22, 1), (23, 1)]) (z := [.int .i8 0, .int .i64 0, .int .i64 0, .int .i64 0, .int .i64 0, .int .i64 0, .int .i64 0, .int .i64 0, .int .i64 0, .int .i8 0, .int .i64 0, .int .u8 0, .int .u8 0, .int .u8 0, .int .u8 0, .int .u8 0, .int .u8 0, .int .u8 0, .int .u8 0, .int .i64 0, .bool false, .int .i64 0, .int .i64 0, .slice none 0 0]) (cs := [_, _, _, _, _, _, _, _, _, _, _, _, _, _, _, _, _, _, _, _, _, _, _, _]) S (by kernel_rfl) rfl (rfl)) ?_; clear S a; intro a S
    refine st_store (sz := 24) (us := [_, _, _, _, _, _, _, _, _, _, _, _, _, _, _, _, _, _, _, _, _, _, _, _]) S M 2 rfl (by kernel_rfl) rfl rfl rfl rfl rfl rfl (by first | decide | (simp; done) | (simp; omega)) ?_; clear M; intro w16 M
    simp only [putL, List.set_cons_zero, List.set_cons_succ, Nat.reduceAdd] at M
    refine st_go [1] S rfl (by kernel_rfl) ?_; clear S a; intro a S
    refine nxC ?_
    refine wp_ret ?_
    refine then_ret ?_
    refine end_two S rfl (res_agg (cs := [_, _, _, _, _, _, _, _, _, _, _, _, _, _, _, _, _, _, _, _, _, _, _, _]) (by kernel_rfl) rfl rfl (M.cellsAt (k := 24) 2 rfl rfl)) (res_tmp rfl) ?_
    replace M := M.drop 1
    simp only [List.eraseIdx_cons_succ, List.eraseIdx_cons_zero] at M
    replace M := M.drop 1
    simp only [List.eraseIdx_cons_succ, List.eraseIdx_cons_zero] at M
    replace M := M.drop 0
    simp only [List.eraseIdx_cons_succ, List.eraseIdx_cons_zero] at M
    refine next_no (k' := k + 2 + n) (by rw [show ((k + 2 + n : Nat) : Int) = (k : Int) + 2 + (n : Int) by omega]; exact M) (by omega) fun q hq h1 h2 h3 => ?_
    have := hNo q hq h2
    rcases hc with ⟨h4, -⟩ | ⟨-, h4⟩
    · exact hcn h4
    · subst this; exact h4 q hq h3.symm

/-- what bytes are as a fabric comes back -/
def ReadF (bs : List UInt8) (w : World) (e : Ending) (w' : World) : Prop := ∃ (l : Ml) (c : Int), MailPost l c w e w' ∧ RdM bs l c
theorem readF_no {bs : List UInt8} {w w' : World} {H : List Ent} {l : Ml} {k : Nat} (M : Mem w w' H) (h : l.all = true) (hl : mlB l = bs.take k) (hk : k < bs.length) (hn : NoNext bs k ∨ l.length = 200) : ReadF bs w (.returned (.tuple #[.agg #[.slice none 0 0], .int .i64 2])) w' :=
  ⟨[], 2, mail_no M 2, .inr ⟨rfl, rfl, fun l' hl' he => by
    obtain ⟨q, hq, h1, h2, h3, h4⟩ := mlB_next h hl hk hl' he
    rcases hn with hn | hn
    · exact hn q hq h2 h3 h4
    · omega⟩⟩
theorem mlB_grow {bs : List UInt8} {l : Ml} {k : Nat} {q : Msg × List Wr} (h : mlB l = bs.take k) (h1 : (bs.drop k).take 2 = leB (msB q).length 2) (h2 : (bs.drop (k + 2)).take (msB q).length = msB q) : mlB (l ++ [q]) = bs.take (k + 2 + (msB q).length) := by
  rw [mlB_snoc, h, List.take_add, List.take_add, h1, h2, List.append_assoc]
abbrev rdM (bR : Nat) (v : Value) (k : Nat) : Ent := .blk bR #[v, .int .i64 (k : Int)] 57
set_option maxHeartbeats 1000000 in
theorem readF_any' (v : Value) (bs : List UInt8) (w : World) (hv : Bs 0 w.heap.size w v bs) (hl : bs.length ≤ 70000000000000) : Calls Try.prog 9 #[v] w (ReadF bs w) := by
  have M := Mem.start w
  obtain ⟨ad0, cp0, rfl, -, -⟩ := hv.form
  refine calls_enter Try.func9 rfl 40 rfl rfl ?_; intro a S
  refine nxD ?_
  refine st_alloc S M rfl rfl #[.slice none 0 0] (by kernel_rfl) ?_; clear S M a; intro a w1 bO S M hB
  refine st_go [1] S rfl (by kernel_rfl) ?_; clear S a; intro a S
  refine nxA ?_
  refine st_go [1] S rfl (by kernel_rfl) ?_; clear S a; intro a S
  refine st_y S rfl rfl rfl (y_build (ps := [(0, (Operand.tmp 10))]) (pl := [(0, 1), (1, 1)]) (z := [.slice none 0 0, .int .i64 0]) (cs := [_, _]) S (by kernel_rfl) rfl (rfl)) ?_; clear S a; intro a S
  refine st_box S M rfl rfl rfl #[_, _] rfl ?_; clear S M a; intro a w2 bR S M hB
  refine st_go [1] S rfl (by kernel_rfl) ?_; clear S a; intro a S
  refine nxA ?_
  refine st_go [1] S rfl (by kernel_rfl) ?_; clear S a; intro a S
  refine st_y S rfl rfl rfl (y_makeFunc (fs := [(Operand.tmp 13)]) (cs := []) S rfl rfl) ?_; clear S a; intro a S
  refine st_go [1] S rfl (by kernel_rfl) ?_; clear S a; intro a S
  refine st_y S rfl rfl rfl (y_makeFunc (fs := [(Operand.tmp 15)]) (cs := []) S rfl rfl) ?_; clear S a; intro a S
  refine st_go [1, 1] S rfl (by kernel_rfl) ?_; clear S a; intro a S
  refine nxA ?_
  refine st_alloc S M rfl rfl #[.slice none 0 0] (by kernel_rfl) ?_; clear S M a; intro a w3 bF S M hB
  refine nxC ?_
  refine wp_seq ?_
  refine wp_block ?_
  refine wp_loop_g (fun m a w' => ∃ (k : Nat) (l : Ml), k ≤ bs.length ∧ m = bs.length - k ∧ Sees 40 a [(2, .pointer (some ⟨bO, 0, none⟩)), (5, .func (.func 23) #[.pointer (some ⟨bR, 0, none⟩)] #[]), (6, .func (.func 24) #[.pointer (some ⟨bR, 0, none⟩)] #[]), (7, .pointer (some ⟨bF, 0, none⟩))] ∧ l.all = true ∧ l.length ≤ 200 ∧ mlB l = bs.take k ∧ ∃ u lo hi cs es, Mem w w' (rdM bR (.slice ad0 bs.length cp0) k :: .blk bF #[u] 24 :: .blk bO #[.slice none 0 0] 24 :: rowE lo hi 42 24 u l.length cs :: es) ∧ MsBk cs l es) (bs.length) ?_ ?_
  · skip
    replace M := M.rowNil 42 24
    replace M := M.front 3 rfl
    simp only [List.eraseIdx_cons_succ, List.eraseIdx_cons_zero] at M
    replace M := M.front 2 rfl
    simp only [List.eraseIdx_cons_succ, List.eraseIdx_cons_zero] at M
    replace M := M.front 3 rfl
    simp only [List.eraseIdx_cons_succ, List.eraseIdx_cons_zero] at M
    exact ⟨0, [], Nat.zero_le _, rfl, S.sub _ rfl, rfl, by simp, rfl, _, _, _, [], [], M, MsBk.nil⟩
  clear S M a; intro m a wl
  rintro ⟨k, l, hk, rfl, S, hall, hl2, hml, u, lo, hi, cs, es, M, hBk⟩
  obtain ⟨ua, uc, rfl, -, -⟩ := (M.readRow 3 rfl (by unfold maxLen; omega)).form
  refine wp_seq ?_
  refine nxD ?_
  refine st_go [1] S rfl (by kernel_rfl) ?_; clear S a; intro a S
  refine st_callB (xs := []) (fi := [_]) (ca := []) S (enters_of Try.func23 (by decide) rfl) rfl rfl (rfl) rfl (more_any M (RdH.arg hv)) ?_
  rintro _ w4 ⟨rfl, M1⟩; refine ⟨_, rfl, ?_⟩; clear S a; intro a S; replace M := M1; clear M1
  refine nxC ?_
  refine st_fi (t := 18) S rfl ?_ ?_
  · clear S; intro h18 S
    refine st_condF S rfl ?_
    refine wp_exit ?_
    refine then_exit ?_
    refine then_exit ?_
    refine block_hit ?_
    refine nxE ?_
    refine st_y S rfl rfl rfl (y_loadAgg (cs := [_]) S (by kernel_rfl) rfl rfl (M.cellsAt (k := 1) 1 rfl rfl)) ?_; clear S a; intro a S
    refine st_store (sz := 1) (us := [_]) S M 2 rfl (by kernel_rfl) rfl rfl rfl rfl rfl rfl (by first | decide | (simp; done) | (simp; omega)) ?_; clear M; intro w13 M
    simp only [putL, List.set_cons_zero, List.set_cons_succ, Nat.reduceAdd] at M
    refine st_go [1] S rfl (by kernel_rfl) ?_; clear S a; intro a S
    refine nxC ?_
    refine wp_ret ?_
    refine end_two S rfl (res_agg (cs := [_]) (by kernel_rfl) rfl rfl (M.cellsAt (k := 1) 2 rfl rfl)) (res_tmp rfl) ?_
    have hge : ¬ k < bs.length := by simpa using h18
    obtain rfl : k = bs.length := by omega
    rw [List.take_length] at hml
    refine ⟨l, 0, ⟨ua, uc, cs, rfl, M.below, hBk.msC M (List.mem_of_getElem? (show _[3]? = _ from rfl)) (fun e he => by simp [he]) (by unfold maxLen; omega)⟩, .inl ⟨rfl, Ml.ok_iff.2 ⟨hl2, hall⟩, hml⟩⟩
  clear S; intro h18 S
  refine st_condT S rfl ?_
  refine wp_skip ?_
  refine then_normal ?_
  refine wp_block ?_
  refine wp_seq ?_
  have hk' : k < bs.length := by simpa using h18
  refine wp_region_lit ?_
  refine st_go [1] S rfl (by kernel_rfl) ?_; clear S a; intro a S
  refine st_callB (xs := []) (fi := [_]) (ca := []) S (enters_of Try.func24 (by decide) rfl) rfl rfl (rfl) rfl (next_any M (RdH.arg hv) hk hl) ?_
  rintro _ w5 ⟨q, ad, cp, c, k', lo2, hi2, rfl, M1, hc⟩; refine ⟨_, rfl, ?_⟩; clear S a; intro a S; replace M := M1; clear M1
  refine st_go [1, 1, 1] S rfl (by kernel_rfl) ?_; clear S a; intro a S
  refine st_alloc S M rfl rfl #[.int .i8 0, .int .i64 0, .int .i64 0, .int .i64 0, .int .i64 0, .int .i64 0, .int .i64 0, .int .i64 0, .int .i64 0, .int .i8 0, .int .i64 0, .int .u8 0, .int .u8 0, .int .u8 0, .int .u8 0, .int .u8 0, .int .u8 0, .int .u8 0, .int .u8 0, .int .i64 0, .bool false, .int .i64 0, .int .i64 0, .slice none 0 0] (by kernel_rfl) ?_; clear S M a; intro a w6 bB S M hB
  refine st_store (sz := 24) (us := [_, _, _, _, _, _, _, _, _, _, _, _, _, _, _, _, _, _, _, _, _, _, _, _]) S M 0 rfl (by kernel_rfl) rfl rfl rfl rfl rfl rfl (by first | decide | (simp; done) | (simp; omega)) ?_; clear M; intro w7 M
  simp only [putL, List.set_cons_zero, List.set_cons_succ, Nat.reduceAdd] at M
  refine st_go [1] S rfl (by kernel_rfl) ?_; clear S a; intro a S
  refine nxC ?_
  refine wp_seq ?_
  refine nxD ?_
  refine st_go [1, 1, 1] S rfl (by kernel_rfl) ?_; clear S a; intro a S
  refine st_split (t := 26) S rfl ?_ ?_
  · clear S; intro h26 S
    refine st_go [0, 0, 0, 0, 1] S rfl (by kernel_rfl) ?_; clear S a; intro a S
    refine nxC ?_
    refine st_condT S rfl ?_
    refine nxD ?_
    refine st_y S rfl rfl rfl (y_build (ps := []) (pl := [(0, 1)]) (z := [.slice none 0 0]) (cs := [_]) S (by kernel_rfl) rfl (rfl)) ?_; clear S a; intro a S
    refine st_store (sz := 1) (us := [_]) S M 4 rfl (by kernel_rfl) rfl rfl rfl rfl rfl rfl (by first | decide | (simp; done) | (simp; omega)) ?_; clear M; intro w8 M
    simp only [putL, List.set_cons_zero, List.set_cons_succ, Nat.reduceAdd] at M
    refine st_go [1] S rfl (by kernel_rfl) ?_; clear S a; intro a S
    replace S := S.sub [(2, _), (5, _), (6, _), (7, _), (18, _), (8, _), (9, _), (31, _), (3, _)] rfl
    refine nxC ?_
    refine wp_ret ?_
    refine then_ret ?_
    refine block_ret ?_
    refine then_ret ?_
    refine block_ret ?_
    refine then_ret ?_
    refine end_two S rfl (res_agg (cs := [_]) (by kernel_rfl) rfl rfl (M.cellsAt (k := 1) 4 rfl rfl)) (res_tmp rfl) ?_
    refine readF_no M hall hml hk' ?_
    first
      | (rcases hc with ⟨h4, -⟩ | ⟨-, h4⟩
         · (exfalso; simp [h4] at h26; done)
         · exact .inl h4)
      | (refine .inr ?_; simp at h31; omega)
  clear S; intro h26 S
  refine st_run [1, 4] S M rfl (by kernel_rfl) ?_; clear S a; intro a S
  refine st_y S rfl rfl rfl (y_lenS (E := 42) S rfl (by kernel_rfl)) ?_; clear S a; intro a S
  refine st_go [1, 1] S rfl (by kernel_rfl) ?_; clear S a; intro a S
  refine nxC ?_
  refine st_split (t := 31) S rfl ?_ ?_
  · clear S; intro h31 S
    refine st_condT S rfl ?_
    refine nxD ?_
    refine st_y S rfl rfl rfl (y_build (ps := []) (pl := [(0, 1)]) (z := [.slice none 0 0]) (cs := [_]) S (by kernel_rfl) rfl (rfl)) ?_; clear S a; intro a S
    refine st_store (sz := 1) (us := [_]) S M 4 rfl (by kernel_rfl) rfl rfl rfl rfl rfl rfl (by first | decide | (simp; done) | (simp; omega)) ?_; clear M; intro w9 M
    simp only [putL, List.set_cons_zero, List.set_cons_succ, Nat.reduceAdd] at M
    refine st_go [1] S rfl (by kernel_rfl) ?_; clear S a; intro a S
    replace S := S.sub [(2, _), (5, _), (6, _), (7, _), (18, _), (8, _), (9, _), (31, _), (3, _)] rfl
    refine nxC ?_
    refine wp_ret ?_
    refine then_ret ?_
    refine block_ret ?_
    refine then_ret ?_
    refine block_ret ?_
    refine then_ret ?_
    refine end_two S rfl (res_agg (cs := [_]) (by kernel_rfl) rfl rfl (M.cellsAt (k := 1) 4 rfl rfl)) (res_tmp rfl) ?_
    refine readF_no M hall hml hk' ?_
    first
      | (rcases hc with ⟨h4, -⟩ | ⟨-, h4⟩
         · (exfalso; simp [h4] at h26; done)
         · exact .inl h4)
      | (refine .inr ?_; simp at h31; omega)
  clear S; intro h31 S
  refine st_condF S rfl ?_
  refine wp_skip ?_
  refine then_normal ?_
  have hc0 : c = 0 := by simpa using h26
  have hl200 : l.length < 200 := by simp at h31; omega
  obtain ⟨hm, hk'', hk2, hh1, hh2⟩ : q.1.may q.2 = true ∧ k' = k + 2 + (msB q).length ∧ k' ≤ bs.length ∧ (bs.drop k).take 2 = leB (msB q).length 2 ∧ (bs.drop (k + 2)).take (msB q).length = msB q := by
    rcases hc with ⟨-, h⟩ | ⟨h4, -⟩
    · exact h
    · exact absurd hc0 h4
  subst hk''
  have hq8 := may_x8 hm
  refine wp_region_lit ?_
  refine st_run [1, 4] S M rfl (by kernel_rfl) ?_; clear S a; intro a S
  refine st_y S rfl rfl rfl (y_loadAgg (cs := [_, _, _, _, _, _, _, _, _, _, _, _, _, _, _, _, _, _, _, _, _, _, _, _]) S (by kernel_rfl) rfl rfl (M.cellsAt (k := 24) 0 rfl rfl)) ?_; clear S a; intro a S
  refine st_lit (ps := [(0, (Operand.tmp 35))]) (e := 42) (sz := 24) (zl := [.int .i8 0, .int .i64 0, .int .i64 0, .int .i64 0, .int .i64 0, .int .i64 0, .int .i64 0, .int .i64 0, .int .i64 0, .int .i8 0, .int .i64 0, .int .u8 0, .int .u8 0, .int .u8 0, .int .u8 0, .int .u8 0, .int .u8 0, .int .u8 0, .int .u8 0, .int .i64 0, .bool false, .int .i64 0, .int .i64 0, .slice none 0 0]) (cs := (q.1.cells (.slice ad q.2.length cp)).toList) S M rfl rfl (by kernel_rfl) rfl (by kernel_rfl) ?_; clear S M a; intro a w10 bZ S M hB
  refine st_append (e := 42) (sz := 24) (by_ := 152) (zc := [.int .i8 0, .int .i64 0, .int .i64 0, .int .i64 0, .int .i64 0, .int .i64 0, .int .i64 0, .int .i64 0, .int .i64 0, .int .i8 0, .int .i64 0, .int .u8 0, .int .u8 0, .int .u8 0, .int .u8 0, .int .u8 0, .int .u8 0, .int .u8 0, .int .u8 0, .int .i64 0, .bool false, .int .i64 0, .int .i64 0, .slice none 0 0]) S M 6 rfl rfl (by kernel_rfl) rfl (by decide) rfl rfl rfl (show Rd _ _ _ 24 _ 1 (q.1.cells (.slice ad q.2.length cp)).toList from M.sliceAt 0 rfl (M.cellsAt (k := 24) 0 rfl rfl) rfl (Nat.le_refl _) (by unfold maxLen; omega)) (rfl) (by omega) (by unfold maxLen; omega) ?_; clear S M a; intro a w11 vA loA hiA S M
  obtain ⟨aA, cA, rfl, -, -⟩ := (M.readAll 0 rfl (by unfold maxLen; omega)).form
  refine st_y S rfl rfl rfl (y_fieldAddr (k := 0) S (by kernel_rfl) rfl) ?_; clear S a; intro a S
  refine st_store (sz := 1) (us := [_]) S M 5 rfl (by kernel_rfl) rfl rfl rfl rfl rfl rfl (by first | decide | (simp; done) | (simp; omega)) ?_; clear M; intro w12 M
  simp only [putL, List.set_cons_zero, List.set_cons_succ, Nat.reduceAdd] at M
  replace S := S.sub [(2, _), (5, _), (6, _), (7, _), (18, _), (8, _), (9, _), (31, _)] rfl
  refine wpList_nil ?_
  refine block_normal ?_
  refine then_normal ?_
  replace M := M.drop 1
  simp only [List.eraseIdx_cons_succ, List.eraseIdx_cons_zero] at M
  replace M := M.drop 1
  simp only [List.eraseIdx_cons_succ, List.eraseIdx_cons_zero] at M
  replace M := M.front 2 rfl
  simp only [List.eraseIdx_cons_succ, List.eraseIdx_cons_zero] at M
  replace M := M.front 1 rfl
  simp only [List.eraseIdx_cons_succ, List.eraseIdx_cons_zero] at M
  replace M := M.front 4 rfl
  simp only [List.eraseIdx_cons_succ, List.eraseIdx_cons_zero] at M
  replace M := M.front 4 rfl
  simp only [List.eraseIdx_cons_succ, List.eraseIdx_cons_zero] at M
  replace M := M.front 4 rfl
  simp only [List.eraseIdx_cons_succ, List.eraseIdx_cons_zero] at M
  have hBk' := hBk.more (q := q) (lv := .slice ad q.2.length cp) (lo := lo2) (hi := hi2) (by unfold maxLen; omega)
  refine ⟨bs.length - (k + 2 + (msB q).length), by omega, k + 2 + (msB q).length, l ++ [q], hk2, rfl, S.sub _ rfl, Ml.all_append.2 ⟨hall, by rw [Ml.all_cons]; exact ⟨hm, rfl⟩⟩, by simp; omega, mlB_grow hml hh1 hh2, .slice aA (l.length + 1) cA, loA, hiA, _, _, ?_, hBk'⟩
  rw [List.length_append (bs := [q])]; exact M

end Go.Proofs.Ytojgcgaoajfihaa
