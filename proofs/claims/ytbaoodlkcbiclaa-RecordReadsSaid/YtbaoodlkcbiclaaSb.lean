/-
  The document's layer 7: a record's bytes.
-/
import Derived.Test.YtbaoodlkcbiclaaSa
namespace Go.Proofs.Ytbaoodlkcbiclaa
open Go.RowKit Go.Sort

/-- a row of bytes of one's own -/
abbrev byE (lo hi : Nat) (v : Value) (bs : List UInt8) : Ent := rowE lo hi 5 1 v bs.length (bcells bs)
theorem Fresh.eqB {w w' : World} {e : Nat} {v : Value} {l l' : List UInt8} (hF : Fresh w w' e 1 v l.length (bcells l)) (h : l' = l) : Fresh w w' e 1 v l'.length (bcells l') := by rw [h]; exact hF
theorem three_any {wc w : World} {H : List Ent} {lo hi : Nat} {v : Value} {bs : List UInt8} (M : Mem wc w (byE lo hi v bs :: H)) (n : Int) (hb : bs.length ≤ 1000) :
    Calls Try.prog 41 #[v, .int .i64 n] w fun e w' => ∃ v' lo' hi', e = .returned v' ∧ Mem wc w' (byE lo' hi' v' (bs ++ leB n 3) :: H) := by
  refine calls_enter Try.func41 rfl 16 rfl rfl ?_; intro a S
  refine wp_seq ?_
  -- region 0 ref.go:116
  skip
  refine wp_region_lit ?_
  refine st_y S rfl rfl rfl (y_assign S rfl) ?_; clear S a; intro a S
  refine wpList_nil ?_
  replace S := S.sub [(0, _), (1, _), (4, _)] rfl
  refine then_normal ?_
  refine wp_seq ?_
  -- region 1 ref.go:116
  refine wp_region_lit ?_
  refine st_y S rfl rfl rfl (y_move S rfl) ?_; clear S a; intro a S
  refine st_y S rfl rfl rfl (y_move S rfl) ?_; clear S a; intro a S
  refine st_y S rfl rfl rfl (y_to8 S rfl (by kernel_rfl) (by kernel_rfl)) ?_; clear S a; intro a S
  refine st_y S rfl rfl rfl (y_move S rfl) ?_; clear S a; intro a S
  (first | refine st_y S rfl rfl rfl (y_shrN S rfl rfl (by omega)) ?_ | refine st_y S rfl rfl rfl (y_shr S rfl rfl (by omega)) ?_); clear S a; intro a S
  refine st_y S rfl rfl rfl (y_to8 S rfl (by kernel_rfl) (by kernel_rfl)) ?_; clear S a; intro a S
  refine st_y S rfl rfl rfl (y_move S rfl) ?_; clear S a; intro a S
  (first | refine st_y S rfl rfl rfl (y_shrN S rfl rfl (by omega)) ?_ | refine st_y S rfl rfl rfl (y_shr S rfl rfl (by omega)) ?_); clear S a; intro a S
  refine st_y S rfl rfl rfl (y_to8 S rfl (by kernel_rfl) (by kernel_rfl)) ?_; clear S a; intro a S
  refine st_lit (ps := [(0, (Operand.tmp 7)), (1, (Operand.tmp 10)), (2, (Operand.tmp 13))]) (e := 5) (sz := 1) (zl := [.int .u8 0, .int .u8 0, .int .u8 0]) (cs := [_, _, _]) S M rfl rfl (by kernel_rfl) rfl rfl ?_; clear S M a; intro a w1 bZ S M hB
  refine st_append (e := 5) (sz := 1) (by_ := 1) (zc := [.int .u8 0]) S M 1 rfl rfl (by kernel_rfl) rfl (by decide) rfl rfl rfl (show Rd _ _ _ 1 _ 3 (bcells [byteOf n, byteOf (n / 2 ^ (8 : Int).toNat), byteOf (n / 2 ^ (16 : Int).toNat)]) from M.sliceAt 0 rfl (M.cellsAt (k := 3) 0 rfl rfl) rfl (Nat.le_refl _) (by unfold maxLen; omega)) (allOne_bcells _) (by omega) (by unfold maxLen; omega) ?_; clear S M a; intro a w2 vA loA hiA S M
  refine st_y S rfl rfl rfl (y_assign S rfl) ?_; clear S a; intro a S
  refine wpList_nil ?_
  replace S := S.sub [(0, _), (1, _), (4, _)] rfl
  refine then_normal ?_
  refine wp_ret ?_
  refine end_one S rfl (res_tmp rfl) ?_
  replace M := M.rowC (ys := [byteOf n, byteOf (n / 2 ^ (8 : Int).toNat), byteOf (n / 2 ^ (16 : Int).toNat)]) rfl
  have e : [byteOf n, byteOf (n / 2 ^ (8 : Int).toNat), byteOf (n / 2 ^ (16 : Int).toNat)] = leB n 3 := by rw [leB3]; rfl
  rw [e] at M
  exact ⟨_, _, _, rfl, M.drop 1⟩
theorem rnamed_any {wc w : World} {H : List Ent} {lo hi : Nat} {v : Value} {bs : List UInt8} (M : Mem wc w (byE lo hi v bs :: H)) (n : Nm) (hb : bs.length ≤ 900) :
    Calls Try.prog 42 #[v, .agg n.cells] w fun e w' => ∃ v' lo' hi', e = .returned v' ∧ Mem wc w' (byE lo' hi' v' (bs ++ nmB n) :: H) := by
  refine calls_enter Try.func42 rfl 17 rfl rfl ?_; intro a S
  refine wp_seq ?_
  -- region 0 ref.go:119
  skip
  refine wp_region_lit ?_
  refine st_box S M rfl rfl rfl #[_, _, _] rfl ?_; clear S M a; intro a w1 bN S M hB
  refine st_y S rfl rfl rfl (y_assign S rfl) ?_; clear S a; intro a S
  refine wpList_nil ?_
  replace S := S.sub [(0, _), (1, _), (3, _), (4, _)] rfl
  refine then_normal ?_
  refine wp_seq ?_
  -- region 1 ref.go:120
  refine wp_region_lit ?_
  refine st_y S rfl rfl rfl (y_move S rfl) ?_; clear S a; intro a S
  refine st_y S rfl rfl rfl (y_fieldAddr (k := 0) S (by kernel_rfl) rfl) ?_; clear S a; intro a S
  refine st_y S rfl rfl rfl (y_load S (by kernel_rfl) rfl (M.cell 0 rfl rfl)) ?_; clear S a; intro a S
  replace M := M.front 1 rfl
  simp only [List.eraseIdx_cons_succ, List.eraseIdx_cons_zero] at M
  refine st_call (xs := [(Operand.tmp 5), (Operand.tmp 7)]) S (enters_of Try.func41 (by decide) rfl) rfl rfl rfl (three_any M _ (by omega)) ?_
  rintro _ w2 ⟨v1, lo1, hi1, rfl, M1⟩; refine ⟨_, rfl, ?_⟩; clear S a; intro a S; replace M := M1
  refine st_y S rfl rfl rfl (y_assign S rfl) ?_; clear S a; intro a S
  refine wpList_nil ?_
  replace S := S.sub [(1, _), (3, _), (4, _), (0, _)] rfl
  refine then_normal ?_
  refine wp_seq ?_
  -- region 2 ref.go:121
  refine wp_region_lit ?_
  refine st_y S rfl rfl rfl (y_move S rfl) ?_; clear S a; intro a S
  refine st_y S rfl rfl rfl (y_fieldAddr (k := 1) S (by kernel_rfl) rfl) ?_; clear S a; intro a S
  refine st_y S rfl rfl rfl (y_load S (by kernel_rfl) rfl (M.cell 1 rfl rfl)) ?_; clear S a; intro a S
  refine st_call (xs := [(Operand.tmp 9), (Operand.tmp 11)]) S (enters_of Try.func41 (by decide) rfl) rfl rfl rfl (three_any M _ (by simp only [List.length_append, leB_length]; omega)) ?_
  rintro _ w3 ⟨v2, lo2, hi2, rfl, M1⟩; refine ⟨_, rfl, ?_⟩; clear S a; intro a S; replace M := M1
  refine st_y S rfl rfl rfl (y_assign S rfl) ?_; clear S a; intro a S
  refine wpList_nil ?_
  replace S := S.sub [(1, _), (3, _), (4, _), (0, _)] rfl
  refine then_normal ?_
  refine wp_seq ?_
  -- region 3 ref.go:122
  refine wp_region_lit ?_
  refine st_y S rfl rfl rfl (y_move S rfl) ?_; clear S a; intro a S
  refine st_y S rfl rfl rfl (y_fieldAddr (k := 2) S (by kernel_rfl) rfl) ?_; clear S a; intro a S
  refine st_y S rfl rfl rfl (y_load S (by kernel_rfl) rfl (M.cell 1 rfl rfl)) ?_; clear S a; intro a S
  refine st_call (xs := [(Operand.tmp 13), (Operand.tmp 15)]) S (enters_of Try.func41 (by decide) rfl) rfl rfl rfl (three_any M _ (by simp only [List.length_append, leB_length]; omega)) ?_
  rintro _ w4 ⟨v3, lo3, hi3, rfl, M1⟩; refine ⟨_, rfl, ?_⟩; clear S a; intro a S; replace M := M1
  refine st_y S rfl rfl rfl (y_assign S rfl) ?_; clear S a; intro a S
  refine wpList_nil ?_
  replace S := S.sub [(1, _), (3, _), (0, _), (4, _)] rfl
  refine then_normal ?_
  refine wp_ret ?_
  refine end_one S rfl (res_tmp rfl) ?_
  simp only [List.append_assoc] at M
  exact ⟨_, _, _, rfl, M.drop 1⟩
theorem flag_any (b : Bool) (w : World) : Calls Try.prog 44 #[.bool b] w fun e w' => e = .returned (.int .u8 ((byteOf (if b then 1 else 0)).toNat : Int)) ∧ Below w.heap.size w w' := by
  have M := Mem.start w
  refine calls_enter Try.func44 rfl 4 rfl rfl ?_; intro a S
  refine wp_seq ?_
  -- region 0 ref.go:126
  refine wp_region_lit ?_
  refine st_y S rfl rfl rfl (y_assign S rfl) ?_; clear S a; intro a S
  refine wpList_nil ?_
  replace S := S.sub [(0, _), (2, _)] rfl
  refine then_normal ?_
  refine wp_seq ?_
  refine wp_seq ?_
  -- region 1 ref.go:127
  refine wp_region_lit ?_
  refine st_y S rfl rfl rfl (y_move S rfl) ?_; clear S a; intro a S
  refine wpList_nil ?_
  replace S := S.sub [(0, _), (2, _), (3, _)] rfl
  refine then_normal ?_
  refine st_split (t := 3) S rfl ?_ ?_
  · clear S; intro h3 S
    refine st_condT S rfl ?_
    refine wp_seq ?_
    -- region 2 ref.go:128
    refine wp_region_lit ?_
    refine st_y S rfl rfl rfl (y_assign S rfl) ?_; clear S a; intro a S
    refine wpList_nil ?_
    replace S := S.sub [(0, _), (3, _), (2, _)] rfl
    refine then_normal ?_
    refine wp_ret ?_
    refine then_ret ?_
    refine end_one S rfl (res_tmp rfl) ?_
    rw [h3]; exact ⟨rfl, M.below⟩
  · clear S; intro h3 S
    refine st_condF S rfl ?_
    refine wp_skip ?_
    refine then_normal ?_
    refine wp_seq ?_
    -- region 3 ref.go:130
    refine wp_region_lit ?_
    refine st_y S rfl rfl rfl (y_assign S rfl) ?_; clear S a; intro a S
    refine wpList_nil ?_
    replace S := S.sub [(0, _), (3, _), (2, _)] rfl
    refine then_normal ?_
    refine wp_ret ?_
    refine end_one S rfl (res_tmp rfl) ?_
    rw [h3]; exact ⟨rfl, M.below⟩
theorem bs_take {v : V8} {j : Nat} (h : j < 8) : ∃ b : UInt8, v.bs[j]? = some b ∧ v.cellsL[j]? = some (.int .u8 (b.toNat : Int)) := by
  have : j = 0 ∨ j = 1 ∨ j = 2 ∨ j = 3 ∨ j = 4 ∨ j = 5 ∨ j = 6 ∨ j = 7 := by omega
  rcases this with rfl | rfl | rfl | rfl | rfl | rfl | rfl | rfl <;> exact ⟨_, rfl, rfl⟩
theorem wcells_byte {x : List Wr} {k j : Nat} {p : Wr} {b : UInt8} {lo hi : Nat} {w : World} {v : Value} (h : Ws lo hi w v x) (hp : x[k]? = some p) (hb : p.val.cellsL[j]? = some (.int .u8 (b.toNat : Int))) : w.cell? ⟨(adr v).block, (adr v).off + k * 9 + 1 + j, none⟩ = some (.int .u8 (b.toNat : Int)) := by
  have hj := (List.getElem?_eq_some_iff.1 hb).1
  have := (h.at_.row (i := k) (wcells_get hp) rfl) (j + 1) (by simp at hj ⊢; omega)
  rw [show (adr v).off + k * 9 + 1 + j = (adr v).off + k * 9 + (j + 1) by omega, this, List.getElem?_cons_succ]
  exact hb
theorem rWrites_any {wc w : World} {H : List Ent} {lo hi : Nat} {v u : Value} {bs : List UInt8} {x : List Wr} (M : Mem wc w (byE lo hi v bs :: H)) (hu : Ws 0 wc.heap.size wc u x) (hb : bs.length ≤ 900) (hx : x.length ≤ 8) :
    Calls Try.prog 43 #[v, u] w fun e w' => ∃ v' lo' hi', e = .returned v' ∧ Mem wc w' (byE lo' hi' v' (bs ++ wsB x) :: H) := by
  refine calls_enter Try.func43 rfl 43 rfl rfl ?_; intro a S
  refine wp_seq ?_
  -- region 0 ref.go:134
  skip
  refine wp_region_lit ?_
  refine st_y S rfl rfl rfl (y_assign S rfl) ?_; clear S a; intro a S
  refine wpList_nil ?_
  replace S := S.sub [(0, _), (1, _), (4, _)] rfl
  refine then_normal ?_
  refine wp_seq ?_
  -- region 1 ref.go:135
  refine wp_region_lit ?_
  refine st_y S rfl rfl rfl (y_move S rfl) ?_; clear S a; intro a S
  refine st_y S rfl rfl rfl (y_move S rfl) ?_; clear S a; intro a S
  refine st_y S rfl rfl rfl (y_lenR (E := 67) S rfl (M.arg hu) (by kernel_rfl)) ?_; clear S a; intro a S
  refine st_y S rfl rfl rfl (y_to8 S rfl (by kernel_rfl) (by kernel_rfl)) ?_; clear S a; intro a S
  refine st_lit (ps := [(0, (Operand.tmp 10))]) (e := 5) (sz := 1) (zl := [.int .u8 0]) (cs := [_]) S M rfl rfl (by kernel_rfl) rfl rfl ?_; clear S M a; intro a w1 bZ S M hB
  refine st_append (e := 5) (sz := 1) (by_ := 1) (zc := [.int .u8 0]) S M 1 rfl rfl (by kernel_rfl) rfl (by decide) rfl rfl rfl (show Rd _ _ _ 1 _ 1 (bcells [byteOf (x.length : Int)]) from M.sliceAt 0 rfl (M.cellsAt (k := 1) 0 rfl rfl) rfl (Nat.le_refl _) (by unfold maxLen; omega)) (allOne_bcells _) (by omega) (by unfold maxLen; omega) ?_; clear S M a; intro a w2 vA loA hiA S M
  replace M := M.rowC (ys := [byteOf (x.length : Int)]) rfl
  refine st_y S rfl rfl rfl (y_assign S rfl) ?_; clear S a; intro a S
  refine wpList_nil ?_
  replace S := S.sub [(1, _), (4, _), (0, _)] rfl
  refine then_normal ?_
  refine wp_seq ?_
  refine wp_seq ?_
  -- region 2 ref.go:136
  refine wp_region_lit ?_
  refine st_y S rfl rfl rfl (y_assign S rfl) ?_; clear S a; intro a S
  refine wpList_nil ?_
  replace S := S.sub [(1, _), (4, _), (0, _), (5, _)] rfl
  refine then_normal ?_
  refine wp_block ?_
  refine wp_loop_g (fun m a w' => ∃ (k : Nat) (t : Value) (lo hi : Nat), k ≤ x.length ∧ m = x.length - k ∧ Sees 43 a [(0, t), (1, u), (5, .int .i64 (k : Int))] ∧ Mem wc w' (byE lo hi t (bs ++ (leB x.length 1 ++ wrsB (x.take k))) :: H)) (x.length) ?_ ?_
  · skip
    exact ⟨0, _, _, _, Nat.zero_le _, rfl, S.sub _ rfl, by rw [leB1]; have := M.drop 1; simpa [wrsB, byE] using this⟩
  · clear S M a; intro m a wl
    rintro ⟨k, t, lo, hi, hk, rfl, S, M⟩
    refine wp_seq ?_
    refine wp_seq ?_
    -- region 3 ref.go:136
    refine wp_region_lit ?_
    refine st_y S rfl rfl rfl (y_move S rfl) ?_; clear S a; intro a S
    refine st_y S rfl rfl rfl (y_move S rfl) ?_; clear S a; intro a S
    refine st_y S rfl rfl rfl (y_lenR (E := 67) S rfl ((M.arg hu)) (by kernel_rfl)) ?_; clear S a; intro a S
    refine st_y S rfl rfl rfl (y_int S rfl rfl rfl) ?_; clear S a; intro a S
    refine wpList_nil ?_
    replace S := S.sub [(0, _), (1, _), (5, _), (16, _)] rfl
    refine then_normal ?_
    refine st_split (t := 16) S rfl ?_ ?_
    · clear S; intro h16 S
      first | replace h16 := nrmA h16 | replace h16 := nrmB h16 | skip
      first | replace h16 := nrm1 h16 | replace h16 := nrm2 h16 | replace h16 := nrm3 h16 | replace h16 := nrm4 h16 | replace h16 := nrm5 h16 | replace h16 := nrm6 h16 | replace h16 := of_decide_eq_true h16 | replace h16 := of_decide_eq_false h16 | skip
      refine st_condT S rfl ?_
      refine wp_skip ?_
      refine then_normal ?_
      refine wp_seq ?_
      refine wp_block ?_
      refine wp_seq ?_
      -- region 5 ref.go:137
      obtain ⟨p, hp⟩ : ∃ p, x[k]? = some p := ⟨_, List.getElem?_eq_getElem (by omega)⟩
      have hlen : (bs ++ (leB x.length 1 ++ wrsB (x.take k))).length ≤ 1100 := by
        simp only [List.length_append, leB_length, wrsB_len, List.length_take]; omega
      generalize hB0 : bs ++ (leB x.length 1 ++ wrsB (x.take k)) = B0 at M hlen
      refine wp_region_lit ?_
      refine st_y S rfl rfl rfl (y_move S rfl) ?_; clear S a; intro a S
      refine st_y S rfl rfl rfl (y_move S rfl) ?_; clear S a; intro a S
      refine st_y S rfl rfl rfl (y_move S rfl) ?_; clear S a; intro a S
      refine st_y S rfl rfl rfl (y_indexR (e := 67) (sz := 9) S (by kernel_rfl) rfl ((M.arg hu)) rfl (by first | omega | (simp; done) | (simp; omega))) ?_; clear S a; intro a S
      try simp only [Int.toNat_natCast, Nat.mul_one, Nat.zero_add] at S
      refine st_y S rfl rfl rfl (y_fieldAddr (k := 0) S (by kernel_rfl) rfl) ?_; clear S a; intro a S
      refine st_y S rfl rfl rfl (y_load S (by kernel_rfl) rfl (wcells_block (M.arg hu) hp)) ?_; clear S a; intro a S
      refine st_y S rfl rfl rfl (y_to8 S rfl (by kernel_rfl) (by kernel_rfl)) ?_; clear S a; intro a S
      refine st_lit (ps := [(0, (Operand.tmp 25))]) (e := 5) (sz := 1) (zl := [.int .u8 0]) (cs := [_]) S M rfl rfl (by kernel_rfl) rfl rfl ?_; clear S M a; intro a w3 bY S M hB
      refine st_append (e := 5) (sz := 1) (by_ := 1) (zc := [.int .u8 0]) S M 1 rfl rfl (by kernel_rfl) rfl (by decide) rfl rfl rfl (show Rd _ _ _ 1 _ 1 (bcells [byteOf p.block]) from M.sliceAt 0 rfl (M.cellsAt (k := 1) 0 rfl rfl) rfl (Nat.le_refl _) (by unfold maxLen; omega)) (allOne_bcells _) (by omega) (by unfold maxLen; omega) ?_; clear S M a; intro a w4 vA loA hiA S M
      replace M := M.rowC (ys := [byteOf p.block]) rfl
      refine st_y S rfl rfl rfl (y_assign S rfl) ?_; clear S a; intro a S
      refine wpList_nil ?_
      replace S := S.sub [(1, _), (5, _), (16, _), (0, _)] rfl
      refine then_normal ?_
      refine wp_seq ?_
      -- region 6 ref.go:138
      refine wp_region_lit ?_
      refine st_y S rfl rfl rfl (y_assign S rfl) ?_; clear S a; intro a S
      refine wpList_nil ?_
      replace S := S.sub [(1, _), (5, _), (16, _), (0, _), (6, _)] rfl
      refine then_normal ?_
      refine wp_block ?_
      refine wp_loop_g (fun m a w' => ∃ (j : Nat) (t : Value) (lo hi : Nat), j ≤ 8 ∧ m = 8 - j ∧ Sees 43 a [(0, t), (1, u), (5, .int .i64 (k : Int)), (6, .int .i64 (j : Int))] ∧ Mem wc w' (byE lo hi t (B0 ++ [byteOf p.block] ++ p.val.bs.take j) :: H)) (8) ?_ ?_
      · skip
        exact ⟨0, _, _, _, by omega, rfl, S.sub _ rfl, by have := M.drop 1; simpa [byE] using this⟩
      · clear S M a; intro m a wl
        rintro ⟨j, t, lo, hi, hj, rfl, S, M⟩
        refine wp_seq ?_
        refine wp_seq ?_
        -- region 7 ref.go:138
        refine wp_region_lit ?_
        refine st_y S rfl rfl rfl (y_move S rfl) ?_; clear S a; intro a S
        refine st_y S rfl rfl rfl (y_int S rfl rfl rfl) ?_; clear S a; intro a S
        refine wpList_nil ?_
        replace S := S.sub [(0, _), (1, _), (5, _), (6, _), (29, _)] rfl
        refine then_normal ?_
        refine st_split (t := 29) S rfl ?_ ?_
        · clear S; intro h29 S
          first | replace h29 := nrmA h29 | replace h29 := nrmB h29 | skip
          first | replace h29 := nrm1 h29 | replace h29 := nrm2 h29 | replace h29 := nrm3 h29 | replace h29 := nrm4 h29 | replace h29 := nrm5 h29 | replace h29 := nrm6 h29 | replace h29 := of_decide_eq_true h29 | replace h29 := of_decide_eq_false h29 | skip
          refine st_condT S rfl ?_
          refine wp_skip ?_
          refine then_normal ?_
          refine wp_seq ?_
          refine wp_block ?_
          -- region 9 ref.go:139
          obtain ⟨c, hc1, hc2⟩ := bs_take (v := p.val) (j := j) (by omega)
          have hlen2 : (B0 ++ [byteOf p.block] ++ p.val.bs.take j).length ≤ 1200 := by simp only [List.length_append, List.length_take, List.length_cons, List.length_nil]; omega
          refine wp_region_lit ?_
          refine st_y S rfl rfl rfl (y_move S rfl) ?_; clear S a; intro a S
          refine st_y S rfl rfl rfl (y_move S rfl) ?_; clear S a; intro a S
          refine st_y S rfl rfl rfl (y_move S rfl) ?_; clear S a; intro a S
          refine st_y S rfl rfl rfl (y_move S rfl) ?_; clear S a; intro a S
          refine st_y S rfl rfl rfl (y_indexR (e := 67) (sz := 9) S (by kernel_rfl) rfl ((M.arg hu)) rfl (by first | omega | (simp; done) | (simp; omega))) ?_; clear S a; intro a S
          try simp only [Int.toNat_natCast, Nat.mul_one, Nat.zero_add] at S
          refine st_y S rfl rfl rfl (y_fieldAddr (k := 1) S (by kernel_rfl) rfl) ?_; clear S a; intro a S
          refine st_y S rfl rfl rfl (y_indexA (m := 8) (sz := 1) S (by kernel_rfl) rfl rfl (by first | omega | (simp; done) | (simp; omega))) ?_; clear S a; intro a S
          try simp only [Int.toNat_natCast, Nat.mul_one, Nat.zero_add] at S
          refine st_y S rfl rfl rfl (y_load S (by kernel_rfl) rfl (wcells_byte (M.arg hu) hp hc2)) ?_; clear S a; intro a S
          refine st_lit (ps := [(0, (Operand.tmp 39))]) (e := 5) (sz := 1) (zl := [.int .u8 0]) (cs := [_]) S M rfl rfl (by kernel_rfl) rfl rfl ?_; clear S M a; intro a w5 bX S M hB
          refine st_append (e := 5) (sz := 1) (by_ := 1) (zc := [.int .u8 0]) S M 1 rfl rfl (by kernel_rfl) rfl (by decide) rfl rfl rfl (show Rd _ _ _ 1 _ 1 (bcells [c]) from M.sliceAt 0 rfl (M.cellsAt (k := 1) 0 rfl rfl) rfl (Nat.le_refl _) (by unfold maxLen; omega)) (allOne_bcells _) (by omega) (by unfold maxLen; omega) ?_; clear S M a; intro a w6 vA loA hiA S M
          refine st_y S rfl rfl rfl (y_assign S rfl) ?_; clear S a; intro a S
          refine wpList_nil ?_
          replace S := S.sub [(1, _), (5, _), (6, _), (29, _), (0, _)] rfl
          refine block_normal ?_
          refine then_normal ?_
          -- region 8 ref.go:138
          refine wp_region_lit ?_
          refine st_y S rfl rfl rfl (y_move S rfl) ?_; clear S a; intro a S
          (first | refine st_y S rfl rfl rfl (y_addN S rfl rfl (by omega)) ?_ | refine st_y S rfl rfl rfl (y_int S rfl rfl rfl) ?_); clear S a; intro a S
          refine st_y S rfl rfl rfl (y_assign S rfl) ?_; clear S a; intro a S
          refine wpList_nil ?_
          replace S := S.sub [(1, _), (5, _), (29, _), (0, _), (6, _)] rfl
          refine then_normal ?_
          replace M := M.rowC (ys := [c]) rfl
          refine ⟨8 - (j + 1), by omega, j + 1, vA, loA, hiA, by omega, rfl, S.sub _ rfl, ?_⟩
          obtain ⟨hlt, he⟩ := List.getElem?_eq_some_iff.1 hc1
          rw [List.take_succ_eq_append_getElem hlt, he, ← List.append_assoc]
          exact M.drop 1
        · clear S; intro h29 S
          first | replace h29 := nrmA h29 | replace h29 := nrmB h29 | skip
          first | replace h29 := nrm1 h29 | replace h29 := nrm2 h29 | replace h29 := nrm3 h29 | replace h29 := nrm4 h29 | replace h29 := nrm5 h29 | replace h29 := nrm6 h29 | replace h29 := of_decide_eq_true h29 | replace h29 := of_decide_eq_false h29 | skip
          refine st_condF S rfl ?_
          refine wp_exit ?_
          refine then_exit ?_
          refine then_exit ?_
          refine block_hit ?_
          refine block_normal ?_
          refine then_normal ?_
          -- region 4 ref.go:136
          refine wp_region_lit ?_
          refine st_y S rfl rfl rfl (y_move S rfl) ?_; clear S a; intro a S
          (first | refine st_y S rfl rfl rfl (y_addN S rfl rfl (by omega)) ?_ | refine st_y S rfl rfl rfl (y_int S rfl rfl rfl) ?_); clear S a; intro a S
          refine st_y S rfl rfl rfl (y_assign S rfl) ?_; clear S a; intro a S
          refine wpList_nil ?_
          replace S := S.sub [(0, _), (1, _), (6, _), (29, _), (5, _)] rfl
          refine then_normal ?_
          obtain rfl : j = 8 := by omega
          refine ⟨x.length - (k + 1), by omega, k + 1, t, lo, hi, by omega, rfl, S.sub _ rfl, ?_⟩
          rw [wrsB_succ hp, ← List.append_assoc (leB _ _), ← List.append_assoc bs, hB0]
          rw [show p.val.bs.take 8 = p.val.bs from rfl] at M
          unfold wrB; rw [leB1, ← List.append_assoc]; exact M
    · clear S; intro h16 S
      first | replace h16 := nrmA h16 | replace h16 := nrmB h16 | skip
      first | replace h16 := nrm1 h16 | replace h16 := nrm2 h16 | replace h16 := nrm3 h16 | replace h16 := nrm4 h16 | replace h16 := nrm5 h16 | replace h16 := nrm6 h16 | replace h16 := of_decide_eq_true h16 | replace h16 := of_decide_eq_false h16 | skip
      refine st_condF S rfl ?_
      refine wp_exit ?_
      refine then_exit ?_
      refine then_exit ?_
      refine block_hit ?_
      refine then_normal ?_
      refine wp_seq ?_
      -- region 10 ref.go:142
      refine wp_region_lit ?_
      refine st_y S rfl rfl rfl (y_move S rfl) ?_; clear S a; intro a S
      refine st_y S rfl rfl rfl (y_assign S rfl) ?_; clear S a; intro a S
      refine wpList_nil ?_
      replace S := S.sub [(0, _), (1, _), (5, _), (16, _), (4, _)] rfl
      refine then_normal ?_
      refine wp_ret ?_
      refine end_one S rfl (res_tmp rfl) ?_
      obtain rfl : k = x.length := by omega
      rw [List.take_length] at M
      exact ⟨_, _, _, rfl, M⟩

theorem rBytes_any (r : Rc) (va : Option Addr) (vn vc : Nat) (x : List Wr) (w : World) (hs : r.shards ≤ 9223372036854775807) (hu : Ws 0 w.heap.size w (.slice va vn vc) x) :
    Calls Try.prog 17 #[.agg (r.cells (.slice va vn vc))] w (BytesPost r x w) := by
  have M := Mem.start w
  have henc : r.enc x = [byteOf r.kind] ++ r.body x := by rw [enc_head]; rfl
  have fin : r.may x = true → ∀ (v' : Value) (w' : World), Fresh w w' 5 1 v' (r.enc x).length (bcells (r.enc x)) → BytesPost r x w (.returned (.tuple #[v', .int .i64 0])) w' := fun hm v' w' hF =>
    ⟨v', by simp [hm], hF.below, fun _ => hF, fun h => absurd h (by simp [hm])⟩
  refine calls_enter Try.func17 rfl 77 rfl rfl ?_; intro a S
  refine wp_seq ?_
  -- region 0 ref.go:146
  refine wp_region_lit ?_
  refine st_box S M rfl rfl rfl #[_, _, _, _, _, _, _, _, _, _, _, _] rfl ?_; clear S M a; intro a w1 b1 S M hB
  refine st_y S rfl rfl rfl (y_assign S rfl) ?_; clear S a; intro a S
  refine st_y S rfl rfl rfl (y_assign S rfl) ?_; clear S a; intro a S
  refine wpList_nil ?_
  replace S := S.sub [(0, _), (1, _), (2, _), (3, _)] rfl
  refine then_normal ?_
  refine wp_seq ?_
  refine wp_seq ?_
  -- region 1 ref.go:147
  refine wp_region_lit ?_
  refine st_y S rfl rfl rfl (y_loadAgg (cs := [_, _, _, _, _, _, _, _, _, _, _, _]) S (by kernel_rfl) rfl rfl (M.cellsAt (k := 12) 0 rfl rfl)) ?_; clear S a; intro a S
  refine st_call (xs := [(Operand.tmp 5)]) S (enters_of Try.func19 (by decide) rfl) rfl rfl rfl (rMay_any r va vn vc x _ hs (M.argW hu)) ?_
  rintro _ w2 ⟨rfl, hK⟩; refine ⟨_, rfl, ?_⟩; clear S a; intro a S; replace M := M.grow hK
  refine st_y S rfl rfl rfl (y_not S rfl) ?_; clear S a; intro a S
  refine wpList_nil ?_
  replace S := S.sub [(0, _), (1, _), (2, _), (3, _), (7, _)] rfl
  refine then_normal ?_
  refine st_split (t := 7) S rfl ?_ ?_
  · clear S; intro h7 S
    refine st_condT S rfl ?_
    refine wp_seq ?_
    -- region 2 ref.go:148
    refine wp_region_lit ?_
    refine st_y S rfl rfl rfl (y_assign S rfl) ?_; clear S a; intro a S
    refine st_y S rfl rfl rfl (y_assign S rfl) ?_; clear S a; intro a S
    refine wpList_nil ?_
    replace S := S.sub [(0, _), (1, _), (7, _), (2, _), (3, _)] rfl
    refine then_normal ?_
    refine wp_ret ?_
    refine then_ret ?_
    refine end_two S rfl (res_tmp rfl) (res_tmp rfl) ?_
    have hm : r.may x = false := by simpa using h7
    exact ⟨.slice none 0 0, by simp [hm], M.below, fun h => absurd h (by simp [hm]), fun _ => rfl⟩
  · clear S; intro h7 S
    refine st_condF S rfl ?_
    refine wp_skip ?_
    refine then_normal ?_
    refine wp_seq ?_
    -- region 3 ref.go:150
    have hm : r.may x = true := by simpa using h7
    have hk := kinds hm
    have hx8 := may_len hm
    refine wp_region_lit ?_
    refine st_y S rfl rfl rfl (y_fieldAddr (k := 0) S (by kernel_rfl) rfl) ?_; clear S a; intro a S
    refine st_y S rfl rfl rfl (y_load S (by kernel_rfl) rfl (M.cell 0 rfl rfl)) ?_; clear S a; intro a S
    refine st_y S rfl rfl rfl (y_to8 S rfl (by kernel_rfl) (by kernel_rfl)) ?_; clear S a; intro a S
    refine st_lit (ps := [(0, (Operand.tmp 10))]) (e := 5) (sz := 1) (zl := [.int .u8 0]) (cs := [_]) S M rfl rfl (by kernel_rfl) rfl rfl ?_; clear S M a; intro a w3 bR S M hB
    replace M := M.toRow (sz := 1) (m := 1) (cap := 1) (xs := bcells [byteOf r.kind]) 0 rfl rfl (Nat.le_refl _) (by unfold maxLen; omega) rfl rfl
    refine st_y S rfl rfl rfl (y_assign S rfl) ?_; clear S a; intro a S
    refine wpList_nil ?_
    replace S := S.sub [(0, _), (1, _), (2, _), (3, _), (7, _), (4, _)] rfl
    refine then_normal ?_
    refine wp_seq ?_
    refine wp_seq ?_
    -- region 4 ref.go:151
    refine wp_region_lit ?_
    refine st_y S rfl rfl rfl (y_fieldAddr (k := 0) S (by kernel_rfl) rfl) ?_; clear S a; intro a S
    refine st_y S rfl rfl rfl (y_load S (by kernel_rfl) rfl (M.cell 1 rfl rfl)) ?_; clear S a; intro a S
    refine st_y S rfl rfl rfl (y_int S rfl rfl rfl) ?_; clear S a; intro a S
    refine st_y S rfl rfl rfl (y_move S rfl) ?_; clear S a; intro a S
    refine st_split (t := 15) S rfl ?_ ?_
    · clear S; intro h15 S
      first | replace h15 := nrmA h15 | replace h15 := nrmB h15 | skip
      first | replace h15 := nrm1 h15 | replace h15 := nrm2 h15 | replace h15 := nrm3 h15 | replace h15 := nrm4 h15 | replace h15 := nrm5 h15 | replace h15 := nrm6 h15 | replace h15 := of_decide_eq_true h15 | replace h15 := of_decide_eq_false h15 | skip
      refine st_no S rfl rfl rfl ?_; clear S a; intro a S
      refine st_no S rfl rfl rfl ?_; clear S a; intro a S
      refine st_no S rfl rfl rfl ?_; clear S a; intro a S
      refine st_y S rfl rfl rfl (y_pickT S rfl rfl) ?_; clear S a; intro a S
      refine wpList_nil ?_
      replace S := S.sub [(0, _), (1, _), (2, _), (3, _), (7, _), (4, _), (19, _)] rfl
      refine then_normal ?_
      refine st_condT S rfl ?_
      refine wp_seq ?_
      -- region 5 ref.go:152
      refine wp_region_lit ?_
      refine st_y S rfl rfl rfl (y_move S rfl) ?_; clear S a; intro a S
      refine st_y S rfl rfl rfl (y_fieldAddr (k := 11) S (by kernel_rfl) rfl) ?_; clear S a; intro a S
      refine st_y S rfl rfl rfl (y_load S (by kernel_rfl) rfl (M.cell 1 rfl rfl)) ?_; clear S a; intro a S
      refine st_call (xs := [(Operand.tmp 20), (Operand.tmp 22)]) S (enters_of Try.func41 (by decide) rfl) rfl rfl rfl (three_any M _ (by simp)) ?_
      rintro _ w4 ⟨v1, lo1, hi1, rfl, M1⟩; refine ⟨_, rfl, ?_⟩; clear S a; intro a S; replace M := M1
      refine st_y S rfl rfl rfl (y_assign S rfl) ?_; clear S a; intro a S
      refine st_y S rfl rfl rfl (y_assign S rfl) ?_; clear S a; intro a S
      refine wpList_nil ?_
      replace S := S.sub [(0, _), (1, _), (7, _), (4, _), (19, _), (2, _), (3, _)] rfl
      refine then_normal ?_
      refine wp_ret ?_
      refine then_ret ?_
      refine end_two S rfl (res_tmp rfl) (res_tmp rfl) ?_
      refine fin hm _ _ ?_
      have e : r.enc x = [byteOf r.kind] ++ leB r.n 3 := by rw [henc]; unfold Rc.body; (repeat rw [if_neg (by omega)])
      rw [e]; exact M.fresh 0 rfl
    · clear S; intro h15 S
      first | replace h15 := nrmA h15 | replace h15 := nrmB h15 | skip
      first | replace h15 := nrm1 h15 | replace h15 := nrm2 h15 | replace h15 := nrm3 h15 | replace h15 := nrm4 h15 | replace h15 := nrm5 h15 | replace h15 := nrm6 h15 | replace h15 := of_decide_eq_true h15 | replace h15 := of_decide_eq_false h15 | skip
      refine st_y S rfl rfl rfl (y_fieldAddr (k := 0) S (by kernel_rfl) rfl) ?_; clear S a; intro a S
      refine st_y S rfl rfl rfl (y_load S (by kernel_rfl) rfl (M.cell 1 rfl rfl)) ?_; clear S a; intro a S
      refine st_y S rfl rfl rfl (y_int S rfl rfl rfl) ?_; clear S a; intro a S
      refine st_y S rfl rfl rfl (y_pickF S rfl rfl) ?_; clear S a; intro a S
      refine wpList_nil ?_
      replace S := S.sub [(0, _), (1, _), (2, _), (3, _), (7, _), (4, _), (19, _)] rfl
      refine then_normal ?_
      refine st_split (t := 19) S rfl ?_ ?_
      · clear S; intro h19 S
        first | replace h19 := nrmA h19 | replace h19 := nrmB h19 | skip
        first | replace h19 := nrm1 h19 | replace h19 := nrm2 h19 | replace h19 := nrm3 h19 | replace h19 := nrm4 h19 | replace h19 := nrm5 h19 | replace h19 := nrm6 h19 | replace h19 := of_decide_eq_true h19 | replace h19 := of_decide_eq_false h19 | skip
        refine st_condT S rfl ?_
        refine wp_seq ?_
        -- region 5 ref.go:152
        refine wp_region_lit ?_
        refine st_y S rfl rfl rfl (y_move S rfl) ?_; clear S a; intro a S
        refine st_y S rfl rfl rfl (y_fieldAddr (k := 11) S (by kernel_rfl) rfl) ?_; clear S a; intro a S
        refine st_y S rfl rfl rfl (y_load S (by kernel_rfl) rfl (M.cell 1 rfl rfl)) ?_; clear S a; intro a S
        refine st_call (xs := [(Operand.tmp 20), (Operand.tmp 22)]) S (enters_of Try.func41 (by decide) rfl) rfl rfl rfl (three_any M _ (by simp)) ?_
        rintro _ w5 ⟨v1, lo1, hi1, rfl, M1⟩; refine ⟨_, rfl, ?_⟩; clear S a; intro a S; replace M := M1
        refine st_y S rfl rfl rfl (y_assign S rfl) ?_; clear S a; intro a S
        refine st_y S rfl rfl rfl (y_assign S rfl) ?_; clear S a; intro a S
        refine wpList_nil ?_
        replace S := S.sub [(0, _), (1, _), (7, _), (4, _), (19, _), (2, _), (3, _)] rfl
        refine then_normal ?_
        refine wp_ret ?_
        refine then_ret ?_
        refine end_two S rfl (res_tmp rfl) (res_tmp rfl) ?_
        refine fin hm _ _ ?_
        have e : r.enc x = [byteOf r.kind] ++ leB r.n 3 := by rw [henc]; unfold Rc.body; (repeat rw [if_neg (by omega)])
        rw [e]; exact M.fresh 0 rfl
      · clear S; intro h19 S
        first | replace h19 := nrmA h19 | replace h19 := nrmB h19 | skip
        first | replace h19 := nrm1 h19 | replace h19 := nrm2 h19 | replace h19 := nrm3 h19 | replace h19 := nrm4 h19 | replace h19 := nrm5 h19 | replace h19 := nrm6 h19 | replace h19 := of_decide_eq_true h19 | replace h19 := of_decide_eq_false h19 | skip
        refine st_condF S rfl ?_
        refine wp_skip ?_
        refine then_normal ?_
        refine wp_seq ?_
        -- region 6 ref.go:154
        refine wp_region_lit ?_
        refine st_y S rfl rfl rfl (y_move S rfl) ?_; clear S a; intro a S
        refine st_y S rfl rfl rfl (y_fieldAddr (k := 1) S (by kernel_rfl) rfl) ?_; clear S a; intro a S
        refine st_y S rfl rfl rfl (y_loadAgg (cs := [_, _, _]) S (by kernel_rfl) rfl rfl (M.cellsAt (k := 3) 1 rfl rfl)) ?_; clear S a; intro a S
        refine st_call (xs := [(Operand.tmp 24), (Operand.tmp 26)]) S (enters_of Try.func42 (by decide) rfl) rfl rfl rfl (rnamed_any M r.name (by simp)) ?_
        rintro _ w6 ⟨v1, lo1, hi1, rfl, M1⟩; refine ⟨_, rfl, ?_⟩; clear S a; intro a S; replace M := M1
        refine st_y S rfl rfl rfl (y_assign S rfl) ?_; clear S a; intro a S
        refine wpList_nil ?_
        replace S := S.sub [(0, _), (1, _), (2, _), (3, _), (7, _), (19, _), (4, _)] rfl
        refine then_normal ?_
        refine wp_seq ?_
        refine wp_seq ?_
        -- region 7 ref.go:155
        refine wp_region_lit ?_
        refine st_y S rfl rfl rfl (y_fieldAddr (k := 0) S (by kernel_rfl) rfl) ?_; clear S a; intro a S
        refine st_y S rfl rfl rfl (y_load S (by kernel_rfl) rfl (M.cell 1 rfl rfl)) ?_; clear S a; intro a S
        refine wpList_nil ?_
        replace S := S.sub [(0, _), (1, _), (2, _), (3, _), (7, _), (19, _), (4, _), (29, _)] rfl
        refine then_normal ?_
        refine wp_block ?_
        refine wp_seq ?_
        -- region 8 ref.go:156
        refine wp_region_lit ?_
        refine st_y S rfl rfl rfl (y_int S rfl rfl rfl) ?_; clear S a; intro a S
        refine st_y S rfl rfl rfl (y_assign S rfl) ?_; clear S a; intro a S
        refine wpList_nil ?_
        replace S := S.sub [(0, _), (1, _), (2, _), (3, _), (7, _), (19, _), (4, _), (29, _), (30, _)] rfl
        refine then_normal ?_
        refine st_split (t := 30) S rfl ?_ ?_
        · clear S; intro h30 S
          first | replace h30 := nrmA h30 | replace h30 := nrmB h30 | skip
          first | replace h30 := nrm1 h30 | replace h30 := nrm2 h30 | replace h30 := nrm3 h30 | replace h30 := nrm4 h30 | replace h30 := nrm5 h30 | replace h30 := nrm6 h30 | replace h30 := of_decide_eq_true h30 | replace h30 := of_decide_eq_false h30 | skip
          refine st_condT S rfl ?_
          -- region 9 ref.go:157
          refine wp_region_lit ?_
          refine st_y S rfl rfl rfl (y_move S rfl) ?_; clear S a; intro a S
          refine st_y S rfl rfl rfl (y_fieldAddr (k := 5) S (by kernel_rfl) rfl) ?_; clear S a; intro a S
          refine st_y S rfl rfl rfl (y_load S (by kernel_rfl) rfl (M.cell 1 rfl rfl)) ?_; clear S a; intro a S
          refine st_call (xs := [(Operand.tmp 32), (Operand.tmp 34)]) S (enters_of Try.func43 (by decide) rfl) rfl rfl rfl (rWrites_any M hu (by simp [nmB, leB_length]) hx8) ?_
          rintro _ w7 ⟨v2, lo2, hi2, rfl, M1⟩; refine ⟨_, rfl, ?_⟩; clear S a; intro a S; replace M := M1
          refine st_y S rfl rfl rfl (y_assign S rfl) ?_; clear S a; intro a S
          refine wpList_nil ?_
          replace S := S.sub [(0, _), (1, _), (2, _), (3, _), (7, _), (19, _), (29, _), (30, _), (4, _)] rfl
          refine block_normal ?_
          refine then_normal ?_
          refine wp_seq ?_
          -- region 17 ref.go:166
          refine wp_region_lit ?_
          refine st_y S rfl rfl rfl (y_move S rfl) ?_; clear S a; intro a S
          refine st_y S rfl rfl rfl (y_assign S rfl) ?_; clear S a; intro a S
          refine st_y S rfl rfl rfl (y_assign S rfl) ?_; clear S a; intro a S
          refine wpList_nil ?_
          replace S := S.sub [(0, _), (1, _), (7, _), (19, _), (29, _), (30, _), (4, _), (2, _), (3, _)] rfl
          refine then_normal ?_
          refine wp_ret ?_
          refine end_two S rfl (res_tmp rfl) (res_tmp rfl) ?_
          refine fin hm _ _ ?_
          refine Fresh.eqB (M.fresh 0 rfl) ?_
          rw [henc]; unfold Rc.body
          first
            | (rw [if_pos (by assumption)]; simp; done)
            | (rw [if_neg (by omega), if_pos (by assumption)]; simp [leB1]; done)
            | (rw [if_neg (by omega), if_neg (by omega), if_pos (by assumption)]; simp [leB1]; done)
            | (rw [if_neg (by omega), if_neg (by omega), if_neg (by omega), if_pos (by assumption)]; simp [leB1]; done)
            | (rw [if_neg (by omega), if_neg (by omega), if_neg (by omega), if_neg (by omega), if_pos (by omega)]; done)
        · clear S; intro h30 S
          first | replace h30 := nrmA h30 | replace h30 := nrmB h30 | skip
          first | replace h30 := nrm1 h30 | replace h30 := nrm2 h30 | replace h30 := nrm3 h30 | replace h30 := nrm4 h30 | replace h30 := nrm5 h30 | replace h30 := nrm6 h30 | replace h30 := of_decide_eq_true h30 | replace h30 := of_decide_eq_false h30 | skip
          refine st_condF S rfl ?_
          refine wp_seq ?_
          -- region 10 ref.go:158
          refine wp_region_lit ?_
          refine st_y S rfl rfl rfl (y_int S rfl rfl rfl) ?_; clear S a; intro a S
          refine st_y S rfl rfl rfl (y_assign S rfl) ?_; clear S a; intro a S
          refine wpList_nil ?_
          replace S := S.sub [(0, _), (1, _), (2, _), (3, _), (7, _), (19, _), (4, _), (29, _), (30, _), (36, _)] rfl
          refine then_normal ?_
          refine st_split (t := 36) S rfl ?_ ?_
          · clear S; intro h36 S
            first | replace h36 := nrmA h36 | replace h36 := nrmB h36 | skip
            first | replace h36 := nrm1 h36 | replace h36 := nrm2 h36 | replace h36 := nrm3 h36 | replace h36 := nrm4 h36 | replace h36 := nrm5 h36 | replace h36 := nrm6 h36 | replace h36 := of_decide_eq_true h36 | replace h36 := of_decide_eq_false h36 | skip
            refine st_condT S rfl ?_
            refine wp_seq ?_
            -- region 11 ref.go:159
            refine wp_region_lit ?_
            refine st_y S rfl rfl rfl (y_move S rfl) ?_; clear S a; intro a S
            refine st_y S rfl rfl rfl (y_fieldAddr (k := 5) S (by kernel_rfl) rfl) ?_; clear S a; intro a S
            refine st_y S rfl rfl rfl (y_load S (by kernel_rfl) rfl (M.cell 1 rfl rfl)) ?_; clear S a; intro a S
            refine st_call (xs := [(Operand.tmp 38), (Operand.tmp 40)]) S (enters_of Try.func43 (by decide) rfl) rfl rfl rfl (rWrites_any M hu (by simp [nmB, leB_length]) hx8) ?_
            rintro _ w8 ⟨v2, lo2, hi2, rfl, M1⟩; refine ⟨_, rfl, ?_⟩; clear S a; intro a S; replace M := M1
            refine st_y S rfl rfl rfl (y_assign S rfl) ?_; clear S a; intro a S
            refine wpList_nil ?_
            replace S := S.sub [(0, _), (1, _), (2, _), (3, _), (7, _), (19, _), (29, _), (30, _), (36, _), (4, _)] rfl
            refine then_normal ?_
            -- region 12 ref.go:160
            refine wp_region_lit ?_
            refine st_y S rfl rfl rfl (y_move S rfl) ?_; clear S a; intro a S
            refine st_y S rfl rfl rfl (y_fieldAddr (k := 6) S (by kernel_rfl) rfl) ?_; clear S a; intro a S
            refine st_y S rfl rfl rfl (y_load S (by kernel_rfl) rfl (M.cell 1 rfl rfl)) ?_; clear S a; intro a S
            refine st_y S rfl rfl rfl (y_to8 S rfl (by kernel_rfl) (by kernel_rfl)) ?_; clear S a; intro a S
            refine st_y S rfl rfl rfl (y_fieldAddr (k := 7) S (by kernel_rfl) rfl) ?_; clear S a; intro a S
            refine st_y S rfl rfl rfl (y_load S (by kernel_rfl) rfl (M.cell 1 rfl rfl)) ?_; clear S a; intro a S
            refine st_y S rfl rfl rfl (y_to8 S rfl (by kernel_rfl) (by kernel_rfl)) ?_; clear S a; intro a S
            refine st_lit (ps := [(0, (Operand.tmp 45)), (1, (Operand.tmp 48))]) (e := 5) (sz := 1) (zl := [.int .u8 0, .int .u8 0]) (cs := [_, _]) S M rfl rfl (by kernel_rfl) rfl rfl ?_; clear S M a; intro a w9 bZ S M hB
            refine st_append (e := 5) (sz := 1) (by_ := 1) (zc := [.int .u8 0]) S M 1 rfl rfl (by kernel_rfl) rfl (by decide) rfl rfl rfl (show Rd _ _ _ 1 _ 2 (bcells [byteOf r.give, byteOf r.take]) from M.sliceAt 0 rfl (M.cellsAt (k := 2) 0 rfl rfl) rfl (Nat.le_refl _) (by unfold maxLen; omega)) (allOne_bcells _) (by first | omega | (simp [nmB, wsB, leB_length, wrsB_len]; done) | (simp [nmB, wsB, leB_length, wrsB_len]; omega)) (by unfold maxLen; first | (simp [nmB, wsB, leB_length, wrsB_len]; done) | (simp [nmB, wsB, leB_length, wrsB_len]; omega)) ?_; clear S M a; intro a w10 vA loA hiA S M
            replace M := M.rowC (ys := [byteOf r.give, byteOf r.take]) rfl
            refine st_y S rfl rfl rfl (y_assign S rfl) ?_; clear S a; intro a S
            refine wpList_nil ?_
            replace S := S.sub [(0, _), (1, _), (2, _), (3, _), (7, _), (19, _), (29, _), (30, _), (36, _), (4, _)] rfl
            refine block_normal ?_
            refine then_normal ?_
            refine wp_seq ?_
            -- region 17 ref.go:166
            refine wp_region_lit ?_
            refine st_y S rfl rfl rfl (y_move S rfl) ?_; clear S a; intro a S
            refine st_y S rfl rfl rfl (y_assign S rfl) ?_; clear S a; intro a S
            refine st_y S rfl rfl rfl (y_assign S rfl) ?_; clear S a; intro a S
            refine wpList_nil ?_
            replace S := S.sub [(0, _), (1, _), (7, _), (19, _), (29, _), (30, _), (36, _), (4, _), (2, _), (3, _)] rfl
            refine then_normal ?_
            refine wp_ret ?_
            refine end_two S rfl (res_tmp rfl) (res_tmp rfl) ?_
            refine fin hm _ _ ?_
            refine Fresh.eqB (M.fresh 0 rfl) ?_
            rw [henc]; unfold Rc.body
            first
              | (rw [if_pos (by assumption)]; simp; done)
              | (rw [if_neg (by omega), if_pos (by assumption)]; simp [leB1]; done)
              | (rw [if_neg (by omega), if_neg (by omega), if_pos (by assumption)]; simp [leB1]; done)
              | (rw [if_neg (by omega), if_neg (by omega), if_neg (by omega), if_pos (by assumption)]; simp [leB1]; done)
              | (rw [if_neg (by omega), if_neg (by omega), if_neg (by omega), if_neg (by omega), if_pos (by omega)]; done)
          · clear S; intro h36 S
            first | replace h36 := nrmA h36 | replace h36 := nrmB h36 | skip
            first | replace h36 := nrm1 h36 | replace h36 := nrm2 h36 | replace h36 := nrm3 h36 | replace h36 := nrm4 h36 | replace h36 := nrm5 h36 | replace h36 := nrm6 h36 | replace h36 := of_decide_eq_true h36 | replace h36 := of_decide_eq_false h36 | skip
            refine st_condF S rfl ?_
            refine wp_seq ?_
            -- region 13 ref.go:161
            refine wp_region_lit ?_
            refine st_y S rfl rfl rfl (y_int S rfl rfl rfl) ?_; clear S a; intro a S
            refine st_y S rfl rfl rfl (y_assign S rfl) ?_; clear S a; intro a S
            refine wpList_nil ?_
            replace S := S.sub [(0, _), (1, _), (2, _), (3, _), (7, _), (19, _), (4, _), (29, _), (30, _), (36, _), (51, _)] rfl
            refine then_normal ?_
            refine st_split (t := 51) S rfl ?_ ?_
            · clear S; intro h51 S
              first | replace h51 := nrmA h51 | replace h51 := nrmB h51 | skip
              first | replace h51 := nrm1 h51 | replace h51 := nrm2 h51 | replace h51 := nrm3 h51 | replace h51 := nrm4 h51 | replace h51 := nrm5 h51 | replace h51 := nrm6 h51 | replace h51 := of_decide_eq_true h51 | replace h51 := of_decide_eq_false h51 | skip
              refine st_condT S rfl ?_
              -- region 14 ref.go:162
              refine wp_region_lit ?_
              refine st_y S rfl rfl rfl (y_move S rfl) ?_; clear S a; intro a S
              refine st_y S rfl rfl rfl (y_fieldAddr (k := 4) S (by kernel_rfl) rfl) ?_; clear S a; intro a S
              refine st_y S rfl rfl rfl (y_load S (by kernel_rfl) rfl (M.cell 1 rfl rfl)) ?_; clear S a; intro a S
              refine st_call (xs := [(Operand.tmp 55)]) S (enters_of Try.func44 (by decide) rfl) rfl rfl rfl (flag_any _ _) ?_
              rintro _ w11 ⟨rfl, hK⟩; refine ⟨_, rfl, ?_⟩; clear S a; intro a S; replace M := M.grow hK
              refine st_lit (ps := [(0, (Operand.tmp 56))]) (e := 5) (sz := 1) (zl := [.int .u8 0]) (cs := [_]) S M rfl rfl (by kernel_rfl) rfl rfl ?_; clear S M a; intro a w12 bZ S M hB
              refine st_append (e := 5) (sz := 1) (by_ := 1) (zc := [.int .u8 0]) S M 1 rfl rfl (by kernel_rfl) rfl (by decide) rfl rfl rfl (show Rd _ _ _ 1 _ 1 (bcells [byteOf (if r.yes then 1 else 0)]) from M.sliceAt 0 rfl (M.cellsAt (k := 1) 0 rfl rfl) rfl (Nat.le_refl _) (by unfold maxLen; omega)) (allOne_bcells _) (by first | omega | (simp [nmB, wsB, leB_length, wrsB_len]; done) | (simp [nmB, wsB, leB_length, wrsB_len]; omega)) (by unfold maxLen; first | (simp [nmB, wsB, leB_length, wrsB_len]; done) | (simp [nmB, wsB, leB_length, wrsB_len]; omega)) ?_; clear S M a; intro a w13 vA loA hiA S M
              replace M := M.rowC (ys := [byteOf (if r.yes then 1 else 0)]) rfl
              refine st_y S rfl rfl rfl (y_assign S rfl) ?_; clear S a; intro a S
              refine wpList_nil ?_
              replace S := S.sub [(0, _), (1, _), (2, _), (3, _), (7, _), (19, _), (29, _), (30, _), (36, _), (51, _), (4, _)] rfl
              refine block_normal ?_
              refine then_normal ?_
              refine wp_seq ?_
              -- region 17 ref.go:166
              refine wp_region_lit ?_
              refine st_y S rfl rfl rfl (y_move S rfl) ?_; clear S a; intro a S
              refine st_y S rfl rfl rfl (y_assign S rfl) ?_; clear S a; intro a S
              refine st_y S rfl rfl rfl (y_assign S rfl) ?_; clear S a; intro a S
              refine wpList_nil ?_
              replace S := S.sub [(0, _), (1, _), (7, _), (19, _), (29, _), (30, _), (36, _), (51, _), (4, _), (2, _), (3, _)] rfl
              refine then_normal ?_
              refine wp_ret ?_
              refine end_two S rfl (res_tmp rfl) (res_tmp rfl) ?_
              refine fin hm _ _ ?_
              refine Fresh.eqB (M.fresh 0 rfl) ?_
              rw [henc]; unfold Rc.body
              first
                | (rw [if_pos (by assumption)]; simp; done)
                | (rw [if_neg (by omega), if_pos (by assumption)]; simp [leB1]; done)
                | (rw [if_neg (by omega), if_neg (by omega), if_pos (by assumption)]; simp [leB1]; done)
                | (rw [if_neg (by omega), if_neg (by omega), if_neg (by omega), if_pos (by assumption)]; simp [leB1]; done)
                | (rw [if_neg (by omega), if_neg (by omega), if_neg (by omega), if_neg (by omega), if_pos (by omega)]; done)
            · clear S; intro h51 S
              first | replace h51 := nrmA h51 | replace h51 := nrmB h51 | skip
              first | replace h51 := nrm1 h51 | replace h51 := nrm2 h51 | replace h51 := nrm3 h51 | replace h51 := nrm4 h51 | replace h51 := nrm5 h51 | replace h51 := nrm6 h51 | replace h51 := of_decide_eq_true h51 | replace h51 := of_decide_eq_false h51 | skip
              refine st_condF S rfl ?_
              refine wp_seq ?_
              -- region 15 ref.go:163
              refine wp_region_lit ?_
              refine st_y S rfl rfl rfl (y_int S rfl rfl rfl) ?_; clear S a; intro a S
              refine st_y S rfl rfl rfl (y_assign S rfl) ?_; clear S a; intro a S
              refine wpList_nil ?_
              replace S := S.sub [(0, _), (1, _), (2, _), (3, _), (7, _), (19, _), (4, _), (29, _), (30, _), (36, _), (51, _), (59, _)] rfl
              refine then_normal ?_
              refine st_split (t := 59) S rfl ?_ ?_
              · clear S; intro h59 S
                first | replace h59 := nrmA h59 | replace h59 := nrmB h59 | skip
                first | replace h59 := nrm1 h59 | replace h59 := nrm2 h59 | replace h59 := nrm3 h59 | replace h59 := nrm4 h59 | replace h59 := nrm5 h59 | replace h59 := nrm6 h59 | replace h59 := of_decide_eq_true h59 | replace h59 := of_decide_eq_false h59 | skip
                refine st_condT S rfl ?_
                -- region 16 ref.go:164
                refine wp_region_lit ?_
                refine st_y S rfl rfl rfl (y_move S rfl) ?_; clear S a; intro a S
                refine st_y S rfl rfl rfl (y_fieldAddr (k := 8) S (by kernel_rfl) rfl) ?_; clear S a; intro a S
                refine st_y S rfl rfl rfl (y_load S (by kernel_rfl) rfl (M.cell 1 rfl rfl)) ?_; clear S a; intro a S
                refine st_y S rfl rfl rfl (y_to8 S rfl (by kernel_rfl) (by kernel_rfl)) ?_; clear S a; intro a S
                refine st_y S rfl rfl rfl (y_fieldAddr (k := 9) S (by kernel_rfl) rfl) ?_; clear S a; intro a S
                refine st_y S rfl rfl rfl (y_fieldAddr (k := 0) S (by kernel_rfl) rfl) ?_; clear S a; intro a S
                refine st_y S rfl rfl rfl (y_load S (by kernel_rfl) rfl (M.cell 1 rfl rfl)) ?_; clear S a; intro a S
                have hcs := may_cs hm h59
                (first | refine st_y S rfl rfl rfl (y_addN S rfl rfl (by first | omega | (simp [nmB, wsB, leB_length, wrsB_len]; done) | (simp [nmB, wsB, leB_length, wrsB_len]; omega))) ?_ | refine st_y S rfl rfl rfl (y_int S rfl rfl rfl) ?_); clear S a; intro a S
                refine st_y S rfl rfl rfl (y_to8 S rfl (by kernel_rfl) (by kernel_rfl)) ?_; clear S a; intro a S
                refine st_y S rfl rfl rfl (y_fieldAddr (k := 9) S (by kernel_rfl) rfl) ?_; clear S a; intro a S
                refine st_y S rfl rfl rfl (y_fieldAddr (k := 1) S (by kernel_rfl) rfl) ?_; clear S a; intro a S
                refine st_y S rfl rfl rfl (y_load S (by kernel_rfl) rfl (M.cell 1 rfl rfl)) ?_; clear S a; intro a S
                refine st_y S rfl rfl rfl (y_to8 S rfl (by kernel_rfl) (by kernel_rfl)) ?_; clear S a; intro a S
                refine st_lit (ps := [(0, (Operand.tmp 64)), (1, (Operand.tmp 69)), (2, (Operand.tmp 73))]) (e := 5) (sz := 1) (zl := [.int .u8 0, .int .u8 0, .int .u8 0]) (cs := [_, _, _]) S M rfl rfl (by kernel_rfl) rfl rfl ?_; clear S M a; intro a w14 bZ S M hB
                refine st_append (e := 5) (sz := 1) (by_ := 1) (zc := [.int .u8 0]) S M 1 rfl rfl (by kernel_rfl) rfl (by decide) rfl rfl rfl (show Rd _ _ _ 1 _ 3 (bcells [byteOf r.shards, byteOf (r.cs + 1), byteOf r.ct]) from M.sliceAt 0 rfl (M.cellsAt (k := 3) 0 rfl rfl) rfl (Nat.le_refl _) (by unfold maxLen; omega)) (allOne_bcells _) (by first | omega | (simp [nmB, wsB, leB_length, wrsB_len]; done) | (simp [nmB, wsB, leB_length, wrsB_len]; omega)) (by unfold maxLen; first | (simp [nmB, wsB, leB_length, wrsB_len]; done) | (simp [nmB, wsB, leB_length, wrsB_len]; omega)) ?_; clear S M a; intro a w15 vA loA hiA S M
                replace M := M.rowC (ys := [byteOf r.shards, byteOf (r.cs + 1), byteOf r.ct]) rfl
                refine st_y S rfl rfl rfl (y_assign S rfl) ?_; clear S a; intro a S
                refine wpList_nil ?_
                replace S := S.sub [(0, _), (1, _), (2, _), (3, _), (7, _), (19, _), (29, _), (30, _), (36, _), (51, _), (59, _), (4, _)] rfl
                refine block_normal ?_
                refine then_normal ?_
                refine wp_seq ?_
                -- region 17 ref.go:166
                refine wp_region_lit ?_
                refine st_y S rfl rfl rfl (y_move S rfl) ?_; clear S a; intro a S
                refine st_y S rfl rfl rfl (y_assign S rfl) ?_; clear S a; intro a S
                refine st_y S rfl rfl rfl (y_assign S rfl) ?_; clear S a; intro a S
                refine wpList_nil ?_
                replace S := S.sub [(0, _), (1, _), (7, _), (19, _), (29, _), (30, _), (36, _), (51, _), (59, _), (4, _), (2, _), (3, _)] rfl
                refine then_normal ?_
                refine wp_ret ?_
                refine end_two S rfl (res_tmp rfl) (res_tmp rfl) ?_
                refine fin hm _ _ ?_
                refine Fresh.eqB (M.fresh 0 rfl) ?_
                rw [henc]; unfold Rc.body
                first
                  | (rw [if_pos (by assumption)]; simp; done)
                  | (rw [if_neg (by omega), if_pos (by assumption)]; simp [leB1]; done)
                  | (rw [if_neg (by omega), if_neg (by omega), if_pos (by assumption)]; simp [leB1]; done)
                  | (rw [if_neg (by omega), if_neg (by omega), if_neg (by omega), if_pos (by assumption)]; simp [leB1]; done)
                  | (rw [if_neg (by omega), if_neg (by omega), if_neg (by omega), if_neg (by omega), if_pos (by omega)]; done)
              · clear S; intro h59 S
                first | replace h59 := nrmA h59 | replace h59 := nrmB h59 | skip
                first | replace h59 := nrm1 h59 | replace h59 := nrm2 h59 | replace h59 := nrm3 h59 | replace h59 := nrm4 h59 | replace h59 := nrm5 h59 | replace h59 := nrm6 h59 | replace h59 := of_decide_eq_true h59 | replace h59 := of_decide_eq_false h59 | skip
                refine st_condF S rfl ?_
                refine wp_skip ?_
                refine block_normal ?_
                refine then_normal ?_
                refine wp_seq ?_
                -- region 17 ref.go:166
                refine wp_region_lit ?_
                refine st_y S rfl rfl rfl (y_move S rfl) ?_; clear S a; intro a S
                refine st_y S rfl rfl rfl (y_assign S rfl) ?_; clear S a; intro a S
                refine st_y S rfl rfl rfl (y_assign S rfl) ?_; clear S a; intro a S
                refine wpList_nil ?_
                replace S := S.sub [(0, _), (1, _), (7, _), (19, _), (4, _), (29, _), (30, _), (36, _), (51, _), (59, _), (2, _), (3, _)] rfl
                refine then_normal ?_
                refine wp_ret ?_
                refine end_two S rfl (res_tmp rfl) (res_tmp rfl) ?_
                refine fin hm _ _ ?_
                refine Fresh.eqB (M.fresh 0 rfl) ?_
                rw [henc]; unfold Rc.body
                first
                  | (rw [if_pos (by assumption)]; simp; done)
                  | (rw [if_neg (by omega), if_pos (by assumption)]; simp [leB1]; done)
                  | (rw [if_neg (by omega), if_neg (by omega), if_pos (by assumption)]; simp [leB1]; done)
                  | (rw [if_neg (by omega), if_neg (by omega), if_neg (by omega), if_pos (by assumption)]; simp [leB1]; done)
                  | (rw [if_neg (by omega), if_neg (by omega), if_neg (by omega), if_neg (by omega), if_pos (by omega)]; done)
theorem rSectors_any (r : Rc) (va : Option Addr) (vn vc : Nat) (x : List Wr) (w : World) (hs : r.shards ≤ 9223372036854775807) (hu : Ws 0 w.heap.size w (.slice va vn vc) x) :
    Calls Try.prog 18 #[.agg (r.cells (.slice va vn vc))] w fun e w' => e = .returned (.tuple #[.int .i64 (secsN r x), .int .i64 (if r.may x = true then 0 else 2)]) ∧ Below w.heap.size w w' := by
  have M := Mem.start w
  refine calls_enter Try.func18 rfl 19 rfl rfl ?_; intro a S
  refine wp_seq ?_
  -- region 0 ref.go:264
  refine wp_region_lit ?_
  refine st_box S M rfl rfl rfl #[_, _, _, _, _, _, _, _, _, _, _, _] rfl ?_; clear S M a; intro a w1 b1 S M hB
  refine st_y S rfl rfl rfl (y_assign S rfl) ?_; clear S a; intro a S
  refine st_y S rfl rfl rfl (y_assign S rfl) ?_; clear S a; intro a S
  refine wpList_nil ?_
  replace S := S.sub [(0, _), (1, _), (2, _), (3, _)] rfl
  refine then_normal ?_
  refine wp_seq ?_
  -- region 1 ref.go:265
  refine wp_region_lit ?_
  refine st_y S rfl rfl rfl (y_loadAgg (cs := [_, _, _, _, _, _, _, _, _, _, _, _]) S (by kernel_rfl) rfl rfl (M.cellsAt (k := 12) 0 rfl rfl)) ?_; clear S a; intro a S
  refine st_call (xs := [(Operand.tmp 7)]) S (enters_of Try.func17 (by decide) rfl) rfl rfl rfl (rBytes_any r va vn vc x _ hs (M.argW hu)) ?_
  rintro _ w2 ⟨v7, rfl, hK, h1, h2⟩; refine ⟨_, rfl, ?_⟩; clear S a; intro a S
  have hF := fresh_if hK h1 (fun h => h2 (by simpa using h))
  obtain ⟨lo2, hi2, -, M⟩ := M.pushFresh hF
  refine st_y S rfl rfl rfl (y_move S rfl) ?_; clear S a; intro a S
  refine st_y S rfl rfl rfl (y_extract S rfl rfl) ?_; clear S a; intro a S
  refine st_y S rfl rfl rfl (y_extract S rfl rfl) ?_; clear S a; intro a S
  refine st_y S rfl rfl rfl (y_assign S rfl) ?_; clear S a; intro a S
  refine st_y S rfl rfl rfl (y_assign S rfl) ?_; clear S a; intro a S
  refine wpList_nil ?_
  replace S := S.sub [(0, _), (1, _), (2, _), (3, _), (4, _), (5, _)] rfl
  refine then_normal ?_
  refine wp_seq ?_
  refine wp_seq ?_
  -- region 2 ref.go:266
  refine wp_region_lit ?_
  refine st_y S rfl rfl rfl (y_move S rfl) ?_; clear S a; intro a S
  refine st_y S rfl rfl rfl (y_int S rfl rfl rfl) ?_; clear S a; intro a S
  refine wpList_nil ?_
  replace S := S.sub [(0, _), (1, _), (2, _), (3, _), (4, _), (5, _), (12, _)] rfl
  refine then_normal ?_
  refine st_split (t := 12) S rfl ?_ ?_
  · clear S; intro h12 S
    refine st_condT S rfl ?_
    refine wp_seq ?_
    -- region 3 ref.go:267
    refine wp_region_lit ?_
    refine st_y S rfl rfl rfl (y_move S rfl) ?_; clear S a; intro a S
    refine st_y S rfl rfl rfl (y_assign S rfl) ?_; clear S a; intro a S
    refine st_y S rfl rfl rfl (y_assign S rfl) ?_; clear S a; intro a S
    refine wpList_nil ?_
    replace S := S.sub [(0, _), (1, _), (4, _), (5, _), (12, _), (2, _), (3, _)] rfl
    refine then_normal ?_
    refine wp_ret ?_
    refine then_ret ?_
    refine end_two S rfl (res_tmp rfl) (res_tmp rfl) ?_
    have hm : ¬ r.may x = true := fun hm => by rw [if_pos hm] at h12; simp at h12
    exact ⟨by unfold secsN; rw [if_neg hm, if_neg hm], M.below⟩
  · clear S; intro h12 S
    refine st_condF S rfl ?_
    refine wp_skip ?_
    refine then_normal ?_
    refine wp_seq ?_
    -- region 4 ref.go:269
    have hm : r.may x = true := by
      by_cases hm : r.may x = true
      · exact hm
      · rw [if_neg hm] at h12; simp at h12
    have hi : (ifL (r.may x = true) (r.enc x)).length = (r.enc x).length := by rw [ifL_pos hm]
    have hl := enc_len hm
    refine wp_region_lit ?_
    refine st_y S rfl rfl rfl (y_move S rfl) ?_; clear S a; intro a S
    refine st_y S rfl rfl rfl (y_lenR (E := 5) S rfl ((M.readAll 0 rfl (encIf_len r x))) (by kernel_rfl)) ?_; clear S a; intro a S
    (first | refine st_y S rfl rfl rfl (y_addN S rfl rfl (by omega)) ?_ | refine st_y S rfl rfl rfl (y_int S rfl rfl rfl) ?_); clear S a; intro a S
    (first | refine st_y S rfl rfl rfl (y_subN S rfl rfl (by omega)) ?_ | refine st_y S rfl rfl rfl (y_int S rfl rfl rfl) ?_); clear S a; intro a S
    refine st_y S rfl rfl rfl (y_quoN S rfl rfl (by omega)) ?_; clear S a; intro a S
    refine st_y S rfl rfl rfl (y_assign S rfl) ?_; clear S a; intro a S
    refine st_y S rfl rfl rfl (y_assign S rfl) ?_; clear S a; intro a S
    refine wpList_nil ?_
    replace S := S.sub [(0, _), (1, _), (4, _), (5, _), (12, _), (2, _), (3, _)] rfl
    refine then_normal ?_
    refine wp_ret ?_
    refine end_two S rfl (res_tmp rfl) (res_tmp rfl) ?_
    exact ⟨by unfold secsN; rw [if_pos hm, if_pos hm, hi], M.below⟩

end Go.Proofs.Ytbaoodlkcbiclaa
