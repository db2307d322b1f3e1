/-
  Package record: how numbers, names, writes are taken of bytes.
-/
import Derived.Test.YtbaoodlkcbiclaaRc
namespace Go.Proofs.Ytbaoodlkcbiclaa
open Go.RowKit Go.Sort

/-- a reader's cells -/
abbrev rdC (bv : Value) (s : Rs) : Array Value := #[bv, .int .i64 (s.at_ : Int), .bool s.bad]
abbrev tkV (bf : Nat) : Value := .func (.func 26) #[.pointer (some ⟨bf, 0, none⟩)] #[]

theorem take_any {wc w : World} {H : List Ent} {bf : Nat} {bv : Value} {s : Rs} {bs : List UInt8} (M : Mem wc w (.blk bf (rdC bv s) 49 :: H)) (hb : Bs 0 wc.heap.size wc bv bs) (k : Int) (hk : 1 ≤ k ∧ k ≤ 6) :
    Calls Try.prog 26 #[.pointer (some ⟨bf, 0, none⟩), .int .i64 k] w fun e w' => e = .returned (.int .i64 (tk bs k.toNat s).1) ∧ Mem wc w' (.blk bf (rdC bv (tk bs k.toNat s).2) 49 :: H) := by
  have hl := hb.2.1
  unfold maxLen at hl
  refine calls_enter Try.func26 rfl 34 rfl rfl ?_; intro a S
  refine wp_seq ?_
  -- region 0 record.go:183
  skip
  refine wp_region_lit ?_
  refine st_y S rfl rfl rfl (y_assign S rfl) ?_; clear S a; intro a S
  refine wpList_nil ?_
  replace S := S.sub [(0, _), (1, _), (4, _)] rfl
  refine then_normal ?_
  refine wp_seq ?_
  -- region 1 record.go:184
  refine wp_regionK [] #[false, false, false, false, false, false, false, false, false, false, false, false, false, false, false] rfl M (by kernel_rfl) ?_; clear M; intro w1 M
  refine k_pure (listed' := #[true, false, false, false, false, false, false, false, false, false, false, false, false, false, false]) 0 S rfl rfl rfl rfl (by kernel_rfl) rfl (fun _ d _ _ _ h => by cases d <;> exact h) (fun w => y_move S rfl) ?_; clear S a; intro a S
  refine k_read (listed' := #[true, true, false, false, false, false, false, false, false, false, false, false, false, false, false]) 1 S rfl rfl rfl rfl (by kernel_rfl) rfl (fun _ d _ _ _ h => by cases d <;> exact h) (fun w hW => have M := M.grow hW; y_nilCheck S rfl) ?_; clear S a; intro a S
  refine k_pure (listed' := #[true, true, true, false, false, false, false, false, false, false, false, false, false, false, false]) 2 S rfl rfl rfl rfl (by kernel_rfl) rfl (fun _ d _ _ _ h => by cases d <;> exact h) (fun w => y_fieldAddr (k := 0) S (by kernel_rfl) rfl) ?_; clear S a; intro a S
  refine k_read (listed' := #[true, true, true, true, false, false, false, false, false, false, false, false, false, false, false]) 3 S rfl rfl rfl rfl (by kernel_rfl) rfl (fun _ d _ _ _ h => by cases d <;> exact h) (fun w hW => have M := M.grow hW; y_load S (by kernel_rfl) rfl (M.cell 0 rfl rfl)) ?_; clear S a; intro a S
  refine k_pure (listed' := #[true, true, true, true, true, false, false, false, false, false, false, false, false, false, false]) 4 S rfl rfl rfl rfl (by kernel_rfl) rfl (fun _ d _ _ _ h => by cases d <;> exact h) (fun w => y_move S rfl) ?_; clear S a; intro a S
  refine k_read (listed' := #[true, true, true, true, true, true, false, false, false, false, false, false, false, false, false]) 5 S rfl rfl rfl rfl (by kernel_rfl) rfl (fun _ d _ _ _ h => by cases d <;> exact h) (fun w hW => have M := M.grow hW; y_nilCheck S rfl) ?_; clear S a; intro a S
  refine k_pure (listed' := #[true, true, true, true, true, true, true, false, false, false, false, false, false, false, false]) 6 S rfl rfl rfl rfl (by kernel_rfl) rfl (fun _ d _ _ _ h => by cases d <;> exact h) (fun w => y_fieldAddr (k := 1) S (by kernel_rfl) rfl) ?_; clear S a; intro a S
  refine k_read (listed' := #[true, true, true, true, true, true, true, true, false, false, false, false, false, false, false]) 7 S rfl rfl rfl rfl (by kernel_rfl) rfl (fun _ d _ _ _ h => by cases d <;> exact h) (fun w hW => have M := M.grow hW; y_load S (by kernel_rfl) rfl (M.cell 0 rfl rfl)) ?_; clear S a; intro a S
  refine k_pure (listed' := #[true, true, true, true, true, true, true, true, true, false, false, false, false, false, false]) 8 S rfl rfl rfl rfl (by kernel_rfl) rfl (fun _ d _ _ _ h => by cases d <;> exact h) (fun w => y_move S rfl) ?_; clear S a; intro a S
  refine k_one (listed' := #[true, true, true, true, true, true, true, true, true, true, false, false, false, false, false]) 9 rfl (by kernel_rfl) rfl ?_
  refine st_call (xs := [(Operand.tmp 11), (Operand.tmp 15), (Operand.tmp 16)]) S (enters_of Try.func51 (by decide) rfl) rfl rfl rfl (get_any _ bs _ _ _ (M.argW hb) (by omega)) ?_
  rintro _ w2 ⟨rfl, hK⟩; refine ⟨_, rfl, ?_⟩; clear S a; intro a S; replace M := M.grow hK
  refine wpList_nil ?_; refine then_normal ?_; refine ⟨fun _ => hK, ?_⟩
  refine k_pure (listed' := #[true, true, true, true, true, true, true, true, true, true, true, false, false, false, false]) 10 S rfl rfl rfl rfl (by kernel_rfl) rfl (fun _ d _ _ _ h => by cases d <;> exact h) (fun w => y_move S rfl) ?_; clear S a; intro a S
  refine k_pure (listed' := #[true, true, true, true, true, true, true, true, true, true, true, true, false, false, false]) 11 S rfl rfl rfl rfl (by kernel_rfl) rfl (fun _ d _ _ _ h => by cases d <;> exact h) (fun w => y_extract S rfl rfl) ?_; clear S a; intro a S
  refine k_pure (listed' := #[true, true, true, true, true, true, true, true, true, true, true, true, true, false, false]) 12 S rfl rfl rfl rfl (by kernel_rfl) rfl (fun _ d _ _ _ h => by cases d <;> exact h) (fun w => y_extract S rfl rfl) ?_; clear S a; intro a S
  refine k_pure (listed' := #[true, true, true, true, true, true, true, true, true, true, true, true, true, true, false]) 13 S rfl rfl rfl rfl (by kernel_rfl) rfl (fun _ d _ _ _ h => by cases d <;> exact h) (fun w => y_assign S rfl) ?_; clear S a; intro a S
  refine k_pure (listed' := #[true, true, true, true, true, true, true, true, true, true, true, true, true, true, true]) 14 S rfl rfl rfl rfl (by kernel_rfl) rfl (fun _ d _ _ _ h => by cases d <;> exact h) (fun w => y_assign S rfl) ?_; clear S a; intro a S
  refine k_end (by kernel_rfl) ?_
  replace S := S.sub [(0, _), (1, _), (4, _), (5, _), (6, _)] rfl
  refine then_normal ?_
  refine wp_seq ?_
  refine wp_seq ?_
  -- region 2 record.go:185
  refine wp_region_lit ?_
  refine st_y S rfl rfl rfl (y_move S rfl) ?_; clear S a; intro a S
  refine st_y S rfl rfl rfl (y_int S rfl rfl rfl) ?_; clear S a; intro a S
  refine wpList_nil ?_
  replace S := S.sub [(0, _), (1, _), (4, _), (5, _), (6, _), (21, _)] rfl
  refine then_normal ?_
  refine st_split (t := 21) S rfl ?_ ?_
  · clear S; intro h21 S
    first | replace h21 := nrmA h21 | replace h21 := nrmB h21 | skip
    first | replace h21 := nrm1 h21 | replace h21 := nrm2 h21 | replace h21 := nrm3 h21 | replace h21 := nrm4 h21 | replace h21 := nrm5 h21 | replace h21 := nrm6 h21 | replace h21 := of_decide_eq_true h21 | replace h21 := of_decide_eq_false h21 | skip
    refine st_condT S rfl ?_
    refine wp_seq ?_
    -- region 3 record.go:186
    have hno : ¬ s.at_ + k.toNat ≤ bs.length := fun h => h21 (by unfold getE; rw [if_neg (by omega), if_neg (by omega)])
    refine wp_region_lit ?_
    refine st_y S rfl rfl rfl (y_move S rfl) ?_; clear S a; intro a S
    refine st_y S rfl rfl rfl (y_nilCheck S rfl) ?_; clear S a; intro a S
    refine st_y S rfl rfl rfl (y_fieldAddr (k := 2) S (by kernel_rfl) rfl) ?_; clear S a; intro a S
    refine st_store (sz := 1) (us := [_]) S M 0 rfl (by kernel_rfl) rfl rfl rfl rfl rfl rfl (by first | decide | (simp; done) | (simp; omega)) ?_; clear M; intro w3 M
    simp only [putL, List.set_cons_zero, List.set_cons_succ, Nat.reduceAdd] at M
    refine wpList_nil ?_
    replace S := S.sub [(0, _), (1, _), (4, _), (5, _), (6, _), (21, _)] rfl
    refine then_normal ?_
    refine wp_seq ?_
    -- region 4 record.go:187
    refine wp_region_lit ?_
    refine st_y S rfl rfl rfl (y_assign S rfl) ?_; clear S a; intro a S
    refine wpList_nil ?_
    replace S := S.sub [(0, _), (1, _), (5, _), (6, _), (21, _), (4, _)] rfl
    refine then_normal ?_
    refine wp_ret ?_
    refine then_ret ?_
    refine end_one S rfl (res_tmp rfl) ?_
    refine ⟨?_, ?_⟩
    · unfold tk; rw [if_neg hno]
    · unfold tk; rw [if_neg hno]; exact M
  · clear S; intro h21 S
    first | replace h21 := nrmA h21 | replace h21 := nrmB h21 | skip
    first | replace h21 := nrm1 h21 | replace h21 := nrm2 h21 | replace h21 := nrm3 h21 | replace h21 := nrm4 h21 | replace h21 := nrm5 h21 | replace h21 := nrm6 h21 | replace h21 := of_decide_eq_true h21 | replace h21 := of_decide_eq_false h21 | skip
    refine st_condF S rfl ?_
    refine wp_skip ?_
    refine then_normal ?_
    refine wp_seq ?_
    -- region 5 record.go:189
    have hin : s.at_ + k.toNat ≤ bs.length := by
      rcases Nat.lt_or_ge bs.length (s.at_ + k.toNat) with h | h
      · exfalso; unfold getE at h21; rw [if_neg (by omega), if_pos (by omega)] at h21; omega
      · exact h
    refine wp_region_lit ?_
    refine st_y S rfl rfl rfl (y_move S rfl) ?_; clear S a; intro a S
    refine st_y S rfl rfl rfl (y_nilCheck S rfl) ?_; clear S a; intro a S
    refine st_y S rfl rfl rfl (y_fieldAddr (k := 1) S (by kernel_rfl) rfl) ?_; clear S a; intro a S
    refine st_y S rfl rfl rfl (y_load S (by kernel_rfl) rfl (M.cell 0 rfl rfl)) ?_; clear S a; intro a S
    refine st_y S rfl rfl rfl (y_move S rfl) ?_; clear S a; intro a S
    (first | refine st_y S rfl rfl rfl (y_addN S rfl rfl (by omega)) ?_ | refine st_y S rfl rfl rfl (y_int S rfl rfl rfl) ?_); clear S a; intro a S
    refine st_y S rfl rfl rfl (y_nilCheck S rfl) ?_; clear S a; intro a S
    refine st_y S rfl rfl rfl (y_fieldAddr (k := 1) S (by kernel_rfl) rfl) ?_; clear S a; intro a S
    refine st_store (sz := 1) (us := [_]) S M 0 rfl (by kernel_rfl) rfl rfl rfl rfl rfl rfl (by first | decide | (simp; done) | (simp; omega)) ?_; clear M; intro w4 M
    simp only [putL, List.set_cons_zero, List.set_cons_succ, Nat.reduceAdd] at M
    refine wpList_nil ?_
    replace S := S.sub [(0, _), (1, _), (4, _), (5, _), (6, _), (21, _)] rfl
    refine then_normal ?_
    refine wp_seq ?_
    -- region 6 record.go:190
    refine wp_region_lit ?_
    refine st_y S rfl rfl rfl (y_move S rfl) ?_; clear S a; intro a S
    refine st_y S rfl rfl rfl (y_assign S rfl) ?_; clear S a; intro a S
    refine wpList_nil ?_
    replace S := S.sub [(0, _), (1, _), (5, _), (6, _), (21, _), (4, _)] rfl
    refine then_normal ?_
    refine wp_ret ?_
    refine end_one S rfl (res_tmp rfl) ?_
    refine ⟨?_, ?_⟩
    · unfold tk getN; rw [if_pos hin, if_pos (by omega), Int.toNat_natCast]
    · unfold tk; rw [if_pos hin]
      have e : ((s.at_ + k.toNat : Nat) : Int) = (s.at_ : Int) + k := by omega
      simp only [rdC, e]
      exact M

theorem number_any {wc w : World} {H : List Ent} {bf : Nat} {bv : Value} {s : Rs} {bs : List UInt8} (M : Mem wc w (.blk bf (rdC bv s) 49 :: H)) (hb : Bs 0 wc.heap.size wc bv bs) (k : Int) (hk : 1 ≤ k ∧ k ≤ 6) :
    Calls Try.prog 53 #[tkV bf, .int .i64 k] w fun e w' => e = .returned (.int .i64 (tk bs k.toNat s).1) ∧ Mem wc w' (.blk bf (rdC bv (tk bs k.toNat s).2) 49 :: H) := by
  refine calls_enter Try.func53 rfl 8 rfl rfl ?_; intro a S
  refine wp_seq ?_
  -- region 0 record.go:194
  refine wp_region_lit ?_
  refine st_y S rfl rfl rfl (y_assign S rfl) ?_; clear S a; intro a S
  refine wpList_nil ?_
  replace S := S.sub [(0, _), (1, _), (4, _)] rfl
  refine then_normal ?_
  refine wp_seq ?_
  -- region 1 record.go:195
  refine wp_region_lit ?_
  refine st_y S rfl rfl rfl (y_move S rfl) ?_; clear S a; intro a S
  refine st_y S rfl rfl rfl (y_move S rfl) ?_; clear S a; intro a S
  refine st_callB (xs := [(Operand.tmp 6)]) (fi := [_]) (ca := []) S (enters_of Try.func26 (by decide) rfl) rfl rfl (rfl) rfl (take_any M hb k hk) ?_
  rintro _ w1 ⟨rfl, M1⟩; refine ⟨_, rfl, ?_⟩; clear S a; intro a S; replace M := M1
  refine st_y S rfl rfl rfl (y_assign S rfl) ?_; clear S a; intro a S
  refine wpList_nil ?_
  replace S := S.sub [(0, _), (1, _), (4, _)] rfl
  refine then_normal ?_
  refine wp_ret ?_
  refine end_one S rfl (res_tmp rfl) ?_
  exact ⟨rfl, M⟩
theorem number8_any {wc w : World} {H : List Ent} {bf : Nat} {bv : Value} {s : Rs} {bs : List UInt8} (M : Mem wc w (.blk bf (rdC bv s) 49 :: H)) (hb : Bs 0 wc.heap.size wc bv bs) :
    Calls Try.prog 27 #[tkV bf, .int .i64 1] w fun e w' => e = .returned (.int .i8 (IntKind.i8.wrap (tk bs 1 s).1)) ∧ Mem wc w' (.blk bf (rdC bv (tk bs 1 s).2) 49 :: H) := by
  refine calls_enter Try.func27 rfl 9 rfl rfl ?_; intro a S
  refine wp_seq ?_
  -- region 0 record.go:194
  refine wp_region_lit ?_
  refine st_y S rfl rfl rfl (y_assign S rfl) ?_; clear S a; intro a S
  refine wpList_nil ?_
  replace S := S.sub [(0, _), (1, _), (4, _)] rfl
  refine then_normal ?_
  refine wp_seq ?_
  -- region 1 record.go:195
  refine wp_region_lit ?_
  refine st_y S rfl rfl rfl (y_move S rfl) ?_; clear S a; intro a S
  refine st_y S rfl rfl rfl (y_move S rfl) ?_; clear S a; intro a S
  refine st_callB (xs := [(Operand.tmp 6)]) (fi := [_]) (ca := []) S (enters_of Try.func26 (by decide) rfl) rfl rfl (rfl) rfl (take_any M hb 1 (by omega)) ?_
  rintro _ w1 ⟨rfl, M1⟩; refine ⟨_, rfl, ?_⟩; clear S a; intro a S; replace M := M1
  refine st_y S rfl rfl rfl (y_conv (k' := .i8) S rfl (by kernel_rfl) (by kernel_rfl)) ?_; clear S a; intro a S
  refine st_y S rfl rfl rfl (y_assign S rfl) ?_; clear S a; intro a S
  refine wpList_nil ?_
  replace S := S.sub [(0, _), (1, _), (4, _)] rfl
  refine then_normal ?_
  refine wp_ret ?_
  refine end_one S rfl (res_tmp rfl) ?_
  exact ⟨rfl, M⟩
theorem numberB_any {wc w : World} {H : List Ent} {bf : Nat} {bv : Value} {s : Rs} {bs : List UInt8} (M : Mem wc w (.blk bf (rdC bv s) 49 :: H)) (hb : Bs 0 wc.heap.size wc bv bs) :
    Calls Try.prog 82 #[tkV bf, .int .i64 1] w fun e w' => e = .returned (.int .u8 ((byteOf (tk bs 1 s).1).toNat : Int)) ∧ Mem wc w' (.blk bf (rdC bv (tk bs 1 s).2) 49 :: H) := by
  refine calls_enter Try.func82 rfl 9 rfl rfl ?_; intro a S
  refine wp_seq ?_
  -- region 0 record.go:194
  refine wp_region_lit ?_
  refine st_y S rfl rfl rfl (y_assign S rfl) ?_; clear S a; intro a S
  refine wpList_nil ?_
  replace S := S.sub [(0, _), (1, _), (4, _)] rfl
  refine then_normal ?_
  refine wp_seq ?_
  -- region 1 record.go:195
  refine wp_region_lit ?_
  refine st_y S rfl rfl rfl (y_move S rfl) ?_; clear S a; intro a S
  refine st_y S rfl rfl rfl (y_move S rfl) ?_; clear S a; intro a S
  refine st_callB (xs := [(Operand.tmp 6)]) (fi := [_]) (ca := []) S (enters_of Try.func26 (by decide) rfl) rfl rfl (rfl) rfl (take_any M hb 1 (by omega)) ?_
  rintro _ w1 ⟨rfl, M1⟩; refine ⟨_, rfl, ?_⟩; clear S a; intro a S; replace M := M1
  refine st_y S rfl rfl rfl (y_to8 S rfl (by kernel_rfl) (by kernel_rfl)) ?_; clear S a; intro a S
  refine st_y S rfl rfl rfl (y_assign S rfl) ?_; clear S a; intro a S
  refine wpList_nil ?_
  replace S := S.sub [(0, _), (1, _), (4, _)] rfl
  refine then_normal ?_
  refine wp_ret ?_
  refine end_one S rfl (res_tmp rfl) ?_
  exact ⟨rfl, M⟩
theorem num1_any {wc w : World} {H : List Ent} {bf : Nat} {bv : Value} {s : Rs} {bs : List UInt8} (M : Mem wc w (.blk bf (rdC bv s) 49 :: H)) (hb : Bs 0 wc.heap.size wc bv bs) :
    Calls Try.prog 53 #[tkV bf, .int .i64 1] w fun e w' => e = .returned (.int .i64 (tk bs 1 s).1) ∧ Mem wc w' (.blk bf (rdC bv (tk bs 1 s).2) 49 :: H) := number_any M hb 1 (by omega)
theorem num3_any {wc w : World} {H : List Ent} {bf : Nat} {bv : Value} {s : Rs} {bs : List UInt8} (M : Mem wc w (.blk bf (rdC bv s) 49 :: H)) (hb : Bs 0 wc.heap.size wc bv bs) :
    Calls Try.prog 53 #[tkV bf, .int .i64 3] w fun e w' => e = .returned (.int .i64 (tk bs 3 s).1) ∧ Mem wc w' (.blk bf (rdC bv (tk bs 3 s).2) 49 :: H) := number_any M hb 3 (by omega)

theorem name_any {wc w : World} {H : List Ent} {bf : Nat} {bv : Value} {s : Rs} {bs : List UInt8} (M : Mem wc w (.blk bf (rdC bv s) 49 :: H)) (hb : Bs 0 wc.heap.size wc bv bs) :
    Calls Try.prog 55 #[tkV bf] w fun e w' => e = .returned (.agg (rdName bs s).1.cells) ∧ Mem wc w' (.blk bf (rdC bv (rdName bs s).2) 49 :: H) := by
  refine calls_enter Try.func55 rfl 16 rfl rfl ?_; intro a S
  refine wp_seq ?_
  -- region 0 record.go:199
  skip
  refine wp_region_lit ?_
  refine st_alloc S M rfl rfl #[.int .i64 0, .int .i64 0, .int .i64 0] (by kernel_rfl) ?_; clear S M a; intro a w1 bN S M hB
  refine wpList_nil ?_
  replace S := S.sub [(0, _), (2, _)] rfl
  refine then_normal ?_
  refine wp_seq ?_
  -- region 1 record.go:200
  refine wp_region_lit ?_
  refine st_y S rfl rfl rfl (y_move S rfl) ?_; clear S a; intro a S
  replace M := M.front 1 rfl
  simp only [List.eraseIdx_cons_succ, List.eraseIdx_cons_zero] at M
  refine st_call (xs := [(Operand.tmp 6), (Operand.const (Value.int IntKind.i64 3))]) S (enters_of Try.func53 (by decide) rfl) rfl rfl rfl (num3_any M hb) ?_
  rintro _ w2 ⟨rfl, M1⟩; refine ⟨_, rfl, ?_⟩; clear S a; intro a S; replace M := M1
  refine st_y S rfl rfl rfl (y_assign S rfl) ?_; clear S a; intro a S
  refine wpList_nil ?_
  replace S := S.sub [(0, _), (2, _), (3, _)] rfl
  refine then_normal ?_
  refine wp_seq ?_
  -- region 2 record.go:201
  refine wp_region_lit ?_
  refine st_y S rfl rfl rfl (y_move S rfl) ?_; clear S a; intro a S
  refine st_call (xs := [(Operand.tmp 8), (Operand.const (Value.int IntKind.i64 3))]) S (enters_of Try.func53 (by decide) rfl) rfl rfl rfl (num3_any M hb) ?_
  rintro _ w3 ⟨rfl, M1⟩; refine ⟨_, rfl, ?_⟩; clear S a; intro a S; replace M := M1
  refine st_y S rfl rfl rfl (y_assign S rfl) ?_; clear S a; intro a S
  refine wpList_nil ?_
  replace S := S.sub [(0, _), (2, _), (3, _), (4, _)] rfl
  refine then_normal ?_
  refine wp_seq ?_
  -- region 3 record.go:202
  refine wp_region_lit ?_
  refine st_y S rfl rfl rfl (y_move S rfl) ?_; clear S a; intro a S
  refine st_call (xs := [(Operand.tmp 10), (Operand.const (Value.int IntKind.i64 3))]) S (enters_of Try.func53 (by decide) rfl) rfl rfl rfl (num3_any M hb) ?_
  rintro _ w4 ⟨rfl, M1⟩; refine ⟨_, rfl, ?_⟩; clear S a; intro a S; replace M := M1
  refine st_y S rfl rfl rfl (y_assign S rfl) ?_; clear S a; intro a S
  refine wpList_nil ?_
  replace S := S.sub [(0, _), (2, _), (3, _), (4, _), (5, _)] rfl
  refine then_normal ?_
  refine wp_seq ?_
  -- region 4 record.go:203
  refine wp_region_lit ?_
  refine st_y S rfl rfl rfl (y_move S rfl) ?_; clear S a; intro a S
  refine st_y S rfl rfl rfl (y_move S rfl) ?_; clear S a; intro a S
  refine st_y S rfl rfl rfl (y_move S rfl) ?_; clear S a; intro a S
  refine st_y S rfl rfl rfl (y_build (ps := [(0, (Operand.tmp 12)), (1, (Operand.tmp 13)), (2, (Operand.tmp 14))]) (pl := [(0, 1), (1, 1), (2, 1)]) (z := [.int .i64 0, .int .i64 0, .int .i64 0]) (cs := [_, _, _]) S (by kernel_rfl) rfl rfl) ?_; clear S a; intro a S
  refine st_store (sz := 3) (us := [_, _, _]) S M 1 rfl (by kernel_rfl) rfl rfl rfl rfl rfl rfl (by first | decide | (simp; done) | (simp; omega)) ?_; clear M; intro w5 M
  simp only [putL, List.set_cons_zero, List.set_cons_succ, Nat.reduceAdd] at M
  refine wpList_nil ?_
  replace S := S.sub [(0, _), (2, _), (3, _), (4, _), (5, _)] rfl
  refine then_normal ?_
  refine wp_ret ?_
  refine end_one S rfl (res_agg (cs := [_, _, _]) (by kernel_rfl) rfl rfl (M.cellsAt (k := 3) 1 rfl rfl)) ?_
  exact ⟨rfl, M.drop 1⟩

theorem rdBs_snoc (bs : List UInt8) : ∀ (j : Nat) (s : Rs), rdBs bs (j + 1) s = ((rdBs bs j s).1 ++ [byteOf (tk bs 1 (rdBs bs j s).2).1], (tk bs 1 (rdBs bs j s).2).2)
  | 0, s => rfl
  | j + 1, s => by
    show (byteOf (tk bs 1 s).1 :: (rdBs bs (j + 1) (tk bs 1 s).2).1, (rdBs bs (j + 1) (tk bs 1 s).2).2) = _
    rw [rdBs_snoc bs j (tk bs 1 s).2]; rfl
theorem rdBs_len (bs : List UInt8) : ∀ (j : Nat) (s : Rs), (rdBs bs j s).1.length = j
  | 0, s => rfl
  | j + 1, s => by rw [rdBs_snoc]; simp [rdBs_len bs j]
theorem rdWrs_snoc (bs : List UInt8) : ∀ (j : Nat) (s : Rs), rdWrs bs (j + 1) s = ((rdWrs bs j s).1 ++ [(rdWr bs (rdWrs bs j s).2).1], (rdWr bs (rdWrs bs j s).2).2)
  | 0, s => rfl
  | j + 1, s => by
    show ((rdWr bs s).1 :: (rdWrs bs (j + 1) (rdWr bs s).2).1, (rdWrs bs (j + 1) (rdWr bs s).2).2) = _
    rw [rdWrs_snoc bs j (rdWr bs s).2]; rfl
theorem rdWrs_len (bs : List UInt8) : ∀ (j : Nat) (s : Rs), (rdWrs bs j s).1.length = j
  | 0, s => rfl
  | j + 1, s => by rw [rdWrs_snoc]; simp [rdWrs_len bs j]
theorem wcells_append (x y : List Wr) : wcells (x ++ y) = wcells x ++ wcells y := by simp [wcells]
/-- eight bytes, those that are there first -/
def padB (l : List UInt8) : List UInt8 := l ++ List.replicate (8 - l.length) 0
theorem padB_set {l : List UInt8} (b : Value) (x : UInt8) (h : l.length < 8) : putL (b :: bcells (padB l)) (1 + l.length) [.int .u8 (x.toNat : Int)] = b :: bcells (padB (l ++ [x])) := by
  have e : padB l = l ++ (0 :: List.replicate (8 - (l.length + 1)) 0) := by unfold padB; rw [show 8 - l.length = (8 - (l.length + 1)) + 1 by omega, List.replicate_succ]
  rw [e]; unfold padB
  simp only [putL, bcells, List.map_append, List.map_cons, List.map_nil, List.length_append, List.length_cons, List.length_nil, Nat.add_comm 1 l.length, List.set_cons_succ]
  rw [List.set_append_right _ _ (by simp)]
  simp
theorem padB_full {l : List UInt8} (h : l.length = 8) : bcells (padB l) = (v8 l).cellsL := by
  match l, h with
  | [a, b, c, d, e, f, g, i], _ => rfl
theorem tk1_bd (bs : List UInt8) (s : Rs) : 0 ≤ (tk bs 1 s).1 ∧ (tk bs 1 s).1 ≤ 255 := by
  unfold tk; split
  · have h1 := leN_lt ((bs.drop s.at_).take 1)
    have h2 : ((bs.drop s.at_).take 1).length ≤ 1 := by simp; omega
    have h3 : 256 ^ ((bs.drop s.at_).take 1).length ≤ 256 ^ 1 := Nat.pow_le_pow_right (by omega) h2
    simp only; omega
  · simp

theorem writes_any {wc w : World} {H : List Ent} {bf : Nat} {bv : Value} {s : Rs} {bs : List UInt8} (M : Mem wc w (.blk bf (rdC bv s) 49 :: H)) (hb : Bs 0 wc.heap.size wc bv bs) :
    Calls Try.prog 56 #[tkV bf] w fun e w' => ∃ v' lo hi, e = .returned v' ∧ Mem wc w' (rowE lo hi 67 9 v' (rdWs bs s).1.length (wcells (rdWs bs s).1) :: .blk bf (rdC bv (rdWs bs s).2) 49 :: H) := by
  obtain ⟨t1, ht1⟩ : ∃ t1, tk bs 1 s = t1 := ⟨_, rfl⟩
  have hn := tk1_bd bs s
  rw [ht1] at hn
  obtain ⟨n, hn'⟩ : ∃ n : Nat, (n : Int) = min t1.1 8 := ⟨(min t1.1 8).toNat, by omega⟩
  have hn8 : n ≤ 8 := by omega
  have hrd : rdWs bs s = rdWrs bs n t1.2 := by unfold rdWs; rw [ht1]; simp only; rw [← hn', Int.toNat_natCast]
  rw [hrd]
  refine calls_enter Try.func56 rfl 29 rfl rfl ?_; intro a S
  refine wp_seq ?_
  -- region 0 record.go:207
  skip
  refine wp_region_lit ?_
  refine st_y S rfl rfl rfl (y_assign S rfl) ?_; clear S a; intro a S
  refine wpList_nil ?_
  replace S := S.sub [(0, _), (2, _)] rfl
  refine then_normal ?_
  refine wp_seq ?_
  -- region 1 record.go:208
  refine wp_region_lit ?_
  refine st_y S rfl rfl rfl (y_assign S rfl) ?_; clear S a; intro a S
  refine wpList_nil ?_
  replace S := S.sub [(0, _), (2, _), (3, _)] rfl
  refine then_normal ?_
  refine wp_seq ?_
  refine wp_seq ?_
  -- region 2 record.go:209
  refine wp_region_lit ?_
  refine st_y S rfl rfl rfl (y_move S rfl) ?_; clear S a; intro a S
  refine st_call (xs := [(Operand.tmp 6), (Operand.const (Value.int IntKind.i64 1))]) S (enters_of Try.func53 (by decide) rfl) rfl rfl rfl (num1_any M hb) ?_
  rintro _ w1 ⟨rfl, M1⟩; refine ⟨_, rfl, ?_⟩; clear S a; intro a S; replace M := M1; rw [ht1] at S M
  refine st_y S rfl rfl rfl (y_min S rfl rfl) ?_; clear S a; intro a S
  rw [← hn'] at S
  refine st_y S rfl rfl rfl (y_move S rfl) ?_; clear S a; intro a S
  refine wpList_nil ?_
  replace S := S.sub [(0, _), (2, _), (3, _), (8, _), (9, _)] rfl
  refine then_normal ?_
  refine wp_block ?_
  refine wp_loop_g (fun m a w' => ∃ (k : Nat) (v : Value) (lo hi : Nat), k ≤ n ∧ m = n - k ∧ Sees 29 a [(0, tkV bf), (3, v), (8, .int .i64 (n : Int)), (9, .int .i64 (k : Int))] ∧ Mem wc w' (.blk bf (rdC bv (rdWrs bs k t1.2).2) 49 :: rowE lo hi 67 9 v (rdWrs bs k t1.2).1.length (wcells (rdWrs bs k t1.2).1) :: H)) (n) ?_ ?_
  · skip
    exact ⟨0, _, _, _, Nat.zero_le _, rfl, S.sub _ rfl, (M.rowNil 67 9).front 1 rfl⟩
  · clear S M a; intro m a wl
    rintro ⟨k, v, lo, hi, hk, rfl, S, M⟩
    obtain ⟨s1, hs1⟩ : ∃ s1, (rdWrs bs k t1.2).2 = s1 := ⟨_, rfl⟩
    obtain ⟨xs, hxs⟩ : ∃ xs, (rdWrs bs k t1.2).1 = xs := ⟨_, rfl⟩
    have hxl : xs.length = k := by rw [← hxs, rdWrs_len]
    rw [hs1, hxs] at M
    refine wp_seq ?_
    -- region 3 record.go:209
    refine wp_region_lit ?_
    refine st_y S rfl rfl rfl (y_int S rfl rfl rfl) ?_; clear S a; intro a S
    refine wpList_nil ?_
    replace S := S.sub [(0, _), (3, _), (8, _), (9, _), (10, _)] rfl
    refine then_normal ?_
    refine wp_seq ?_
    refine st_split (t := 10) S rfl ?_ ?_
    · clear S; intro h10 S
      first | replace h10 := nrmA h10 | replace h10 := nrmB h10 | skip
      first | replace h10 := nrm1 h10 | replace h10 := nrm2 h10 | replace h10 := nrm3 h10 | replace h10 := nrm4 h10 | replace h10 := nrm5 h10 | replace h10 := nrm6 h10 | replace h10 := of_decide_eq_true h10 | replace h10 := of_decide_eq_false h10 | skip
      refine st_condT S rfl ?_
      refine wp_skip ?_
      refine then_normal ?_
      refine wp_seq ?_
      refine wp_block ?_
      refine wp_seq ?_
      -- region 4 record.go:210
      refine wp_region_lit ?_
      refine st_y S rfl rfl rfl (y_move S rfl) ?_; clear S a; intro a S
      refine st_call (xs := [(Operand.tmp 11), (Operand.const (Value.int IntKind.i64 1))]) S (enters_of Try.func53 (by decide) rfl) rfl rfl rfl (num1_any M hb) ?_
      rintro _ w2 ⟨rfl, M1⟩; refine ⟨_, rfl, ?_⟩; clear S a; intro a S; replace M := M1
      refine st_y S rfl rfl rfl (y_build (ps := [(0, (Operand.tmp 12))]) (pl := [(0, 1), (1, 8)]) (z := [.int .i64 0, .int .u8 0, .int .u8 0, .int .u8 0, .int .u8 0, .int .u8 0, .int .u8 0, .int .u8 0, .int .u8 0]) (cs := [_, _, _, _, _, _, _, _, _]) S (by kernel_rfl) rfl rfl) ?_; clear S a; intro a S
      refine st_alloc S M rfl rfl #[.int .i64 0, .int .u8 0, .int .u8 0, .int .u8 0, .int .u8 0, .int .u8 0, .int .u8 0, .int .u8 0, .int .u8 0] (by kernel_rfl) ?_; clear S M a; intro a w3 bW S M hB
      refine st_store (sz := 9) (us := [_, _, _, _, _, _, _, _, _]) S M 0 rfl (by kernel_rfl) rfl rfl rfl rfl rfl rfl (by first | decide | (simp; done) | (simp; omega)) ?_; clear M; intro w4 M
      simp only [putL, List.set_cons_zero, List.set_cons_succ, Nat.reduceAdd] at M
      refine wpList_nil ?_
      replace S := S.sub [(0, _), (3, _), (8, _), (9, _), (10, _), (4, _)] rfl
      refine then_normal ?_
      refine wp_seq ?_
      refine wp_seq ?_
      -- region 5 record.go:211
      refine wp_region_lit ?_
      refine st_y S rfl rfl rfl (y_move S rfl) ?_; clear S a; intro a S
      refine wpList_nil ?_
      replace S := S.sub [(0, _), (3, _), (8, _), (9, _), (10, _), (4, _), (14, _)] rfl
      refine then_normal ?_
      refine wp_block ?_
      refine wp_loop_g (fun m a w' => ∃ (j : Nat), j ≤ 8 ∧ m = 8 - j ∧ Sees 29 a [(0, tkV bf), (3, v), (4, .pointer (some ⟨bW, 0, none⟩)), (8, .int .i64 (n : Int)), (9, .int .i64 (k : Int)), (14, .int .i64 (j : Int))] ∧ Mem wc w' (.blk bf (rdC bv (rdBs bs j (tk bs 1 s1).2).2) 49 :: .blk bW (.int .i64 (tk bs 1 s1).1 :: bcells (padB (rdBs bs j (tk bs 1 s1).2).1)).toArray 67 :: rowE lo hi 67 9 v xs.length (wcells xs) :: H)) (8) ?_ ?_
      · skip
        replace M := M.front 1 rfl
        simp only [List.eraseIdx_cons_succ, List.eraseIdx_cons_zero] at M
        exact ⟨0, by omega, rfl, S.sub _ rfl, M⟩
      · clear S M a; intro m a wl
        rintro ⟨j, hj, rfl, S, M⟩
        refine wp_seq ?_
        -- region 6 record.go:211
        refine wp_region_lit ?_
        refine st_y S rfl rfl rfl (y_int S rfl rfl rfl) ?_; clear S a; intro a S
        refine wpList_nil ?_
        replace S := S.sub [(0, _), (3, _), (4, _), (8, _), (9, _), (14, _), (15, _)] rfl
        refine then_normal ?_
        refine wp_seq ?_
        refine st_split (t := 15) S rfl ?_ ?_
        · clear S; intro h15 S
          first | replace h15 := nrmA h15 | replace h15 := nrmB h15 | skip
          first | replace h15 := nrm1 h15 | replace h15 := nrm2 h15 | replace h15 := nrm3 h15 | replace h15 := nrm4 h15 | replace h15 := nrm5 h15 | replace h15 := nrm6 h15 | replace h15 := of_decide_eq_true h15 | replace h15 := of_decide_eq_false h15 | skip
          refine st_condT S rfl ?_
          refine wp_skip ?_
          refine then_normal ?_
          refine wp_seq ?_
          refine wp_block ?_
          refine wp_seq ?_
          -- region 7 record.go:211
          refine wp_region_lit ?_
          refine st_y S rfl rfl rfl (y_move S rfl) ?_; clear S a; intro a S
          refine st_y S rfl rfl rfl (y_assign S rfl) ?_; clear S a; intro a S
          refine wpList_nil ?_
          replace S := S.sub [(0, _), (3, _), (4, _), (8, _), (9, _), (14, _), (15, _), (5, _)] rfl
          refine then_normal ?_
          -- region 8 record.go:212
          have hjl := rdBs_len bs j (tk bs 1 s1).2
          refine wp_region_lit ?_
          refine st_y S rfl rfl rfl (y_move S rfl) ?_; clear S a; intro a S
          refine st_y S rfl rfl rfl (y_move S rfl) ?_; clear S a; intro a S
          refine st_call (xs := [(Operand.tmp 18), (Operand.const (Value.int IntKind.i64 1))]) S (enters_of Try.func82 (by decide) rfl) rfl rfl rfl (numberB_any M hb) ?_
          rintro _ w5 ⟨rfl, M1⟩; refine ⟨_, rfl, ?_⟩; clear S a; intro a S; replace M := M1
          refine st_y S rfl rfl rfl (y_fieldAddr (k := 1) S (by kernel_rfl) rfl) ?_; clear S a; intro a S
          refine st_y S rfl rfl rfl (y_indexA (m := 8) (sz := 1) S (by kernel_rfl) rfl rfl (by first | omega | (simp; done) | (simp; omega))) ?_; clear S a; intro a S
          try simp only [Int.toNat_natCast, Nat.mul_one, Nat.zero_add] at S
          refine st_store (sz := 1) (us := [_]) S M 1 rfl (by kernel_rfl) rfl rfl rfl rfl rfl rfl (by simp [padB, bcells, hjl]; omega) ?_; clear M; intro w6 M
          simp only [List.set_cons_zero, List.set_cons_succ] at M
          refine wpList_nil ?_
          replace S := S.sub [(0, _), (3, _), (4, _), (8, _), (9, _), (14, _), (15, _), (5, _)] rfl
          refine block_normal ?_
          refine then_normal ?_
          -- region 9 record.go:211
          refine wp_region_lit ?_
          (first | refine st_y S rfl rfl rfl (y_addN S rfl rfl (by omega)) ?_ | refine st_y S rfl rfl rfl (y_int S rfl rfl rfl) ?_); clear S a; intro a S
          refine st_y S rfl rfl rfl (y_move S rfl) ?_; clear S a; intro a S
          refine wpList_nil ?_
          replace S := S.sub [(0, _), (3, _), (4, _), (8, _), (9, _), (15, _), (5, _), (14, _)] rfl
          refine then_normal ?_
          refine ⟨8 - (j + 1), by omega, j + 1, by omega, rfl, S.sub _ rfl, ?_⟩
          rw [rdBs_snoc]
          have e := padB_set (l := (rdBs bs j (tk bs 1 s1).2).1) (.int .i64 (tk bs 1 s1).1) (byteOf (tk bs 1 (rdBs bs j (tk bs 1 s1).2).2).1) (by omega)
          rw [hjl] at e
          rw [← e]
          exact M
        · clear S; intro h15 S
          first | replace h15 := nrmA h15 | replace h15 := nrmB h15 | skip
          first | replace h15 := nrm1 h15 | replace h15 := nrm2 h15 | replace h15 := nrm3 h15 | replace h15 := nrm4 h15 | replace h15 := nrm5 h15 | replace h15 := nrm6 h15 | replace h15 := of_decide_eq_true h15 | replace h15 := of_decide_eq_false h15 | skip
          refine st_condF S rfl ?_
          refine wp_exit ?_
          refine then_exit ?_
          refine then_exit ?_
          refine block_hit ?_
          refine then_normal ?_
          -- region 10 record.go:214
          obtain rfl : j = 8 := by omega
          obtain ⟨x, hx⟩ : ∃ x : Wr, (rdWr bs s1).1 = x := ⟨_, rfl⟩
          have hxc : (Value.int .i64 (tk bs 1 s1).1 :: bcells (padB (rdBs bs 8 (tk bs 1 s1).2).1)) = x.cellsL := by rw [padB_full (rdBs_len _ _ _), ← hx]; rfl
          have hs2 : (rdBs bs 8 (tk bs 1 s1).2).2 = (rdWr bs s1).2 := rfl
          rw [hxc, hs2] at M
          refine wp_region_lit ?_
          refine st_y S rfl rfl rfl (y_move S rfl) ?_; clear S a; intro a S
          refine st_y S rfl rfl rfl (y_loadAgg (cs := [_, _, _, _, _, _, _, _, _]) S (by kernel_rfl) rfl rfl (M.cellsAt (k := 9) 1 rfl rfl)) ?_; clear S a; intro a S
          refine st_lit (ps := [(0, (Operand.tmp 24))]) (e := 67) (sz := 9) (zl := [.int .i64 0, .int .u8 0, .int .u8 0, .int .u8 0, .int .u8 0, .int .u8 0, .int .u8 0, .int .u8 0, .int .u8 0]) (cs := [_, _, _, _, _, _, _, _, _]) S M rfl rfl (by kernel_rfl) rfl rfl ?_; clear S M a; intro a w7 bZ S M hB
          refine st_append (e := 67) (sz := 9) (by_ := 16) (zc := [.int .i64 0, .int .u8 0, .int .u8 0, .int .u8 0, .int .u8 0, .int .u8 0, .int .u8 0, .int .u8 0, .int .u8 0]) S M 3 rfl rfl (by kernel_rfl) rfl (by decide) rfl rfl rfl (show Rd _ _ _ 9 _ 1 (wcells [x]) from M.sliceAt 0 rfl (M.cellsAt (k := 9) 0 rfl rfl) rfl (Nat.le_refl _) (by unfold maxLen; omega)) (allOne_wcells _) (by omega) (by unfold maxLen; omega) ?_; clear S M a; intro a w8 vA loA hiA S M
          refine st_y S rfl rfl rfl (y_assign S rfl) ?_; clear S a; intro a S
          refine wpList_nil ?_
          replace S := S.sub [(0, _), (4, _), (8, _), (9, _), (14, _), (15, _), (3, _)] rfl
          refine block_normal ?_
          refine then_normal ?_
          -- region 11 record.go:209
          refine wp_region_lit ?_
          (first | refine st_y S rfl rfl rfl (y_addN S rfl rfl (by omega)) ?_ | refine st_y S rfl rfl rfl (y_int S rfl rfl rfl) ?_); clear S a; intro a S
          refine st_y S rfl rfl rfl (y_move S rfl) ?_; clear S a; intro a S
          refine wpList_nil ?_
          replace S := S.sub [(0, _), (4, _), (8, _), (14, _), (15, _), (3, _), (9, _)] rfl
          refine then_normal ?_
          replace M := M.front 2 rfl
          simp only [List.eraseIdx_cons_succ, List.eraseIdx_cons_zero] at M
          refine ⟨n - (k + 1), by omega, k + 1, vA, loA, hiA, by omega, rfl, S.sub _ rfl, ?_⟩
          rw [rdWrs_snoc, hs1, hxs, hx, wcells_append, List.length_append]
          exact M.sub (by simp)
    · clear S; intro h10 S
      first | replace h10 := nrmA h10 | replace h10 := nrmB h10 | skip
      first | replace h10 := nrm1 h10 | replace h10 := nrm2 h10 | replace h10 := nrm3 h10 | replace h10 := nrm4 h10 | replace h10 := nrm5 h10 | replace h10 := nrm6 h10 | replace h10 := of_decide_eq_true h10 | replace h10 := of_decide_eq_false h10 | skip
      refine st_condF S rfl ?_
      refine wp_exit ?_
      refine then_exit ?_
      refine then_exit ?_
      refine block_hit ?_
      refine then_normal ?_
      refine wp_seq ?_
      -- region 12 record.go:216
      refine wp_region_lit ?_
      refine st_y S rfl rfl rfl (y_move S rfl) ?_; clear S a; intro a S
      refine st_y S rfl rfl rfl (y_assign S rfl) ?_; clear S a; intro a S
      refine wpList_nil ?_
      replace S := S.sub [(0, _), (3, _), (8, _), (9, _), (10, _), (2, _)] rfl
      refine then_normal ?_
      refine wp_ret ?_
      refine end_one S rfl (res_tmp rfl) ?_
      obtain rfl : k = n := by omega
      rw [← hs1, ← hxs] at M
      exact ⟨_, _, _, rfl, M.front 1 rfl⟩

end Go.Proofs.Ytbaoodlkcbiclaa
