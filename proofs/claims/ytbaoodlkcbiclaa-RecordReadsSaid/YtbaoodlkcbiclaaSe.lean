/-
  The document's layer 7: Read.
-/
import Derived.Test.YtbaoodlkcbiclaaSc
namespace Go.Proofs.Ytbaoodlkcbiclaa
open Go.RowKit Go.Sort

theorem byte_any {wc w : World} {H : List Ent} {bf : Nat} {bv : Value} {s : Rs} {bs : List UInt8} (M : Mem wc w (.blk bf (rdC bv s) 59 :: H)) (hb : Bs 0 wc.heap.size wc bv bs) :
    Calls Try.prog 30 #[.pointer (some ⟨bf, 0, none⟩)] w fun e w' => e = .returned (.int .i64 (tk bs 1 s).1) ∧ Mem wc w' (.blk bf (rdC bv (tk bs 1 s).2) 59 :: H) := by
  have hl := hb.2.1
  unfold maxLen at hl
  refine calls_enter Try.func30 rfl 36 rfl rfl ?_; intro a S
  refine wp_seq ?_
  -- region 0 ref.go:177
  skip
  refine wp_region_lit ?_
  refine st_y S rfl rfl rfl (y_assign S rfl) ?_; clear S a; intro a S
  refine wpList_nil ?_
  replace S := S.sub [(0, _), (2, _)] rfl
  refine then_normal ?_
  refine wp_seq ?_
  refine wp_seq ?_
  -- region 1 ref.go:178
  refine wp_quiet M (by kernel_rfl) (by kernel_rfl) ?_
  refine qt_y S rfl rfl rfl (fun w M => y_move S rfl) ?_; clear S a; intro a S
  refine qt_y S rfl rfl rfl (fun w M => y_nilCheck S rfl) ?_; clear S a; intro a S
  refine qt_y S rfl rfl rfl (fun w M => y_fieldAddr (k := 1) S (by kernel_rfl) rfl) ?_; clear S a; intro a S
  refine qt_y S rfl rfl rfl (fun w M => y_load S (by kernel_rfl) rfl (M.cell 0 rfl rfl)) ?_; clear S a; intro a S
  refine qt_y S rfl rfl rfl (fun w M => y_move S rfl) ?_; clear S a; intro a S
  refine qt_y S rfl rfl rfl (fun w M => y_nilCheck S rfl) ?_; clear S a; intro a S
  refine qt_y S rfl rfl rfl (fun w M => y_fieldAddr (k := 0) S (by kernel_rfl) rfl) ?_; clear S a; intro a S
  refine qt_y S rfl rfl rfl (fun w M => y_load S (by kernel_rfl) rfl (M.cell 0 rfl rfl)) ?_; clear S a; intro a S
  refine qt_y S rfl rfl rfl (fun w M => y_lenR (E := 5) S rfl (M.arg hb) (by kernel_rfl)) ?_; clear S a; intro a S
  refine qt_y S rfl rfl rfl (fun w M => y_int S rfl rfl rfl) ?_; clear S a; intro a S
  refine wpQuiet_nil ?_; clear M; intro w1 M
  replace S := S.sub [(0, _), (2, _), (13, _)] rfl
  refine then_normal ?_
  refine st_split (t := 13) S rfl ?_ ?_
  · clear S; intro h13 S
    first | replace h13 := nrmA h13 | replace h13 := nrmB h13 | skip
    first | replace h13 := nrm1 h13 | replace h13 := nrm2 h13 | replace h13 := nrm3 h13 | replace h13 := nrm4 h13 | replace h13 := nrm5 h13 | replace h13 := nrm6 h13 | replace h13 := of_decide_eq_true h13 | replace h13 := of_decide_eq_false h13 | skip
    refine st_condT S rfl ?_
    refine wp_seq ?_
    -- region 2 ref.go:179
    have hno : ¬ s.at_ + 1 ≤ bs.length := by omega
    refine wp_region_lit ?_
    refine st_y S rfl rfl rfl (y_move S rfl) ?_; clear S a; intro a S
    refine st_y S rfl rfl rfl (y_nilCheck S rfl) ?_; clear S a; intro a S
    refine st_y S rfl rfl rfl (y_fieldAddr (k := 2) S (by kernel_rfl) rfl) ?_; clear S a; intro a S
    refine st_store (sz := 1) (us := [_]) S M 0 rfl (by kernel_rfl) rfl rfl rfl rfl rfl rfl (by first | decide | (simp; done) | (simp; omega)) ?_; clear M; intro w2 M
    simp only [putL, List.set_cons_zero, List.set_cons_succ, Nat.reduceAdd] at M
    refine wpList_nil ?_
    replace S := S.sub [(0, _), (2, _), (13, _)] rfl
    refine then_normal ?_
    refine wp_seq ?_
    -- region 3 ref.go:180
    refine wp_region_lit ?_
    refine st_y S rfl rfl rfl (y_assign S rfl) ?_; clear S a; intro a S
    refine wpList_nil ?_
    replace S := S.sub [(0, _), (13, _), (2, _)] rfl
    refine then_normal ?_
    refine wp_ret ?_
    refine then_ret ?_
    refine end_one S rfl (res_tmp rfl) ?_
    unfold tk; rw [if_neg hno]; exact ⟨rfl, M⟩
  · clear S; intro h13 S
    first | replace h13 := nrmA h13 | replace h13 := nrmB h13 | skip
    first | replace h13 := nrm1 h13 | replace h13 := nrm2 h13 | replace h13 := nrm3 h13 | replace h13 := nrm4 h13 | replace h13 := nrm5 h13 | replace h13 := nrm6 h13 | replace h13 := of_decide_eq_true h13 | replace h13 := of_decide_eq_false h13 | skip
    refine st_condF S rfl ?_
    refine wp_skip ?_
    refine then_normal ?_
    refine wp_seq ?_
    -- region 4 ref.go:182
    have hin : s.at_ + 1 ≤ bs.length := by omega
    obtain ⟨b, hb0⟩ : ∃ b, bs[s.at_]? = some b := ⟨_, List.getElem?_eq_getElem (by omega)⟩
    have hbl := UInt8.toNat_lt b
    have htk : tk bs 1 s = ((b.toNat : Int), ⟨s.at_ + 1, s.bad⟩) := by
      unfold tk; rw [if_pos hin]
      obtain ⟨hlt, he⟩ := List.getElem?_eq_some_iff.1 hb0
      rw [List.drop_eq_getElem_cons hlt, he]
      simp [leN]
    refine wp_quiet M (by kernel_rfl) (by kernel_rfl) ?_
    refine qt_y S rfl rfl rfl (fun w M => y_move S rfl) ?_; clear S a; intro a S
    refine qt_y S rfl rfl rfl (fun w M => y_nilCheck S rfl) ?_; clear S a; intro a S
    refine qt_y S rfl rfl rfl (fun w M => y_fieldAddr (k := 0) S (by kernel_rfl) rfl) ?_; clear S a; intro a S
    refine qt_y S rfl rfl rfl (fun w M => y_load S (by kernel_rfl) rfl (M.cell 0 rfl rfl)) ?_; clear S a; intro a S
    refine qt_y S rfl rfl rfl (fun w M => y_move S rfl) ?_; clear S a; intro a S
    refine qt_y S rfl rfl rfl (fun w M => y_nilCheck S rfl) ?_; clear S a; intro a S
    refine qt_y S rfl rfl rfl (fun w M => y_fieldAddr (k := 1) S (by kernel_rfl) rfl) ?_; clear S a; intro a S
    refine qt_y S rfl rfl rfl (fun w M => y_load S (by kernel_rfl) rfl (M.cell 0 rfl rfl)) ?_; clear S a; intro a S
    refine qt_y S rfl rfl rfl (fun w M => y_indexR (e := 5) (sz := 1) S (by kernel_rfl) rfl (M.arg hb) rfl (by first | omega | (simp; done) | (simp; omega))) ?_; clear S a; intro a S
    try simp only [Int.toNat_natCast, Nat.mul_one, Nat.zero_add] at S
    refine qt_y S rfl rfl rfl (fun w M => y_load S (by kernel_rfl) rfl ((M.arg hb).byte hb0)) ?_; clear S a; intro a S
    (first | refine qt_y S rfl rfl rfl (fun w M => y_to64 S rfl (by kernel_rfl) (by kernel_rfl) (by omega)) ?_ | refine qt_y S rfl rfl rfl (fun w M => y_conv (k' := .i64) S rfl (by kernel_rfl) (by kernel_rfl)) ?_); clear S a; intro a S
    refine qt_y S rfl rfl rfl (fun w M => y_assign S rfl) ?_; clear S a; intro a S
    refine wpQuiet_nil ?_; clear M; intro w3 M
    replace S := S.sub [(0, _), (2, _), (13, _), (3, _)] rfl
    refine then_normal ?_
    refine wp_seq ?_
    -- region 5 ref.go:183
    refine wp_region_lit ?_
    refine st_y S rfl rfl rfl (y_move S rfl) ?_; clear S a; intro a S
    refine st_y S rfl rfl rfl (y_nilCheck S rfl) ?_; clear S a; intro a S
    refine st_y S rfl rfl rfl (y_fieldAddr (k := 1) S (by kernel_rfl) rfl) ?_; clear S a; intro a S
    refine st_y S rfl rfl rfl (y_load S (by kernel_rfl) rfl (M.cell 0 rfl rfl)) ?_; clear S a; intro a S
    (first | refine st_y S rfl rfl rfl (y_addN S rfl rfl (by omega)) ?_ | refine st_y S rfl rfl rfl (y_int S rfl rfl rfl) ?_); clear S a; intro a S
    refine st_y S rfl rfl rfl (y_nilCheck S rfl) ?_; clear S a; intro a S
    refine st_y S rfl rfl rfl (y_fieldAddr (k := 1) S (by kernel_rfl) rfl) ?_; clear S a; intro a S
    refine st_store (sz := 1) (us := [_]) S M 0 rfl (by kernel_rfl) rfl rfl rfl rfl rfl rfl (by first | decide | (simp; done) | (simp; omega)) ?_; clear M; intro w4 M
    simp only [putL, List.set_cons_zero, List.set_cons_succ, Nat.reduceAdd] at M
    refine wpList_nil ?_
    replace S := S.sub [(0, _), (2, _), (13, _), (3, _)] rfl
    refine then_normal ?_
    refine wp_seq ?_
    -- region 6 ref.go:184
    refine wp_region_lit ?_
    refine st_y S rfl rfl rfl (y_move S rfl) ?_; clear S a; intro a S
    refine st_y S rfl rfl rfl (y_assign S rfl) ?_; clear S a; intro a S
    refine wpList_nil ?_
    replace S := S.sub [(0, _), (13, _), (3, _), (2, _)] rfl
    refine then_normal ?_
    refine wp_ret ?_
    refine end_one S rfl (res_tmp rfl) ?_
    rw [htk]
    refine ⟨rfl, ?_⟩
    have e : ((s.at_ + 1 : Nat) : Int) = (s.at_ : Int) + 1 := by omega
    simp only [rdC, e]
    exact M
theorem threeR_any {wc w : World} {H : List Ent} {bf : Nat} {bv : Value} {s : Rs} {bs : List UInt8} (M : Mem wc w (.blk bf (rdC bv s) 59 :: H)) (hb : Bs 0 wc.heap.size wc bv bs) :
    Calls Try.prog 31 #[.pointer (some ⟨bf, 0, none⟩)] w fun e w' => e = .returned (.int .i64 (r3 bs s).1) ∧ Mem wc w' (.blk bf (rdC bv (r3 bs s).2) 59 :: H) := by
  have b1 := tk1_bd bs s
  have b2 := tk1_bd bs (tk bs 1 s).2
  have b3 := tk1_bd bs (tk bs 1 (tk bs 1 s).2).2
  refine calls_enter Try.func31 rfl 19 rfl rfl ?_; intro a S
  refine wp_seq ?_
  -- region 0 ref.go:188
  skip
  refine wp_region_lit ?_
  refine st_y S rfl rfl rfl (y_assign S rfl) ?_; clear S a; intro a S
  refine wpList_nil ?_
  replace S := S.sub [(0, _), (2, _)] rfl
  refine then_normal ?_
  refine wp_seq ?_
  -- region 1 ref.go:189
  refine wp_region_lit ?_
  refine st_y S rfl rfl rfl (y_move S rfl) ?_; clear S a; intro a S
  refine st_call (xs := [(Operand.tmp 6)]) S (enters_of Try.func30 (by decide) rfl) rfl rfl rfl (byte_any M hb) ?_
  rintro _ w1 ⟨rfl, M1⟩; refine ⟨_, rfl, ?_⟩; clear S a; intro a S; replace M := M1
  refine st_y S rfl rfl rfl (y_assign S rfl) ?_; clear S a; intro a S
  refine wpList_nil ?_
  replace S := S.sub [(0, _), (2, _), (3, _)] rfl
  refine then_normal ?_
  refine wp_seq ?_
  -- region 2 ref.go:190
  refine wp_region_lit ?_
  refine st_y S rfl rfl rfl (y_move S rfl) ?_; clear S a; intro a S
  refine st_call (xs := [(Operand.tmp 8)]) S (enters_of Try.func30 (by decide) rfl) rfl rfl rfl (byte_any M hb) ?_
  rintro _ w2 ⟨rfl, M1⟩; refine ⟨_, rfl, ?_⟩; clear S a; intro a S; replace M := M1
  refine st_y S rfl rfl rfl (y_assign S rfl) ?_; clear S a; intro a S
  refine wpList_nil ?_
  replace S := S.sub [(0, _), (2, _), (3, _), (4, _)] rfl
  refine then_normal ?_
  refine wp_seq ?_
  -- region 3 ref.go:191
  refine wp_region_lit ?_
  refine st_y S rfl rfl rfl (y_move S rfl) ?_; clear S a; intro a S
  refine st_call (xs := [(Operand.tmp 10)]) S (enters_of Try.func30 (by decide) rfl) rfl rfl rfl (byte_any M hb) ?_
  rintro _ w3 ⟨rfl, M1⟩; refine ⟨_, rfl, ?_⟩; clear S a; intro a S; replace M := M1
  refine st_y S rfl rfl rfl (y_assign S rfl) ?_; clear S a; intro a S
  refine wpList_nil ?_
  replace S := S.sub [(0, _), (2, _), (3, _), (4, _), (5, _)] rfl
  refine then_normal ?_
  refine wp_seq ?_
  -- region 4 ref.go:192
  refine wp_region_lit ?_
  refine st_y S rfl rfl rfl (y_move S rfl) ?_; clear S a; intro a S
  refine st_y S rfl rfl rfl (y_move S rfl) ?_; clear S a; intro a S
  (first | refine st_y S rfl rfl rfl (y_shlN S rfl rfl (by omega) (by simp only [show ((8 : Int).toNat) = 8 from rfl, show ((16 : Int).toNat) = 16 from rfl]; omega)) ?_ | refine st_y S rfl rfl rfl (y_shl S rfl rfl (by omega)) ?_); clear S a; intro a S
  (first | refine st_y S rfl rfl rfl (y_addN S rfl rfl (by simp only [show ((8 : Int).toNat) = 8 from rfl, show ((16 : Int).toNat) = 16 from rfl]; omega)) ?_ | refine st_y S rfl rfl rfl (y_int S rfl rfl rfl) ?_); clear S a; intro a S
  refine st_y S rfl rfl rfl (y_move S rfl) ?_; clear S a; intro a S
  (first | refine st_y S rfl rfl rfl (y_shlN S rfl rfl (by omega) (by simp only [show ((8 : Int).toNat) = 8 from rfl, show ((16 : Int).toNat) = 16 from rfl]; omega)) ?_ | refine st_y S rfl rfl rfl (y_shl S rfl rfl (by omega)) ?_); clear S a; intro a S
  (first | refine st_y S rfl rfl rfl (y_addN S rfl rfl (by simp only [show ((8 : Int).toNat) = 8 from rfl, show ((16 : Int).toNat) = 16 from rfl]; omega)) ?_ | refine st_y S rfl rfl rfl (y_int S rfl rfl rfl) ?_); clear S a; intro a S
  refine st_y S rfl rfl rfl (y_assign S rfl) ?_; clear S a; intro a S
  refine wpList_nil ?_
  replace S := S.sub [(0, _), (3, _), (4, _), (5, _), (2, _)] rfl
  refine then_normal ?_
  refine wp_ret ?_
  refine end_one S rfl (res_tmp rfl) ?_
  exact ⟨rfl, M⟩
theorem nameR_any {wc w : World} {H : List Ent} {bf : Nat} {bv : Value} {s : Rs} {bs : List UInt8} (M : Mem wc w (.blk bf (rdC bv s) 59 :: H)) (hb : Bs 0 wc.heap.size wc bv bs) :
    Calls Try.prog 32 #[.pointer (some ⟨bf, 0, none⟩)] w fun e w' => e = .returned (.agg (rNm bs s).1.cells) ∧ Mem wc w' (.blk bf (rdC bv (rNm bs s).2) 59 :: H) := by
  refine calls_enter Try.func32 rfl 16 rfl rfl ?_; intro a S
  refine wp_seq ?_
  -- region 0 ref.go:196
  skip
  refine wp_region_lit ?_
  refine st_alloc S M rfl rfl #[.int .i64 0, .int .i64 0, .int .i64 0] (by kernel_rfl) ?_; clear S M a; intro a w1 bN S M hB
  refine wpList_nil ?_
  replace S := S.sub [(0, _), (2, _)] rfl
  refine then_normal ?_
  refine wp_seq ?_
  -- region 1 ref.go:197
  refine wp_region_lit ?_
  refine st_y S rfl rfl rfl (y_move S rfl) ?_; clear S a; intro a S
  replace M := M.front 1 rfl
  simp only [List.eraseIdx_cons_succ, List.eraseIdx_cons_zero] at M
  refine st_call (xs := [(Operand.tmp 6)]) S (enters_of Try.func31 (by decide) rfl) rfl rfl rfl (threeR_any M hb) ?_
  rintro _ w2 ⟨rfl, M1⟩; refine ⟨_, rfl, ?_⟩; clear S a; intro a S; replace M := M1
  refine st_y S rfl rfl rfl (y_assign S rfl) ?_; clear S a; intro a S
  refine wpList_nil ?_
  replace S := S.sub [(0, _), (2, _), (3, _)] rfl
  refine then_normal ?_
  refine wp_seq ?_
  -- region 2 ref.go:198
  refine wp_region_lit ?_
  refine st_y S rfl rfl rfl (y_move S rfl) ?_; clear S a; intro a S
  refine st_call (xs := [(Operand.tmp 8)]) S (enters_of Try.func31 (by decide) rfl) rfl rfl rfl (threeR_any M hb) ?_
  rintro _ w3 ⟨rfl, M1⟩; refine ⟨_, rfl, ?_⟩; clear S a; intro a S; replace M := M1
  refine st_y S rfl rfl rfl (y_assign S rfl) ?_; clear S a; intro a S
  refine wpList_nil ?_
  replace S := S.sub [(0, _), (2, _), (3, _), (4, _)] rfl
  refine then_normal ?_
  refine wp_seq ?_
  -- region 3 ref.go:199
  refine wp_region_lit ?_
  refine st_y S rfl rfl rfl (y_move S rfl) ?_; clear S a; intro a S
  refine st_call (xs := [(Operand.tmp 10)]) S (enters_of Try.func31 (by decide) rfl) rfl rfl rfl (threeR_any M hb) ?_
  rintro _ w4 ⟨rfl, M1⟩; refine ⟨_, rfl, ?_⟩; clear S a; intro a S; replace M := M1
  refine st_y S rfl rfl rfl (y_assign S rfl) ?_; clear S a; intro a S
  refine wpList_nil ?_
  replace S := S.sub [(0, _), (2, _), (3, _), (4, _), (5, _)] rfl
  refine then_normal ?_
  refine wp_seq ?_
  -- region 4 ref.go:200
  refine wp_region_lit ?_
  refine st_y S rfl rfl rfl (y_move S rfl) ?_; clear S a; intro a S
  refine st_y S rfl rfl rfl (y_move S rfl) ?_; clear S a; intro a S
  refine st_y S rfl rfl rfl (y_move S rfl) ?_; clear S a; intro a S
  refine st_y S rfl rfl rfl (y_build (ps := [(0, (Operand.tmp 12)), (1, (Operand.tmp 13)), (2, (Operand.tmp 14))]) (pl := [(0, 1), (1, 1), (2, 1)]) (z := [.int .i64 0, .int .i64 0, .int .i64 0]) (cs := [_, _, _]) S (by kernel_rfl) rfl rfl) ?_; clear S a; intro a S
  refine st_store (sz := 3) (us := [_, _, _]) S M 1 rfl (by kernel_rfl) rfl rfl rfl rfl rfl rfl (by first | decide | (simp; done) | (simp; omega)) ?_; clear M; intro w5 M
  simp only [putL, List.set_cons_zero, List.set_cons_succ, Nat.reduceAdd] at M
  refine wpList_nil ?_
  replace S := S.sub [(0, _), (2, _), (3, _), (4, _), (5, _)] rfl
  refine then_normal ?_
  refine wp_ret ?_
  refine end_one S rfl (res_agg (cs := [_, _, _]) (by kernel_rfl) rfl rfl (M.cellsAt (k := 3) 1 rfl rfl)) ?_
  exact ⟨rfl, M.drop 1⟩
theorem padB_set0 {l : List UInt8} (x : UInt8) (h : l.length < 8) : putL (bcells (padB l)) l.length [.int .u8 (x.toNat : Int)] = bcells (padB (l ++ [x])) := by
  have e : padB l = l ++ (0 :: List.replicate (8 - (l.length + 1)) 0) := by unfold padB; rw [show 8 - l.length = (8 - (l.length + 1)) + 1 by omega, List.replicate_succ]
  rw [e]; unfold padB
  simp only [putL, bcells, List.map_append, List.map_cons, List.map_nil, List.length_append, List.length_cons, List.length_nil]
  rw [List.set_append_right _ _ (by simp)]
  simp
theorem valueR_any {wc w : World} {H : List Ent} {bf : Nat} {bv : Value} {s : Rs} {bs : List UInt8} (M : Mem wc w (.blk bf (rdC bv s) 59 :: H)) (hb : Bs 0 wc.heap.size wc bv bs) :
    Calls Try.prog 61 #[.pointer (some ⟨bf, 0, none⟩)] w fun e w' => e = .returned (.agg (v8 (rdBs bs 8 s).1).cellsL.toArray) ∧ Mem wc w' (.blk bf (rdC bv (rdBs bs 8 s).2) 59 :: H) := by
  refine calls_enter Try.func61 rfl 15 rfl rfl ?_; intro a S
  refine wp_seq ?_
  -- region 0 ref.go:204
  skip
  refine wp_region_lit ?_
  refine st_alloc S M rfl rfl #[.int .u8 0, .int .u8 0, .int .u8 0, .int .u8 0, .int .u8 0, .int .u8 0, .int .u8 0, .int .u8 0] (by kernel_rfl) ?_; clear S M a; intro a w1 bO S M hB
  refine wpList_nil ?_
  replace S := S.sub [(0, _), (2, _)] rfl
  refine then_normal ?_
  refine wp_seq ?_
  -- region 1 ref.go:205
  refine wp_region_lit ?_
  refine st_alloc S M rfl rfl #[.int .u8 0, .int .u8 0, .int .u8 0, .int .u8 0, .int .u8 0, .int .u8 0, .int .u8 0, .int .u8 0] (by kernel_rfl) ?_; clear S M a; intro a w2 bV S M hB
  refine wpList_nil ?_
  replace S := S.sub [(0, _), (2, _), (3, _)] rfl
  refine then_normal ?_
  refine wp_seq ?_
  refine wp_seq ?_
  -- region 2 ref.go:206
  refine wp_region_lit ?_
  refine st_y S rfl rfl rfl (y_assign S rfl) ?_; clear S a; intro a S
  refine wpList_nil ?_
  replace S := S.sub [(0, _), (2, _), (3, _), (4, _)] rfl
  refine then_normal ?_
  refine wp_block ?_
  refine wp_loop_g (fun m a w' => ∃ (j : Nat), j ≤ 8 ∧ m = 8 - j ∧ Sees 15 a [(0, .pointer (some ⟨bf, 0, none⟩)), (2, .pointer (some ⟨bO, 0, none⟩)), (3, .pointer (some ⟨bV, 0, none⟩)), (4, .int .i64 (j : Int))] ∧ Mem wc w' (.blk bf (rdC bv (rdBs bs j s).2) 59 :: .blk bV (bcells (padB (rdBs bs j s).1)).toArray 65 :: .blk bO #[.int .u8 0, .int .u8 0, .int .u8 0, .int .u8 0, .int .u8 0, .int .u8 0, .int .u8 0, .int .u8 0] 65 :: H)) (8) ?_ ?_
  · skip
    replace M := M.front 2 rfl
    simp only [List.eraseIdx_cons_succ, List.eraseIdx_cons_zero] at M
    exact ⟨0, by omega, rfl, S.sub _ rfl, M⟩
  · clear S M a; intro m a wl
    rintro ⟨j, hj, rfl, S, M⟩
    refine wp_seq ?_
    refine wp_seq ?_
    -- region 3 ref.go:206
    refine wp_region_lit ?_
    refine st_y S rfl rfl rfl (y_move S rfl) ?_; clear S a; intro a S
    refine st_y S rfl rfl rfl (y_int S rfl rfl rfl) ?_; clear S a; intro a S
    refine wpList_nil ?_
    replace S := S.sub [(0, _), (2, _), (3, _), (4, _), (6, _)] rfl
    refine then_normal ?_
    refine st_split (t := 6) S rfl ?_ ?_
    · clear S; intro h6 S
      first | replace h6 := nrmA h6 | replace h6 := nrmB h6 | skip
      first | replace h6 := nrm1 h6 | replace h6 := nrm2 h6 | replace h6 := nrm3 h6 | replace h6 := nrm4 h6 | replace h6 := nrm5 h6 | replace h6 := nrm6 h6 | replace h6 := of_decide_eq_true h6 | replace h6 := of_decide_eq_false h6 | skip
      refine st_condT S rfl ?_
      refine wp_skip ?_
      refine then_normal ?_
      refine wp_seq ?_
      refine wp_block ?_
      -- region 5 ref.go:207
      have hjl := rdBs_len bs j s
      refine wp_region_lit ?_
      refine st_y S rfl rfl rfl (y_move S rfl) ?_; clear S a; intro a S
      refine st_y S rfl rfl rfl (y_move S rfl) ?_; clear S a; intro a S
      refine st_call (xs := [(Operand.tmp 10)]) S (enters_of Try.func30 (by decide) rfl) rfl rfl rfl (byte_any M hb) ?_
      rintro _ w3 ⟨rfl, M1⟩; refine ⟨_, rfl, ?_⟩; clear S a; intro a S; replace M := M1
      refine st_y S rfl rfl rfl (y_to8 S rfl (by kernel_rfl) (by kernel_rfl)) ?_; clear S a; intro a S
      refine st_y S rfl rfl rfl (y_indexA (m := 8) (sz := 1) S (by kernel_rfl) rfl rfl (by first | omega | (simp; done) | (simp; omega))) ?_; clear S a; intro a S
      try simp only [Int.toNat_natCast, Nat.mul_one, Nat.zero_add] at S
      refine st_store (sz := 1) (us := [_]) S M 1 rfl (by kernel_rfl) rfl rfl rfl rfl rfl rfl (by simp [padB, bcells, hjl]; omega) ?_; clear M; intro w4 M
      simp only [List.set_cons_zero, List.set_cons_succ] at M
      refine wpList_nil ?_
      replace S := S.sub [(0, _), (2, _), (3, _), (4, _), (6, _)] rfl
      refine block_normal ?_
      refine then_normal ?_
      -- region 4 ref.go:206
      refine wp_region_lit ?_
      refine st_y S rfl rfl rfl (y_move S rfl) ?_; clear S a; intro a S
      (first | refine st_y S rfl rfl rfl (y_addN S rfl rfl (by omega)) ?_ | refine st_y S rfl rfl rfl (y_int S rfl rfl rfl) ?_); clear S a; intro a S
      refine st_y S rfl rfl rfl (y_assign S rfl) ?_; clear S a; intro a S
      refine wpList_nil ?_
      replace S := S.sub [(0, _), (2, _), (3, _), (6, _), (4, _)] rfl
      refine then_normal ?_
      refine ⟨8 - (j + 1), by omega, j + 1, by omega, rfl, S.sub _ rfl, ?_⟩
      rw [rdBs_snoc]
      have e := padB_set0 (l := (rdBs bs j s).1) (byteOf (tk bs 1 (rdBs bs j s).2).1) (by omega)
      rw [hjl] at e
      rw [← e]
      exact M
    · clear S; intro h6 S
      first | replace h6 := nrmA h6 | replace h6 := nrmB h6 | skip
      first | replace h6 := nrm1 h6 | replace h6 := nrm2 h6 | replace h6 := nrm3 h6 | replace h6 := nrm4 h6 | replace h6 := nrm5 h6 | replace h6 := nrm6 h6 | replace h6 := of_decide_eq_true h6 | replace h6 := of_decide_eq_false h6 | skip
      refine st_condF S rfl ?_
      refine wp_exit ?_
      refine then_exit ?_
      refine then_exit ?_
      refine block_hit ?_
      refine then_normal ?_
      refine wp_seq ?_
      -- region 6 ref.go:209
      obtain rfl : j = 8 := by omega
      rw [padB_full (rdBs_len bs 8 s)] at M
      refine wp_region_lit ?_
      refine st_y S rfl rfl rfl (y_loadAgg (cs := [_, _, _, _, _, _, _, _]) S (by kernel_rfl) rfl rfl (M.cellsAt (k := 8) 1 rfl rfl)) ?_; clear S a; intro a S
      refine st_store (sz := 8) (us := [_, _, _, _, _, _, _, _]) S M 2 rfl (by kernel_rfl) rfl rfl rfl rfl rfl rfl (by first | decide | (simp; done) | (simp; omega)) ?_; clear M; intro w5 M
      simp only [putL, List.set_cons_zero, List.set_cons_succ, Nat.reduceAdd] at M
      refine wpList_nil ?_
      replace S := S.sub [(0, _), (2, _), (3, _), (4, _), (6, _)] rfl
      refine then_normal ?_
      refine wp_ret ?_
      refine end_one S rfl (res_agg (cs := [_, _, _, _, _, _, _, _]) (by kernel_rfl) rfl rfl (M.cellsAt (k := 8) 2 rfl rfl)) ?_
      exact ⟨rfl, (M.drop 1).drop 1⟩
theorem rLoop_stop {bs : List UInt8} {n : Nat} {s : Rs} (h : s.bad = true) : rLoop bs n s = ([], s) := by
  cases n with
  | zero => rfl
  | succ n => rw [rLoop, if_pos h]
theorem rLoop_step {bs : List UInt8} {n : Nat} {s : Rs} (h : s.bad = false) : rLoop bs (n + 1) s = ((rdWr bs s).1 :: (rLoop bs n (rdWr bs s).2).1, (rLoop bs n (rdWr bs s).2).2) := by rw [rLoop, if_neg (by simp [h])]
theorem rLoop_len (bs : List UInt8) : ∀ (n : Nat) (s : Rs), (rLoop bs n s).1.length ≤ n
  | 0, s => by simp [rLoop]
  | n + 1, s => by
    rw [rLoop]; split
    · simp
    · have := rLoop_len bs n (rdWr bs s).2; simp only [List.length_cons]; omega
theorem writesR_any {wc w : World} {H : List Ent} {bf : Nat} {bv : Value} {s : Rs} {bs : List UInt8} (M : Mem wc w (.blk bf (rdC bv s) 59 :: H)) (hb : Bs 0 wc.heap.size wc bv bs) :
    Calls Try.prog 33 #[.pointer (some ⟨bf, 0, none⟩)] w fun e w' => ∃ v' lo hi, e = .returned v' ∧ Mem wc w' (rowE lo hi 67 9 v' (rWs bs s).1.length (wcells (rWs bs s).1) :: .blk bf (rdC bv (rWs bs s).2) 59 :: H) := by
  obtain ⟨t1, ht1⟩ : ∃ t1, tk bs 1 s = t1 := ⟨_, rfl⟩
  have hn := tk1_bd bs s
  rw [ht1] at hn
  obtain ⟨n, hn'⟩ := Int.eq_ofNat_of_zero_le hn.1
  have hn8 : n ≤ 255 := by omega
  have hrd : rWs bs s = rLoop bs n t1.2 := by unfold rWs; rw [ht1, hn', Int.toNat_natCast]
  rw [hrd]
  refine calls_enter Try.func33 rfl 33 rfl rfl ?_; intro a S
  refine wp_seq ?_
  -- region 0 ref.go:213
  skip
  refine wp_region_lit ?_
  refine st_y S rfl rfl rfl (y_assign S rfl) ?_; clear S a; intro a S
  refine wpList_nil ?_
  replace S := S.sub [(0, _), (2, _)] rfl
  refine then_normal ?_
  refine wp_seq ?_
  -- region 1 ref.go:214
  refine wp_region_lit ?_
  refine st_y S rfl rfl rfl (y_move S rfl) ?_; clear S a; intro a S
  refine st_call (xs := [(Operand.tmp 8)]) S (enters_of Try.func30 (by decide) rfl) rfl rfl rfl (byte_any M hb) ?_
  rintro _ w1 ⟨rfl, M1⟩; refine ⟨_, rfl, ?_⟩; clear S a; intro a S; replace M := M1; rw [ht1] at S M; rw [hn'] at S
  refine st_y S rfl rfl rfl (y_assign S rfl) ?_; clear S a; intro a S
  refine wpList_nil ?_
  replace S := S.sub [(0, _), (2, _), (3, _)] rfl
  refine then_normal ?_
  refine wp_seq ?_
  -- region 2 ref.go:215
  refine wp_region_lit ?_
  refine st_y S rfl rfl rfl (y_assign S rfl) ?_; clear S a; intro a S
  refine wpList_nil ?_
  replace S := S.sub [(0, _), (2, _), (3, _), (4, _)] rfl
  refine then_normal ?_
  refine wp_seq ?_
  refine wp_seq ?_
  -- region 3 ref.go:216
  refine wp_region_lit ?_
  refine st_y S rfl rfl rfl (y_assign S rfl) ?_; clear S a; intro a S
  refine wpList_nil ?_
  replace S := S.sub [(0, _), (2, _), (3, _), (4, _), (5, _)] rfl
  refine then_normal ?_
  refine wp_block ?_
  refine wp_loop_g (fun m a w' => ∃ (k : Nat) (v : Value) (lo hi : Nat), k ≤ n ∧ m = n - k ∧ Sees 33 a [(0, .pointer (some ⟨bf, 0, none⟩)), (3, .int .i64 (n : Int)), (4, v), (5, .int .i64 (k : Int))] ∧ Mem wc w' (.blk bf (rdC bv (rdWrs bs k t1.2).2) 59 :: rowE lo hi 67 9 v (rdWrs bs k t1.2).1.length (wcells (rdWrs bs k t1.2).1) :: H) ∧ rLoop bs n t1.2 = ((rdWrs bs k t1.2).1 ++ (rLoop bs (n - k) (rdWrs bs k t1.2).2).1, (rLoop bs (n - k) (rdWrs bs k t1.2).2).2)) (n) ?_ ?_
  · skip
    exact ⟨0, _, _, _, Nat.zero_le _, rfl, S.sub _ rfl, (M.rowNil 67 9).front 1 rfl, rfl⟩
  · clear S M a; intro m a wl
    rintro ⟨k, v, lo, hi, hk, rfl, S, M, hlp⟩
    obtain ⟨s1, hs1⟩ : ∃ s1, (rdWrs bs k t1.2).2 = s1 := ⟨_, rfl⟩
    obtain ⟨xs, hxs⟩ : ∃ xs, (rdWrs bs k t1.2).1 = xs := ⟨_, rfl⟩
    have hxl : xs.length = k := by rw [← hxs, rdWrs_len]
    rw [hs1, hxs] at M hlp
    refine wp_seq ?_
    refine wp_seq ?_
    -- region 4 ref.go:216
    refine wp_region_lit ?_
    refine st_y S rfl rfl rfl (y_move S rfl) ?_; clear S a; intro a S
    refine st_y S rfl rfl rfl (y_move S rfl) ?_; clear S a; intro a S
    refine st_y S rfl rfl rfl (y_int S rfl rfl rfl) ?_; clear S a; intro a S
    refine st_y S rfl rfl rfl (y_move S rfl) ?_; clear S a; intro a S
    refine st_split (t := 13) S rfl ?_ ?_
    · clear S; intro h13 S
      first | replace h13 := nrmA h13 | replace h13 := nrmB h13 | skip
      first | replace h13 := nrm1 h13 | replace h13 := nrm2 h13 | replace h13 := nrm3 h13 | replace h13 := nrm4 h13 | replace h13 := nrm5 h13 | replace h13 := nrm6 h13 | replace h13 := of_decide_eq_true h13 | replace h13 := of_decide_eq_false h13 | skip
      refine st_y S rfl rfl rfl (y_move S rfl) ?_; clear S a; intro a S
      refine st_y S rfl rfl rfl (y_nilCheck S rfl) ?_; clear S a; intro a S
      refine st_y S rfl rfl rfl (y_fieldAddr (k := 2) S (by kernel_rfl) rfl) ?_; clear S a; intro a S
      refine st_y S rfl rfl rfl (y_load S (by kernel_rfl) rfl (M.cell 0 rfl rfl)) ?_; clear S a; intro a S
      refine st_y S rfl rfl rfl (y_not S rfl) ?_; clear S a; intro a S
      refine st_y S rfl rfl rfl (y_pickT S rfl rfl) ?_; clear S a; intro a S
      refine wpList_nil ?_
      replace S := S.sub [(0, _), (3, _), (4, _), (5, _), (19, _)] rfl
      refine then_normal ?_
      refine st_split (t := 19) S rfl ?_ ?_
      · clear S; intro h19 S
        refine st_condT S rfl ?_
        refine wp_skip ?_
        refine then_normal ?_
        refine wp_seq ?_
        refine wp_block ?_
        refine wp_seq ?_
        -- region 6 ref.go:217
        refine wp_region_lit ?_
        refine st_y S rfl rfl rfl (y_move S rfl) ?_; clear S a; intro a S
        refine st_call (xs := [(Operand.tmp 22)]) S (enters_of Try.func30 (by decide) rfl) rfl rfl rfl (byte_any M hb) ?_
        rintro _ w2 ⟨rfl, M1⟩; refine ⟨_, rfl, ?_⟩; clear S a; intro a S; replace M := M1
        refine st_y S rfl rfl rfl (y_assign S rfl) ?_; clear S a; intro a S
        refine wpList_nil ?_
        replace S := S.sub [(0, _), (3, _), (4, _), (5, _), (19, _), (6, _)] rfl
        refine then_normal ?_
        refine wp_seq ?_
        -- region 7 ref.go:218
        refine wp_region_lit ?_
        refine st_y S rfl rfl rfl (y_move S rfl) ?_; clear S a; intro a S
        refine st_call (xs := [(Operand.tmp 24)]) S (enters_of Try.func61 (by decide) rfl) rfl rfl rfl (valueR_any M hb) ?_
        rintro _ w3 ⟨rfl, M1⟩; refine ⟨_, rfl, ?_⟩; clear S a; intro a S; replace M := M1
        refine st_alloc S M rfl rfl #[.int .u8 0, .int .u8 0, .int .u8 0, .int .u8 0, .int .u8 0, .int .u8 0, .int .u8 0, .int .u8 0] (by kernel_rfl) ?_; clear S M a; intro a w4 bV S M hB
        refine st_store (sz := 8) (us := [_, _, _, _, _, _, _, _]) S M 0 rfl (by kernel_rfl) rfl rfl rfl rfl rfl rfl (by first | decide | (simp; done) | (simp; omega)) ?_; clear M; intro w5 M
        simp only [putL, List.set_cons_zero, List.set_cons_succ, Nat.reduceAdd] at M
        refine wpList_nil ?_
        replace S := S.sub [(0, _), (3, _), (4, _), (5, _), (19, _), (6, _), (7, _)] rfl
        refine then_normal ?_
        -- region 8 ref.go:219
        have hs2 : (rdBs bs 8 (tk bs 1 s1).2).2 = (rdWr bs s1).2 := rfl
        rw [hs2] at M
        refine wp_region_lit ?_
        refine st_y S rfl rfl rfl (y_move S rfl) ?_; clear S a; intro a S
        refine st_y S rfl rfl rfl (y_move S rfl) ?_; clear S a; intro a S
        refine st_y S rfl rfl rfl (y_loadAgg (cs := [_, _, _, _, _, _, _, _]) S (by kernel_rfl) rfl rfl (M.cellsAt (k := 8) 0 rfl rfl)) ?_; clear S a; intro a S
        refine st_y S rfl rfl rfl (y_build (ps := [(0, (Operand.tmp 27)), (1, (Operand.tmp 28))]) (pl := [(0, 1), (1, 8)]) (z := [.int .i64 0, .int .u8 0, .int .u8 0, .int .u8 0, .int .u8 0, .int .u8 0, .int .u8 0, .int .u8 0, .int .u8 0]) (cs := [_, _, _, _, _, _, _, _, _]) S (by kernel_rfl) rfl rfl) ?_; clear S a; intro a S
        refine st_lit (ps := [(0, (Operand.tmp 29))]) (e := 67) (sz := 9) (zl := [.int .i64 0, .int .u8 0, .int .u8 0, .int .u8 0, .int .u8 0, .int .u8 0, .int .u8 0, .int .u8 0, .int .u8 0]) (cs := [_, _, _, _, _, _, _, _, _]) S M rfl rfl (by kernel_rfl) rfl rfl ?_; clear S M a; intro a w6 bZ S M hB
        refine st_append (e := 67) (sz := 9) (by_ := 16) (zc := [.int .i64 0, .int .u8 0, .int .u8 0, .int .u8 0, .int .u8 0, .int .u8 0, .int .u8 0, .int .u8 0, .int .u8 0]) S M 3 rfl rfl (by kernel_rfl) rfl (by decide) rfl rfl rfl (show Rd _ _ _ 9 _ 1 (wcells [⟨(tk bs 1 s1).1, v8 (rdBs bs 8 (tk bs 1 s1).2).1⟩]) from M.sliceAt 0 rfl (M.cellsAt (k := 9) 0 rfl rfl) rfl (Nat.le_refl _) (by unfold maxLen; omega)) (allOne_wcells _) (by omega) (by unfold maxLen; omega) ?_; clear S M a; intro a w7 vA loA hiA S M
        refine st_y S rfl rfl rfl (y_assign S rfl) ?_; clear S a; intro a S
        refine wpList_nil ?_
        replace S := S.sub [(0, _), (3, _), (5, _), (19, _), (6, _), (7, _), (4, _)] rfl
        refine block_normal ?_
        refine then_normal ?_
        -- region 5 ref.go:216
        refine wp_region_lit ?_
        refine st_y S rfl rfl rfl (y_move S rfl) ?_; clear S a; intro a S
        (first | refine st_y S rfl rfl rfl (y_addN S rfl rfl (by omega)) ?_ | refine st_y S rfl rfl rfl (y_int S rfl rfl rfl) ?_); clear S a; intro a S
        refine st_y S rfl rfl rfl (y_assign S rfl) ?_; clear S a; intro a S
        refine wpList_nil ?_
        replace S := S.sub [(0, _), (3, _), (19, _), (6, _), (7, _), (4, _), (5, _)] rfl
        refine then_normal ?_
        replace M := M.front 3 rfl
        simp only [List.eraseIdx_cons_succ, List.eraseIdx_cons_zero] at M
        refine ⟨n - (k + 1), by omega, k + 1, vA, loA, hiA, by omega, rfl, S.sub _ rfl, ?_, ?_⟩
        · rw [rdWrs_snoc, hs1, hxs, wcells_append, List.length_append]
          exact (M.drop 2).drop 2
        · rw [hlp, rdWrs_snoc, hs1, hxs, show n - k = (n - (k + 1)) + 1 by omega, rLoop_step (by simpa using h19)]
          simp
      · clear S; intro h19 S
        refine st_condF S rfl ?_
        refine wp_exit ?_
        refine then_exit ?_
        refine then_exit ?_
        refine block_hit ?_
        refine then_normal ?_
        refine wp_seq ?_
        -- region 9 ref.go:221
        refine wp_region_lit ?_
        refine st_y S rfl rfl rfl (y_move S rfl) ?_; clear S a; intro a S
        refine st_y S rfl rfl rfl (y_assign S rfl) ?_; clear S a; intro a S
        refine wpList_nil ?_
        replace S := S.sub [(0, _), (3, _), (4, _), (5, _), (19, _), (2, _)] rfl
        refine then_normal ?_
        refine wp_ret ?_
        refine end_one S rfl (res_tmp rfl) ?_
        have hst : rLoop bs (n - k) s1 = ([], s1) := by
          first
            | (rw [show n - k = 0 by omega]; rfl)
            | (exact rLoop_stop (by simpa using h19))
        rw [hlp, hst, List.append_nil]
        exact ⟨_, _, _, rfl, M.front 1 rfl⟩
    · clear S; intro h13 S
      first | replace h13 := nrmA h13 | replace h13 := nrmB h13 | skip
      first | replace h13 := nrm1 h13 | replace h13 := nrm2 h13 | replace h13 := nrm3 h13 | replace h13 := nrm4 h13 | replace h13 := nrm5 h13 | replace h13 := nrm6 h13 | replace h13 := of_decide_eq_true h13 | replace h13 := of_decide_eq_false h13 | skip
      refine st_no S rfl rfl rfl ?_; clear S a; intro a S
      refine st_no S rfl rfl rfl ?_; clear S a; intro a S
      refine st_no S rfl rfl rfl ?_; clear S a; intro a S
      refine st_no S rfl rfl rfl ?_; clear S a; intro a S
      refine st_no S rfl rfl rfl ?_; clear S a; intro a S
      refine st_y S rfl rfl rfl (y_pickF S rfl rfl) ?_; clear S a; intro a S
      refine wpList_nil ?_
      replace S := S.sub [(0, _), (3, _), (4, _), (5, _), (19, _)] rfl
      refine then_normal ?_
      refine st_condF S rfl ?_
      refine wp_exit ?_
      refine then_exit ?_
      refine then_exit ?_
      refine block_hit ?_
      refine then_normal ?_
      refine wp_seq ?_
      -- region 9 ref.go:221
      refine wp_region_lit ?_
      refine st_y S rfl rfl rfl (y_move S rfl) ?_; clear S a; intro a S
      refine st_y S rfl rfl rfl (y_assign S rfl) ?_; clear S a; intro a S
      refine wpList_nil ?_
      replace S := S.sub [(0, _), (3, _), (4, _), (5, _), (19, _), (2, _)] rfl
      refine then_normal ?_
      refine wp_ret ?_
      refine end_one S rfl (res_tmp rfl) ?_
      have hst : rLoop bs (n - k) s1 = ([], s1) := by
        first
          | (rw [show n - k = 0 by omega]; rfl)
          | (exact rLoop_stop (by simpa using h19))
      rw [hlp, hst, List.append_nil]
      exact ⟨_, _, _, rfl, M.front 1 rfl⟩
theorem flagR_any {wc w : World} {H : List Ent} {bf : Nat} {bv : Value} {s : Rs} {bs : List UInt8} (M : Mem wc w (.blk bf (rdC bv s) 59 :: H)) (hb : Bs 0 wc.heap.size wc bv bs) :
    Calls Try.prog 34 #[.pointer (some ⟨bf, 0, none⟩)] w fun e w' => e = .returned (.bool (rFl bs s).1) ∧ Mem wc w' (.blk bf (rdC bv (rFl bs s).2) 59 :: H) := by
  refine calls_enter Try.func34 rfl 19 rfl rfl ?_; intro a S
  refine wp_seq ?_
  -- region 0 ref.go:225
  skip
  refine wp_region_lit ?_
  refine st_y S rfl rfl rfl (y_assign S rfl) ?_; clear S a; intro a S
  refine wpList_nil ?_
  replace S := S.sub [(0, _), (2, _)] rfl
  refine then_normal ?_
  refine wp_seq ?_
  -- region 1 ref.go:226
  refine wp_region_lit ?_
  refine st_y S rfl rfl rfl (y_move S rfl) ?_; clear S a; intro a S
  refine st_call (xs := [(Operand.tmp 4)]) S (enters_of Try.func30 (by decide) rfl) rfl rfl rfl (byte_any M hb) ?_
  rintro _ w1 ⟨rfl, M1⟩; refine ⟨_, rfl, ?_⟩; clear S a; intro a S; replace M := M1
  refine st_y S rfl rfl rfl (y_assign S rfl) ?_; clear S a; intro a S
  refine wpList_nil ?_
  replace S := S.sub [(0, _), (2, _), (3, _)] rfl
  refine then_normal ?_
  refine wp_seq ?_
  -- region 2 ref.go:227
  refine wp_region_lit ?_
  refine st_y S rfl rfl rfl (y_move S rfl) ?_; clear S a; intro a S
  refine st_y S rfl rfl rfl (y_move S rfl) ?_; clear S a; intro a S
  refine st_y S rfl rfl rfl (y_nilCheck S rfl) ?_; clear S a; intro a S
  refine st_y S rfl rfl rfl (y_fieldAddr (k := 2) S (by kernel_rfl) rfl) ?_; clear S a; intro a S
  refine st_y S rfl rfl rfl (y_load S (by kernel_rfl) rfl (M.cell 0 rfl rfl)) ?_; clear S a; intro a S
  refine st_y S rfl rfl rfl (y_move S rfl) ?_; clear S a; intro a S
  refine st_split (t := 11) S rfl ?_ ?_
  · clear S; intro h11 S
    refine st_no S rfl rfl rfl ?_; clear S a; intro a S
    refine st_no S rfl rfl rfl ?_; clear S a; intro a S
    refine st_y S rfl rfl rfl (y_pickT S rfl rfl) ?_; clear S a; intro a S
    refine st_y S rfl rfl rfl (y_nilCheck S rfl) ?_; clear S a; intro a S
    refine st_y S rfl rfl rfl (y_fieldAddr (k := 2) S (by kernel_rfl) rfl) ?_; clear S a; intro a S
    refine st_store (sz := 1) (us := [_]) S M 0 rfl (by kernel_rfl) rfl rfl rfl rfl rfl rfl (by first | decide | (simp; done) | (simp; omega)) ?_; clear M; intro w2 M
    simp only [putL, List.set_cons_zero, List.set_cons_succ, Nat.reduceAdd] at M
    refine wpList_nil ?_
    replace S := S.sub [(0, _), (2, _), (3, _)] rfl
    refine then_normal ?_
    refine wp_seq ?_
    -- region 3 ref.go:228
    refine wp_region_lit ?_
    refine st_y S rfl rfl rfl (y_move S rfl) ?_; clear S a; intro a S
    refine st_y S rfl rfl rfl (y_int S rfl rfl rfl) ?_; clear S a; intro a S
    refine st_y S rfl rfl rfl (y_assign S rfl) ?_; clear S a; intro a S
    refine wpList_nil ?_
    replace S := S.sub [(0, _), (3, _), (2, _)] rfl
    refine then_normal ?_
    refine wp_ret ?_
    refine end_one S rfl (res_tmp rfl) ?_
    refine ⟨rfl, ?_⟩
    unfold rFl
    simp only [h11, Bool.true_or, Bool.false_or]
    exact M
  · clear S; intro h11 S
    refine st_y S rfl rfl rfl (y_move S rfl) ?_; clear S a; intro a S
    refine st_y S rfl rfl rfl (y_int S rfl rfl rfl) ?_; clear S a; intro a S
    refine st_y S rfl rfl rfl (y_pickF S rfl rfl) ?_; clear S a; intro a S
    refine st_y S rfl rfl rfl (y_nilCheck S rfl) ?_; clear S a; intro a S
    refine st_y S rfl rfl rfl (y_fieldAddr (k := 2) S (by kernel_rfl) rfl) ?_; clear S a; intro a S
    refine st_store (sz := 1) (us := [_]) S M 0 rfl (by kernel_rfl) rfl rfl rfl rfl rfl rfl (by first | decide | (simp; done) | (simp; omega)) ?_; clear M; intro w3 M
    simp only [putL, List.set_cons_zero, List.set_cons_succ, Nat.reduceAdd] at M
    refine wpList_nil ?_
    replace S := S.sub [(0, _), (2, _), (3, _)] rfl
    refine then_normal ?_
    refine wp_seq ?_
    -- region 3 ref.go:228
    refine wp_region_lit ?_
    refine st_y S rfl rfl rfl (y_move S rfl) ?_; clear S a; intro a S
    refine st_y S rfl rfl rfl (y_int S rfl rfl rfl) ?_; clear S a; intro a S
    refine st_y S rfl rfl rfl (y_assign S rfl) ?_; clear S a; intro a S
    refine wpList_nil ?_
    replace S := S.sub [(0, _), (3, _), (2, _)] rfl
    refine then_normal ?_
    refine wp_ret ?_
    refine end_one S rfl (res_tmp rfl) ?_
    refine ⟨rfl, ?_⟩
    unfold rFl
    simp only [h11, Bool.true_or, Bool.false_or]
    exact M
theorem rBody_shards (bs : List UInt8) (k : Int) (s : Rs) : (rBody bs k s).1.shards ≤ 255 := by
  unfold rBody
  split
  · simp [Rc.zero]
  split
  · simp [Rc.zero]
  split
  · simp [Rc.zero]
  split
  · simp [Rc.zero]
  split
  · exact (tk1_bd bs _).2
  · simp [Rc.zero]
theorem rWs_len (bs : List UInt8) (s : Rs) : (rWs bs s).1.length ≤ 255 := by
  have h1 := rLoop_len bs (tk bs 1 s).1.toNat (tk bs 1 s).2
  have h2 := tk1_bd bs s
  unfold rWs; omega
theorem rBody_len (bs : List UInt8) (k : Int) (s : Rs) : (rBody bs k s).2.1.length ≤ 255 := by
  unfold rBody
  split
  · simp
  split
  · exact rWs_len bs _
  split
  · exact rWs_len bs _
  (repeat' split) <;> simp
theorem and127 {t : Int} (h : 0 ≤ t ∧ t ≤ 255) : IntKind.i8.wrap (IntKind.i64.wrap (BitVec.ofInt IntKind.i64.bits t &&& BitVec.ofInt IntKind.i64.bits 127).toNat) = t % 128 := by
  obtain ⟨k, rfl⟩ := Int.eq_ofNat_of_zero_le h.1
  have : ∀ j : Fin 256, IntKind.i8.wrap (IntKind.i64.wrap (BitVec.ofInt IntKind.i64.bits (j.val : Int) &&& BitVec.ofInt IntKind.i64.bits 127).toNat) = (j.val : Int) % 128 := by decide +kernel
  exact this ⟨k, by omega⟩
def CutP (bs : List UInt8) (kk : Int) (s : Rs) (w : World) (bO bR bC : Nat) (v : Value) (w' : World) : Prop :=
  ∃ v' lo hi, Mem w w' [rowE lo hi 67 9 v' (rBody bs kk s).2.1.length (wcells (rBody bs kk s).2.1), .blk bR (rdC v (rBody bs kk s).2.2) 59, .blk bC ((rBody bs kk s).1.cells v') 31, .blk bO (Rc.zero.cells (.slice none 0 0)) 31]
theorem rRead_any (v : Value) (bs : List UInt8) (w : World) (hv : Bs 0 w.heap.size w v bs) : Calls Try.prog 10 #[v] w (ReadPost bs w) := by
  obtain ⟨va, vc, rfl, -, -⟩ := hv.form
  have M := Mem.start w
  obtain ⟨t0, ht0⟩ : ∃ t0, tk bs 1 ⟨0, false⟩ = t0 := ⟨_, rfl⟩
  have hbd := tk1_bd bs ⟨0, false⟩
  rw [ht0] at hbd
  have hE : bs.length = 0 → t0 = (0, ⟨0, true⟩) := fun h => by rw [← ht0]; unfold tk; rw [if_neg (by simp only; omega)]
  have hBb : ∀ b, bs[0]? = some b → t0 = ((b.toNat : Int), ⟨1, false⟩) := fun b hb => by
    rw [← ht0]; unfold tk
    rw [if_pos (by have := (List.getElem?_eq_some_iff.1 hb).1; simp only; omega)]
    match bs, hb with
    | c :: r, h => obtain rfl : c = b := by simpa using h
                   simp [leN]
  obtain ⟨kk, hkk⟩ : ∃ kk : Int, t0.1 % 128 = kk := ⟨_, rfl⟩
  have hgo : ∀ (r : Rc) (x : List Wr), r.may x = true → r.enc x = bs → rBody bs kk t0.2 = (r, x, ⟨bs.length, false⟩) := fun r x hm he => by
    have hk := kinds hm
    have hb : bs[0]? = some (byteOf r.kind) := by rw [← he, enc_head]; rfl
    have e := byteOf_toNat r.kind
    have h1 := hBb _ hb
    have : kk = r.kind := by rw [← hkk, h1]; simp only; omega
    rw [this, h1]
    exact ref_no hm he
  refine calls_enter Try.func10 rfl 95 rfl rfl ?_; intro a S
  refine wp_seq ?_
  -- region 0 ref.go:232
  refine wp_region_lit ?_
  refine st_alloc S M rfl rfl #[.int .i8 0, .int .i64 0, .int .i64 0, .int .i64 0, .bool false, .slice none 0 0, .int .i64 0, .int .i64 0, .int .i64 0, .int .i64 0, .int .i64 0, .int .i64 0] (by kernel_rfl) ?_; clear S M a; intro a w1 bO S M hB
  refine st_y S rfl rfl rfl (y_assign S rfl) ?_; clear S a; intro a S
  refine wpList_nil ?_
  replace S := S.sub [(0, _), (2, _), (3, _)] rfl
  refine then_normal ?_
  refine wp_seq ?_
  -- region 1 ref.go:233
  refine wp_region_lit ?_
  refine st_y S rfl rfl rfl (y_move S rfl) ?_; clear S a; intro a S
  refine st_y S rfl rfl rfl (y_build (ps := [(0, (Operand.tmp 6))]) (pl := [(0, 1), (1, 1), (2, 1)]) (z := [.slice none 0 0, .int .i64 0, .bool false]) (cs := [_, _, _]) S (by kernel_rfl) rfl rfl) ?_; clear S a; intro a S
  refine st_box S M rfl rfl rfl #[_, _, _] rfl ?_; clear S M a; intro a w2 bR S M hB
  refine st_y S rfl rfl rfl (y_assign S rfl) ?_; clear S a; intro a S
  refine wpList_nil ?_
  replace S := S.sub [(0, _), (2, _), (3, _), (4, _)] rfl
  refine then_normal ?_
  refine wp_seq ?_
  -- region 2 ref.go:234
  refine wp_region_lit ?_
  refine st_y S rfl rfl rfl (y_move S rfl) ?_; clear S a; intro a S
  refine st_call (xs := [(Operand.tmp 9)]) S (enters_of Try.func30 (by decide) rfl) rfl rfl rfl (byte_any (s := ⟨0, false⟩) M hv) ?_
  rintro _ w3 ⟨rfl, M1⟩; refine ⟨_, rfl, ?_⟩; clear S a; intro a S; replace M := M1; rw [ht0] at S M
  refine st_y S rfl rfl rfl (y_int S rfl rfl rfl) ?_; clear S a; intro a S
  refine st_y S rfl rfl rfl (y_conv (k' := .i8) S rfl (by kernel_rfl) (by kernel_rfl)) ?_; clear S a; intro a S
  rw [and127 hbd, hkk] at S
  refine st_y S rfl rfl rfl (y_build (ps := [(0, (Operand.tmp 12))]) (pl := [(0, 1), (1, 3), (4, 1), (5, 1), (6, 1), (7, 1), (8, 1), (9, 2), (11, 1)]) (z := [.int .i8 0, .int .i64 0, .int .i64 0, .int .i64 0, .bool false, .slice none 0 0, .int .i64 0, .int .i64 0, .int .i64 0, .int .i64 0, .int .i64 0, .int .i64 0]) (cs := [_, _, _, _, _, _, _, _, _, _, _, _]) S (by kernel_rfl) rfl rfl) ?_; clear S a; intro a S
  refine st_alloc S M rfl rfl #[.int .i8 0, .int .i64 0, .int .i64 0, .int .i64 0, .bool false, .slice none 0 0, .int .i64 0, .int .i64 0, .int .i64 0, .int .i64 0, .int .i64 0, .int .i64 0] (by kernel_rfl) ?_; clear S M a; intro a w4 bC S M hB
  refine st_store (sz := 12) (us := [_, _, _, _, _, _, _, _, _, _, _, _]) S M 0 rfl (by kernel_rfl) rfl rfl rfl rfl rfl rfl (by first | decide | (simp; done) | (simp; omega)) ?_; clear M; intro w5 M
  simp only [putL, List.set_cons_zero, List.set_cons_succ, Nat.reduceAdd] at M
  refine wpList_nil ?_
  replace S := S.sub [(0, _), (2, _), (3, _), (4, _), (5, _)] rfl
  refine then_normal ?_
  refine wp_seq ?_
  refine wp_seq ?_
  -- region 3 ref.go:235
  refine wp_region_lit ?_
  refine st_y S rfl rfl rfl (y_move S rfl) ?_; clear S a; intro a S
  refine st_y S rfl rfl rfl (y_lenR (E := 5) S rfl (M.arg hv) (by kernel_rfl)) ?_; clear S a; intro a S
  refine st_y S rfl rfl rfl (y_int S rfl rfl rfl) ?_; clear S a; intro a S
  refine st_y S rfl rfl rfl (y_move S rfl) ?_; clear S a; intro a S
  refine st_split (t := 17) S rfl ?_ ?_
  · clear S; intro h17 S
    first | replace h17 := nrmA h17 | replace h17 := nrmB h17 | skip
    first | replace h17 := nrm1 h17 | replace h17 := nrm2 h17 | replace h17 := nrm3 h17 | replace h17 := nrm4 h17 | replace h17 := nrm5 h17 | replace h17 := nrm6 h17 | replace h17 := of_decide_eq_true h17 | replace h17 := of_decide_eq_false h17 | skip
    obtain ⟨b, hb0⟩ : ∃ b, bs[0]? = some b := ⟨_, List.getElem?_eq_getElem (by omega)⟩
    refine st_y S rfl rfl rfl (y_move S rfl) ?_; clear S a; intro a S
    refine st_y S rfl rfl rfl (y_indexR (e := 5) (sz := 1) S (by kernel_rfl) rfl (M.arg hv) rfl (by first | omega | (simp; done) | (simp; omega))) ?_; clear S a; intro a S
    refine st_y S rfl rfl rfl (y_load S (by kernel_rfl) rfl ((M.arg hv).byte (i := 0) hb0)) ?_; clear S a; intro a S
    refine st_y S rfl rfl rfl (y_int S rfl rfl rfl) ?_; clear S a; intro a S
    refine st_y S rfl rfl rfl (y_pickT S rfl rfl) ?_; clear S a; intro a S
    refine wpList_nil ?_
    replace S := S.sub [(0, _), (2, _), (3, _), (4, _), (5, _), (22, _)] rfl
    refine then_normal ?_
    refine st_split (t := 22) S rfl ?_ ?_
    · clear S; intro h22 S
      first | replace h22 := nrmA h22 | replace h22 := nrmB h22 | skip
      first | replace h22 := nrm1 h22 | replace h22 := nrm2 h22 | replace h22 := nrm3 h22 | replace h22 := nrm4 h22 | replace h22 := nrm5 h22 | replace h22 := nrm6 h22 | replace h22 := of_decide_eq_true h22 | replace h22 := of_decide_eq_false h22 | skip
      refine st_condT S rfl ?_
      refine wp_seq ?_
      -- region 4 ref.go:236
      refine wp_region_lit ?_
      refine st_y S rfl rfl rfl (y_build (ps := []) (pl := [(0, 1), (1, 3), (4, 1), (5, 1), (6, 1), (7, 1), (8, 1), (9, 2), (11, 1)]) (z := [.int .i8 0, .int .i64 0, .int .i64 0, .int .i64 0, .bool false, .slice none 0 0, .int .i64 0, .int .i64 0, .int .i64 0, .int .i64 0, .int .i64 0, .int .i64 0]) (cs := [_, _, _, _, _, _, _, _, _, _, _, _]) S (by kernel_rfl) rfl rfl) ?_; clear S a; intro a S
      refine st_store (sz := 12) (us := [_, _, _, _, _, _, _, _, _, _, _, _]) S M 2 rfl (by kernel_rfl) rfl rfl rfl rfl rfl rfl (by first | decide | (simp; done) | (simp; omega)) ?_; clear M; intro w6 M
      simp only [putL, List.set_cons_zero, List.set_cons_succ, Nat.reduceAdd] at M
      refine st_y S rfl rfl rfl (y_assign S rfl) ?_; clear S a; intro a S
      refine wpList_nil ?_
      replace S := S.sub [(0, _), (2, _), (4, _), (5, _), (22, _), (3, _)] rfl
      refine then_normal ?_
      refine wp_ret ?_
      refine then_ret ?_
      refine end_two S rfl (res_agg (cs := [_, _, _, _, _, _, _, _, _, _, _, _]) (by kernel_rfl) rfl rfl (M.cellsAt (k := 12) 2 rfl rfl)) (res_tmp rfl) ?_
      refine ⟨Rc.zero, [], .slice none 0 0, 40, rfl, M.freshNil _ _, .inr ⟨rfl, rfl, rfl, rfl, fun r x hm => read_no (fun c hc => ?_) r x hm⟩⟩
      rw [hb0] at hc; cases hc; omega
    · clear S; intro h22 S
      first | replace h22 := nrmA h22 | replace h22 := nrmB h22 | skip
      first | replace h22 := nrm1 h22 | replace h22 := nrm2 h22 | replace h22 := nrm3 h22 | replace h22 := nrm4 h22 | replace h22 := nrm5 h22 | replace h22 := nrm6 h22 | replace h22 := of_decide_eq_true h22 | replace h22 := of_decide_eq_false h22 | skip
      refine st_condF S rfl ?_
      refine wp_skip ?_
      refine then_normal ?_
      refine wp_cut (fun a w' => Sees 95 a [(0, .slice va bs.length vc), (2, .pointer (some ⟨bO, 0, none⟩)), (4, .pointer (some ⟨bR, 0, none⟩)), (5, .pointer (some ⟨bC, 0, none⟩))] ∧ (∀ b, bs[0]? = some b → b.toNat ≤ 127) ∧ CutP bs kk t0.2 w bO bR bC (.slice va bs.length vc) w') ?_ ?_
      · skip
        refine wp_seq ?_
        -- region 5 ref.go:238
        have h127 : ∀ b, bs[0]? = some b → b.toNat ≤ 127 := fun b hb => by
          first
            | (rw [hb0] at hb; cases hb; omega)
            | (have := (List.getElem?_eq_some_iff.1 hb).1; omega)
        refine wp_region_lit ?_
        refine st_y S rfl rfl rfl (y_fieldAddr (k := 0) S (by kernel_rfl) rfl) ?_; clear S a; intro a S
        refine st_y S rfl rfl rfl (y_load S (by kernel_rfl) rfl (M.cell 0 rfl rfl)) ?_; clear S a; intro a S
        refine st_y S rfl rfl rfl (y_int S rfl rfl rfl) ?_; clear S a; intro a S
        refine st_y S rfl rfl rfl (y_move S rfl) ?_; clear S a; intro a S
        refine st_split (t := 27) S rfl ?_ ?_
        · clear S; intro h27 S
          first | replace h27 := nrmA h27 | replace h27 := nrmB h27 | skip
          first | replace h27 := nrm1 h27 | replace h27 := nrm2 h27 | replace h27 := nrm3 h27 | replace h27 := nrm4 h27 | replace h27 := nrm5 h27 | replace h27 := nrm6 h27 | replace h27 := of_decide_eq_true h27 | replace h27 := of_decide_eq_false h27 | skip
          refine st_no S rfl rfl rfl ?_; clear S a; intro a S
          refine st_no S rfl rfl rfl ?_; clear S a; intro a S
          refine st_no S rfl rfl rfl ?_; clear S a; intro a S
          refine st_y S rfl rfl rfl (y_pickT S rfl rfl) ?_; clear S a; intro a S
          refine wpList_nil ?_
          replace S := S.sub [(0, _), (2, _), (3, _), (4, _), (5, _), (22, _), (31, _)] rfl
          refine then_normal ?_
          refine st_condT S rfl ?_
          -- region 6 ref.go:239
          refine wp_region_lit ?_
          refine st_y S rfl rfl rfl (y_move S rfl) ?_; clear S a; intro a S
          replace M := M.front 1 rfl
          simp only [List.eraseIdx_cons_succ, List.eraseIdx_cons_zero] at M
          refine st_call (xs := [(Operand.tmp 32)]) S (enters_of Try.func31 (by decide) rfl) rfl rfl rfl (threeR_any M hv) ?_
          rintro _ w7 ⟨rfl, M1⟩; refine ⟨_, rfl, ?_⟩; clear S a; intro a S; replace M := M1
          refine st_y S rfl rfl rfl (y_fieldAddr (k := 11) S (by kernel_rfl) rfl) ?_; clear S a; intro a S
          refine st_store (sz := 1) (us := [_]) S M 1 rfl (by kernel_rfl) rfl rfl rfl rfl rfl rfl (by first | decide | (simp; done) | (simp; omega)) ?_; clear M; intro w8 M
          simp only [putL, List.set_cons_zero, List.set_cons_succ, Nat.reduceAdd] at M
          refine wpList_nil ?_
          replace S := S.sub [(0, _), (2, _), (3, _), (4, _), (5, _), (22, _), (31, _)] rfl
          refine then_normal ?_
          refine ⟨S.sub _ rfl, h127, ?_⟩
          unfold CutP rBody
          first
            | (rw [if_pos (by omega)]; exact ⟨_, _, _, M.rowNil _ _⟩)
            | (rw [if_neg (by omega), if_pos (by assumption)]; exact ⟨_, _, _, M⟩)
            | (rw [if_neg (by omega), if_neg (by omega), if_pos (by assumption)]; exact ⟨_, _, _, M.front 1 rfl⟩)
            | (rw [if_neg (by omega), if_neg (by omega), if_neg (by omega), if_pos (by assumption)]; exact ⟨_, _, _, M.rowNil _ _⟩)
            | (rw [if_neg (by omega), if_neg (by omega), if_neg (by omega), if_neg (by omega), if_pos (by assumption)]; exact ⟨_, _, _, M.rowNil _ _⟩)
            | (rw [if_neg (by omega), if_neg (by omega), if_neg (by omega), if_neg (by omega), if_neg (by omega)]; exact ⟨_, _, _, M.rowNil _ _⟩)
        · clear S; intro h27 S
          first | replace h27 := nrmA h27 | replace h27 := nrmB h27 | skip
          first | replace h27 := nrm1 h27 | replace h27 := nrm2 h27 | replace h27 := nrm3 h27 | replace h27 := nrm4 h27 | replace h27 := nrm5 h27 | replace h27 := nrm6 h27 | replace h27 := of_decide_eq_true h27 | replace h27 := of_decide_eq_false h27 | skip
          refine st_y S rfl rfl rfl (y_fieldAddr (k := 0) S (by kernel_rfl) rfl) ?_; clear S a; intro a S
          refine st_y S rfl rfl rfl (y_load S (by kernel_rfl) rfl (M.cell 0 rfl rfl)) ?_; clear S a; intro a S
          refine st_y S rfl rfl rfl (y_int S rfl rfl rfl) ?_; clear S a; intro a S
          refine st_y S rfl rfl rfl (y_pickF S rfl rfl) ?_; clear S a; intro a S
          refine wpList_nil ?_
          replace S := S.sub [(0, _), (2, _), (3, _), (4, _), (5, _), (22, _), (31, _)] rfl
          refine then_normal ?_
          refine st_split (t := 31) S rfl ?_ ?_
          · clear S; intro h31 S
            first | replace h31 := nrmA h31 | replace h31 := nrmB h31 | skip
            first | replace h31 := nrm1 h31 | replace h31 := nrm2 h31 | replace h31 := nrm3 h31 | replace h31 := nrm4 h31 | replace h31 := nrm5 h31 | replace h31 := nrm6 h31 | replace h31 := of_decide_eq_true h31 | replace h31 := of_decide_eq_false h31 | skip
            refine st_condT S rfl ?_
            -- region 6 ref.go:239
            refine wp_region_lit ?_
            refine st_y S rfl rfl rfl (y_move S rfl) ?_; clear S a; intro a S
            replace M := M.front 1 rfl
            simp only [List.eraseIdx_cons_succ, List.eraseIdx_cons_zero] at M
            refine st_call (xs := [(Operand.tmp 32)]) S (enters_of Try.func31 (by decide) rfl) rfl rfl rfl (threeR_any M hv) ?_
            rintro _ w9 ⟨rfl, M1⟩; refine ⟨_, rfl, ?_⟩; clear S a; intro a S; replace M := M1
            refine st_y S rfl rfl rfl (y_fieldAddr (k := 11) S (by kernel_rfl) rfl) ?_; clear S a; intro a S
            refine st_store (sz := 1) (us := [_]) S M 1 rfl (by kernel_rfl) rfl rfl rfl rfl rfl rfl (by first | decide | (simp; done) | (simp; omega)) ?_; clear M; intro w10 M
            simp only [putL, List.set_cons_zero, List.set_cons_succ, Nat.reduceAdd] at M
            refine wpList_nil ?_
            replace S := S.sub [(0, _), (2, _), (3, _), (4, _), (5, _), (22, _), (31, _)] rfl
            refine then_normal ?_
            refine ⟨S.sub _ rfl, h127, ?_⟩
            unfold CutP rBody
            first
              | (rw [if_pos (by omega)]; exact ⟨_, _, _, M.rowNil _ _⟩)
              | (rw [if_neg (by omega), if_pos (by assumption)]; exact ⟨_, _, _, M⟩)
              | (rw [if_neg (by omega), if_neg (by omega), if_pos (by assumption)]; exact ⟨_, _, _, M.front 1 rfl⟩)
              | (rw [if_neg (by omega), if_neg (by omega), if_neg (by omega), if_pos (by assumption)]; exact ⟨_, _, _, M.rowNil _ _⟩)
              | (rw [if_neg (by omega), if_neg (by omega), if_neg (by omega), if_neg (by omega), if_pos (by assumption)]; exact ⟨_, _, _, M.rowNil _ _⟩)
              | (rw [if_neg (by omega), if_neg (by omega), if_neg (by omega), if_neg (by omega), if_neg (by omega)]; exact ⟨_, _, _, M.rowNil _ _⟩)
          · clear S; intro h31 S
            first | replace h31 := nrmA h31 | replace h31 := nrmB h31 | skip
            first | replace h31 := nrm1 h31 | replace h31 := nrm2 h31 | replace h31 := nrm3 h31 | replace h31 := nrm4 h31 | replace h31 := nrm5 h31 | replace h31 := nrm6 h31 | replace h31 := of_decide_eq_true h31 | replace h31 := of_decide_eq_false h31 | skip
            refine st_condF S rfl ?_
            refine wp_seq ?_
            -- region 7 ref.go:241
            refine wp_region_lit ?_
            refine st_y S rfl rfl rfl (y_move S rfl) ?_; clear S a; intro a S
            replace M := M.front 1 rfl
            simp only [List.eraseIdx_cons_succ, List.eraseIdx_cons_zero] at M
            refine st_call (xs := [(Operand.tmp 35)]) S (enters_of Try.func32 (by decide) rfl) rfl rfl rfl (nameR_any M hv) ?_
            rintro _ w11 ⟨rfl, M1⟩; refine ⟨_, rfl, ?_⟩; clear S a; intro a S; replace M := M1
            refine st_y S rfl rfl rfl (y_fieldAddr (k := 1) S (by kernel_rfl) rfl) ?_; clear S a; intro a S
            refine st_store (sz := 3) (us := [_, _, _]) S M 1 rfl (by kernel_rfl) rfl rfl rfl rfl rfl rfl (by first | decide | (simp; done) | (simp; omega)) ?_; clear M; intro w12 M
            simp only [putL, List.set_cons_zero, List.set_cons_succ, Nat.reduceAdd] at M
            refine wpList_nil ?_
            replace S := S.sub [(0, _), (2, _), (3, _), (4, _), (5, _), (22, _), (31, _)] rfl
            refine then_normal ?_
            refine wp_seq ?_
            -- region 8 ref.go:242
            refine wp_region_lit ?_
            refine st_y S rfl rfl rfl (y_fieldAddr (k := 0) S (by kernel_rfl) rfl) ?_; clear S a; intro a S
            refine st_y S rfl rfl rfl (y_load S (by kernel_rfl) rfl (M.cell 1 rfl rfl)) ?_; clear S a; intro a S
            refine wpList_nil ?_
            replace S := S.sub [(0, _), (2, _), (3, _), (4, _), (5, _), (22, _), (31, _), (39, _)] rfl
            refine then_normal ?_
            refine wp_block ?_
            refine wp_seq ?_
            -- region 9 ref.go:243
            refine wp_region_lit ?_
            refine st_y S rfl rfl rfl (y_int S rfl rfl rfl) ?_; clear S a; intro a S
            refine st_y S rfl rfl rfl (y_assign S rfl) ?_; clear S a; intro a S
            refine wpList_nil ?_
            replace S := S.sub [(0, _), (2, _), (3, _), (4, _), (5, _), (22, _), (31, _), (39, _), (40, _)] rfl
            refine then_normal ?_
            refine st_split (t := 40) S rfl ?_ ?_
            · clear S; intro h40 S
              first | replace h40 := nrmA h40 | replace h40 := nrmB h40 | skip
              first | replace h40 := nrm1 h40 | replace h40 := nrm2 h40 | replace h40 := nrm3 h40 | replace h40 := nrm4 h40 | replace h40 := nrm5 h40 | replace h40 := nrm6 h40 | replace h40 := of_decide_eq_true h40 | replace h40 := of_decide_eq_false h40 | skip
              refine st_condT S rfl ?_
              -- region 10 ref.go:244
              refine wp_region_lit ?_
              refine st_y S rfl rfl rfl (y_move S rfl) ?_; clear S a; intro a S
              refine st_call (xs := [(Operand.tmp 42)]) S (enters_of Try.func33 (by decide) rfl) rfl rfl rfl (writesR_any M hv) ?_
              rintro _ w13 ⟨v1, lo1, hi1, rfl, M1⟩; refine ⟨_, rfl, ?_⟩; clear S a; intro a S; replace M := M1
              obtain ⟨ad, cp, hE', -, -⟩ := (M.readRow 0 rfl (by have := rWs_len bs (rNm bs t0.2).2; unfold maxLen; omega)).form
              subst hE'
              refine st_y S rfl rfl rfl (y_fieldAddr (k := 5) S (by kernel_rfl) rfl) ?_; clear S a; intro a S
              refine st_store (sz := 1) (us := [_]) S M 2 rfl (by kernel_rfl) rfl rfl rfl rfl rfl rfl (by first | decide | (simp; done) | (simp; omega)) ?_; clear M; intro w14 M
              simp only [putL, List.set_cons_zero, List.set_cons_succ, Nat.reduceAdd] at M
              refine wpList_nil ?_
              replace S := S.sub [(0, _), (2, _), (3, _), (4, _), (5, _), (22, _), (31, _), (39, _), (40, _)] rfl
              refine block_normal ?_
              refine then_normal ?_
              refine ⟨S.sub _ rfl, h127, ?_⟩
              unfold CutP rBody
              first
                | (rw [if_pos (by omega)]; exact ⟨_, _, _, M.rowNil _ _⟩)
                | (rw [if_neg (by omega), if_pos (by assumption)]; exact ⟨_, _, _, M⟩)
                | (rw [if_neg (by omega), if_neg (by omega), if_pos (by assumption)]; exact ⟨_, _, _, M.front 1 rfl⟩)
                | (rw [if_neg (by omega), if_neg (by omega), if_neg (by omega), if_pos (by assumption)]; exact ⟨_, _, _, M.rowNil _ _⟩)
                | (rw [if_neg (by omega), if_neg (by omega), if_neg (by omega), if_neg (by omega), if_pos (by assumption)]; exact ⟨_, _, _, M.rowNil _ _⟩)
                | (rw [if_neg (by omega), if_neg (by omega), if_neg (by omega), if_neg (by omega), if_neg (by omega)]; exact ⟨_, _, _, M.rowNil _ _⟩)
            · clear S; intro h40 S
              first | replace h40 := nrmA h40 | replace h40 := nrmB h40 | skip
              first | replace h40 := nrm1 h40 | replace h40 := nrm2 h40 | replace h40 := nrm3 h40 | replace h40 := nrm4 h40 | replace h40 := nrm5 h40 | replace h40 := nrm6 h40 | replace h40 := of_decide_eq_true h40 | replace h40 := of_decide_eq_false h40 | skip
              refine st_condF S rfl ?_
              refine wp_seq ?_
              -- region 11 ref.go:245
              refine wp_region_lit ?_
              refine st_y S rfl rfl rfl (y_int S rfl rfl rfl) ?_; clear S a; intro a S
              refine st_y S rfl rfl rfl (y_assign S rfl) ?_; clear S a; intro a S
              refine wpList_nil ?_
              replace S := S.sub [(0, _), (2, _), (3, _), (4, _), (5, _), (22, _), (31, _), (39, _), (40, _), (45, _)] rfl
              refine then_normal ?_
              refine st_split (t := 45) S rfl ?_ ?_
              · clear S; intro h45 S
                first | replace h45 := nrmA h45 | replace h45 := nrmB h45 | skip
                first | replace h45 := nrm1 h45 | replace h45 := nrm2 h45 | replace h45 := nrm3 h45 | replace h45 := nrm4 h45 | replace h45 := nrm5 h45 | replace h45 := nrm6 h45 | replace h45 := of_decide_eq_true h45 | replace h45 := of_decide_eq_false h45 | skip
                refine st_condT S rfl ?_
                refine wp_seq ?_
                -- region 12 ref.go:246
                refine wp_region_lit ?_
                refine st_y S rfl rfl rfl (y_move S rfl) ?_; clear S a; intro a S
                refine st_call (xs := [(Operand.tmp 47)]) S (enters_of Try.func33 (by decide) rfl) rfl rfl rfl (writesR_any M hv) ?_
                rintro _ w15 ⟨v1, lo1, hi1, rfl, M1⟩; refine ⟨_, rfl, ?_⟩; clear S a; intro a S; replace M := M1
                obtain ⟨ad, cp, hE', -, -⟩ := (M.readRow 0 rfl (by have := rWs_len bs (rNm bs t0.2).2; unfold maxLen; omega)).form
                subst hE'
                refine st_y S rfl rfl rfl (y_fieldAddr (k := 5) S (by kernel_rfl) rfl) ?_; clear S a; intro a S
                refine st_store (sz := 1) (us := [_]) S M 2 rfl (by kernel_rfl) rfl rfl rfl rfl rfl rfl (by first | decide | (simp; done) | (simp; omega)) ?_; clear M; intro w16 M
                simp only [putL, List.set_cons_zero, List.set_cons_succ, Nat.reduceAdd] at M
                refine wpList_nil ?_
                replace S := S.sub [(0, _), (2, _), (3, _), (4, _), (5, _), (22, _), (31, _), (39, _), (40, _), (45, _)] rfl
                refine then_normal ?_
                refine wp_seq ?_
                -- region 13 ref.go:247
                refine wp_region_lit ?_
                replace M := M.front 1 rfl
                simp only [List.eraseIdx_cons_succ, List.eraseIdx_cons_zero] at M
                refine st_y S rfl rfl rfl (y_move S rfl) ?_; clear S a; intro a S
                refine st_call (xs := [(Operand.tmp 50)]) S (enters_of Try.func30 (by decide) rfl) rfl rfl rfl (byte_any M hv) ?_
                rintro _ w17 ⟨rfl, M1⟩; refine ⟨_, rfl, ?_⟩; clear S a; intro a S; replace M := M1
                refine st_y S rfl rfl rfl (y_fieldAddr (k := 6) S (by kernel_rfl) rfl) ?_; clear S a; intro a S
                refine st_store (sz := 1) (us := [_]) S M 2 rfl (by kernel_rfl) rfl rfl rfl rfl rfl rfl (by first | decide | (simp; done) | (simp; omega)) ?_; clear M; intro w18 M
                simp only [putL, List.set_cons_zero, List.set_cons_succ, Nat.reduceAdd] at M
                refine wpList_nil ?_
                replace S := S.sub [(0, _), (2, _), (3, _), (4, _), (5, _), (22, _), (31, _), (39, _), (40, _), (45, _)] rfl
                refine then_normal ?_
                -- region 14 ref.go:248
                refine wp_region_lit ?_
                refine st_y S rfl rfl rfl (y_move S rfl) ?_; clear S a; intro a S
                refine st_call (xs := [(Operand.tmp 53)]) S (enters_of Try.func30 (by decide) rfl) rfl rfl rfl (byte_any M hv) ?_
                rintro _ w19 ⟨rfl, M1⟩; refine ⟨_, rfl, ?_⟩; clear S a; intro a S; replace M := M1
                refine st_y S rfl rfl rfl (y_fieldAddr (k := 7) S (by kernel_rfl) rfl) ?_; clear S a; intro a S
                refine st_store (sz := 1) (us := [_]) S M 2 rfl (by kernel_rfl) rfl rfl rfl rfl rfl rfl (by first | decide | (simp; done) | (simp; omega)) ?_; clear M; intro w20 M
                simp only [putL, List.set_cons_zero, List.set_cons_succ, Nat.reduceAdd] at M
                refine wpList_nil ?_
                replace S := S.sub [(0, _), (2, _), (3, _), (4, _), (5, _), (22, _), (31, _), (39, _), (40, _), (45, _)] rfl
                refine block_normal ?_
                refine then_normal ?_
                refine ⟨S.sub _ rfl, h127, ?_⟩
                unfold CutP rBody
                first
                  | (rw [if_pos (by omega)]; exact ⟨_, _, _, M.rowNil _ _⟩)
                  | (rw [if_neg (by omega), if_pos (by assumption)]; exact ⟨_, _, _, M⟩)
                  | (rw [if_neg (by omega), if_neg (by omega), if_pos (by assumption)]; exact ⟨_, _, _, M.front 1 rfl⟩)
                  | (rw [if_neg (by omega), if_neg (by omega), if_neg (by omega), if_pos (by assumption)]; exact ⟨_, _, _, M.rowNil _ _⟩)
                  | (rw [if_neg (by omega), if_neg (by omega), if_neg (by omega), if_neg (by omega), if_pos (by assumption)]; exact ⟨_, _, _, M.rowNil _ _⟩)
                  | (rw [if_neg (by omega), if_neg (by omega), if_neg (by omega), if_neg (by omega), if_neg (by omega)]; exact ⟨_, _, _, M.rowNil _ _⟩)
              · clear S; intro h45 S
                first | replace h45 := nrmA h45 | replace h45 := nrmB h45 | skip
                first | replace h45 := nrm1 h45 | replace h45 := nrm2 h45 | replace h45 := nrm3 h45 | replace h45 := nrm4 h45 | replace h45 := nrm5 h45 | replace h45 := nrm6 h45 | replace h45 := of_decide_eq_true h45 | replace h45 := of_decide_eq_false h45 | skip
                refine st_condF S rfl ?_
                refine wp_seq ?_
                -- region 15 ref.go:249
                refine wp_region_lit ?_
                refine st_y S rfl rfl rfl (y_int S rfl rfl rfl) ?_; clear S a; intro a S
                refine st_y S rfl rfl rfl (y_assign S rfl) ?_; clear S a; intro a S
                refine wpList_nil ?_
                replace S := S.sub [(0, _), (2, _), (3, _), (4, _), (5, _), (22, _), (31, _), (39, _), (40, _), (45, _), (56, _)] rfl
                refine then_normal ?_
                refine st_split (t := 56) S rfl ?_ ?_
                · clear S; intro h56 S
                  first | replace h56 := nrmA h56 | replace h56 := nrmB h56 | skip
                  first | replace h56 := nrm1 h56 | replace h56 := nrm2 h56 | replace h56 := nrm3 h56 | replace h56 := nrm4 h56 | replace h56 := nrm5 h56 | replace h56 := nrm6 h56 | replace h56 := of_decide_eq_true h56 | replace h56 := of_decide_eq_false h56 | skip
                  refine st_condT S rfl ?_
                  -- region 16 ref.go:250
                  refine wp_region_lit ?_
                  refine st_y S rfl rfl rfl (y_move S rfl) ?_; clear S a; intro a S
                  refine st_call (xs := [(Operand.tmp 58)]) S (enters_of Try.func34 (by decide) rfl) rfl rfl rfl (flagR_any M hv) ?_
                  rintro _ w21 ⟨rfl, M1⟩; refine ⟨_, rfl, ?_⟩; clear S a; intro a S; replace M := M1
                  refine st_y S rfl rfl rfl (y_fieldAddr (k := 4) S (by kernel_rfl) rfl) ?_; clear S a; intro a S
                  refine st_store (sz := 1) (us := [_]) S M 1 rfl (by kernel_rfl) rfl rfl rfl rfl rfl rfl (by first | decide | (simp; done) | (simp; omega)) ?_; clear M; intro w22 M
                  simp only [putL, List.set_cons_zero, List.set_cons_succ, Nat.reduceAdd] at M
                  refine wpList_nil ?_
                  replace S := S.sub [(0, _), (2, _), (3, _), (4, _), (5, _), (22, _), (31, _), (39, _), (40, _), (45, _), (56, _)] rfl
                  refine block_normal ?_
                  refine then_normal ?_
                  refine ⟨S.sub _ rfl, h127, ?_⟩
                  unfold CutP rBody
                  first
                    | (rw [if_pos (by omega)]; exact ⟨_, _, _, M.rowNil _ _⟩)
                    | (rw [if_neg (by omega), if_pos (by assumption)]; exact ⟨_, _, _, M⟩)
                    | (rw [if_neg (by omega), if_neg (by omega), if_pos (by assumption)]; exact ⟨_, _, _, M.front 1 rfl⟩)
                    | (rw [if_neg (by omega), if_neg (by omega), if_neg (by omega), if_pos (by assumption)]; exact ⟨_, _, _, M.rowNil _ _⟩)
                    | (rw [if_neg (by omega), if_neg (by omega), if_neg (by omega), if_neg (by omega), if_pos (by assumption)]; exact ⟨_, _, _, M.rowNil _ _⟩)
                    | (rw [if_neg (by omega), if_neg (by omega), if_neg (by omega), if_neg (by omega), if_neg (by omega)]; exact ⟨_, _, _, M.rowNil _ _⟩)
                · clear S; intro h56 S
                  first | replace h56 := nrmA h56 | replace h56 := nrmB h56 | skip
                  first | replace h56 := nrm1 h56 | replace h56 := nrm2 h56 | replace h56 := nrm3 h56 | replace h56 := nrm4 h56 | replace h56 := nrm5 h56 | replace h56 := nrm6 h56 | replace h56 := of_decide_eq_true h56 | replace h56 := of_decide_eq_false h56 | skip
                  refine st_condF S rfl ?_
                  refine wp_seq ?_
                  -- region 17 ref.go:251
                  refine wp_region_lit ?_
                  refine st_y S rfl rfl rfl (y_int S rfl rfl rfl) ?_; clear S a; intro a S
                  refine st_y S rfl rfl rfl (y_assign S rfl) ?_; clear S a; intro a S
                  refine wpList_nil ?_
                  replace S := S.sub [(0, _), (2, _), (3, _), (4, _), (5, _), (22, _), (31, _), (39, _), (40, _), (45, _), (56, _), (61, _)] rfl
                  refine then_normal ?_
                  refine st_split (t := 61) S rfl ?_ ?_
                  · clear S; intro h61 S
                    first | replace h61 := nrmA h61 | replace h61 := nrmB h61 | skip
                    first | replace h61 := nrm1 h61 | replace h61 := nrm2 h61 | replace h61 := nrm3 h61 | replace h61 := nrm4 h61 | replace h61 := nrm5 h61 | replace h61 := nrm6 h61 | replace h61 := of_decide_eq_true h61 | replace h61 := of_decide_eq_false h61 | skip
                    refine st_condT S rfl ?_
                    refine wp_seq ?_
                    -- region 18 ref.go:252
                    refine wp_region_lit ?_
                    refine st_y S rfl rfl rfl (y_move S rfl) ?_; clear S a; intro a S
                    refine st_call (xs := [(Operand.tmp 63)]) S (enters_of Try.func30 (by decide) rfl) rfl rfl rfl (byte_any M hv) ?_
                    rintro _ w23 ⟨rfl, M1⟩; refine ⟨_, rfl, ?_⟩; clear S a; intro a S; replace M := M1
                    refine st_y S rfl rfl rfl (y_fieldAddr (k := 8) S (by kernel_rfl) rfl) ?_; clear S a; intro a S
                    refine st_store (sz := 1) (us := [_]) S M 1 rfl (by kernel_rfl) rfl rfl rfl rfl rfl rfl (by first | decide | (simp; done) | (simp; omega)) ?_; clear M; intro w24 M
                    simp only [putL, List.set_cons_zero, List.set_cons_succ, Nat.reduceAdd] at M
                    refine wpList_nil ?_
                    replace S := S.sub [(0, _), (2, _), (3, _), (4, _), (5, _), (22, _), (31, _), (39, _), (40, _), (45, _), (56, _), (61, _)] rfl
                    refine then_normal ?_
                    refine wp_seq ?_
                    -- region 19 ref.go:253
                    refine wp_region_lit ?_
                    refine st_y S rfl rfl rfl (y_move S rfl) ?_; clear S a; intro a S
                    refine st_call (xs := [(Operand.tmp 66)]) S (enters_of Try.func30 (by decide) rfl) rfl rfl rfl (byte_any M hv) ?_
                    rintro _ w25 ⟨rfl, M1⟩; refine ⟨_, rfl, ?_⟩; clear S a; intro a S; replace M := M1
                    have hbd2 := tk1_bd bs (tk bs 1 (rNm bs t0.2).2).2
                    (first | refine st_y S rfl rfl rfl (y_subN S rfl rfl (by omega)) ?_ | refine st_y S rfl rfl rfl (y_int S rfl rfl rfl) ?_); clear S a; intro a S
                    refine st_y S rfl rfl rfl (y_fieldAddr (k := 9) S (by kernel_rfl) rfl) ?_; clear S a; intro a S
                    refine st_y S rfl rfl rfl (y_fieldAddr (k := 0) S (by kernel_rfl) rfl) ?_; clear S a; intro a S
                    refine st_store (sz := 1) (us := [_]) S M 1 rfl (by kernel_rfl) rfl rfl rfl rfl rfl rfl (by first | decide | (simp; done) | (simp; omega)) ?_; clear M; intro w26 M
                    simp only [putL, List.set_cons_zero, List.set_cons_succ, Nat.reduceAdd] at M
                    refine wpList_nil ?_
                    replace S := S.sub [(0, _), (2, _), (3, _), (4, _), (5, _), (22, _), (31, _), (39, _), (40, _), (45, _), (56, _), (61, _)] rfl
                    refine then_normal ?_
                    -- region 20 ref.go:254
                    refine wp_region_lit ?_
                    refine st_y S rfl rfl rfl (y_move S rfl) ?_; clear S a; intro a S
                    refine st_call (xs := [(Operand.tmp 71)]) S (enters_of Try.func30 (by decide) rfl) rfl rfl rfl (byte_any M hv) ?_
                    rintro _ w27 ⟨rfl, M1⟩; refine ⟨_, rfl, ?_⟩; clear S a; intro a S; replace M := M1
                    refine st_y S rfl rfl rfl (y_fieldAddr (k := 9) S (by kernel_rfl) rfl) ?_; clear S a; intro a S
                    refine st_y S rfl rfl rfl (y_fieldAddr (k := 1) S (by kernel_rfl) rfl) ?_; clear S a; intro a S
                    refine st_store (sz := 1) (us := [_]) S M 1 rfl (by kernel_rfl) rfl rfl rfl rfl rfl rfl (by first | decide | (simp; done) | (simp; omega)) ?_; clear M; intro w28 M
                    simp only [putL, List.set_cons_zero, List.set_cons_succ, Nat.reduceAdd] at M
                    refine wpList_nil ?_
                    replace S := S.sub [(0, _), (2, _), (3, _), (4, _), (5, _), (22, _), (31, _), (39, _), (40, _), (45, _), (56, _), (61, _)] rfl
                    refine block_normal ?_
                    refine then_normal ?_
                    refine ⟨S.sub _ rfl, h127, ?_⟩
                    unfold CutP rBody
                    first
                      | (rw [if_pos (by omega)]; exact ⟨_, _, _, M.rowNil _ _⟩)
                      | (rw [if_neg (by omega), if_pos (by assumption)]; exact ⟨_, _, _, M⟩)
                      | (rw [if_neg (by omega), if_neg (by omega), if_pos (by assumption)]; exact ⟨_, _, _, M.front 1 rfl⟩)
                      | (rw [if_neg (by omega), if_neg (by omega), if_neg (by omega), if_pos (by assumption)]; exact ⟨_, _, _, M.rowNil _ _⟩)
                      | (rw [if_neg (by omega), if_neg (by omega), if_neg (by omega), if_neg (by omega), if_pos (by assumption)]; exact ⟨_, _, _, M.rowNil _ _⟩)
                      | (rw [if_neg (by omega), if_neg (by omega), if_neg (by omega), if_neg (by omega), if_neg (by omega)]; exact ⟨_, _, _, M.rowNil _ _⟩)
                  · clear S; intro h61 S
                    first | replace h61 := nrmA h61 | replace h61 := nrmB h61 | skip
                    first | replace h61 := nrm1 h61 | replace h61 := nrm2 h61 | replace h61 := nrm3 h61 | replace h61 := nrm4 h61 | replace h61 := nrm5 h61 | replace h61 := nrm6 h61 | replace h61 := of_decide_eq_true h61 | replace h61 := of_decide_eq_false h61 | skip
                    refine st_condF S rfl ?_
                    refine wp_skip ?_
                    refine block_normal ?_
                    refine then_normal ?_
                    refine ⟨S.sub _ rfl, h127, ?_⟩
                    unfold CutP rBody
                    first
                      | (rw [if_pos (by omega)]; exact ⟨_, _, _, M.rowNil _ _⟩)
                      | (rw [if_neg (by omega), if_pos (by assumption)]; exact ⟨_, _, _, M⟩)
                      | (rw [if_neg (by omega), if_neg (by omega), if_pos (by assumption)]; exact ⟨_, _, _, M.front 1 rfl⟩)
                      | (rw [if_neg (by omega), if_neg (by omega), if_neg (by omega), if_pos (by assumption)]; exact ⟨_, _, _, M.rowNil _ _⟩)
                      | (rw [if_neg (by omega), if_neg (by omega), if_neg (by omega), if_neg (by omega), if_pos (by assumption)]; exact ⟨_, _, _, M.rowNil _ _⟩)
                      | (rw [if_neg (by omega), if_neg (by omega), if_neg (by omega), if_neg (by omega), if_neg (by omega)]; exact ⟨_, _, _, M.rowNil _ _⟩)
      · clear S a M; intro a wc
        rintro ⟨S, h127, v', lo, hi, M⟩
        obtain ⟨q, hq⟩ : ∃ q, rBody bs kk t0.2 = q := ⟨_, rfl⟩
        have hsh := rBody_shards bs kk t0.2
        have hln := rBody_len bs kk t0.2
        rw [hq] at M hsh hln
        have hgo' : ∀ (r : Rc) (x : List Wr), r.may x = true → r.enc x = bs → q = (r, x, ⟨bs.length, false⟩) := fun r x hm he => by rw [← hq]; exact hgo r x hm he
        obtain ⟨r, x, s⟩ := q
        simp only at M hsh hln
        obtain ⟨ad, cp, hE', -, -⟩ := (M.readRow 0 rfl (by unfold maxLen; omega)).form
        subst hE'
        refine wp_seq ?_
        refine wp_seq ?_
        -- region 21 ref.go:257
        refine wp_region_lit ?_
        refine st_y S rfl rfl rfl (y_move S rfl) ?_; clear S a; intro a S
        refine st_y S rfl rfl rfl (y_nilCheck S rfl) ?_; clear S a; intro a S
        refine st_y S rfl rfl rfl (y_fieldAddr (k := 2) S (by kernel_rfl) rfl) ?_; clear S a; intro a S
        refine st_y S rfl rfl rfl (y_load S (by kernel_rfl) rfl (M.cell 1 rfl rfl)) ?_; clear S a; intro a S
        refine st_y S rfl rfl rfl (y_move S rfl) ?_; clear S a; intro a S
        refine st_split (t := 79) S rfl ?_ ?_
        · clear S; intro h79 S
          refine st_no S rfl rfl rfl ?_; clear S a; intro a S
          refine st_no S rfl rfl rfl ?_; clear S a; intro a S
          refine st_no S rfl rfl rfl ?_; clear S a; intro a S
          refine st_no S rfl rfl rfl ?_; clear S a; intro a S
          refine st_no S rfl rfl rfl ?_; clear S a; intro a S
          refine st_no S rfl rfl rfl ?_; clear S a; intro a S
          refine st_no S rfl rfl rfl ?_; clear S a; intro a S
          refine st_y S rfl rfl rfl (y_pickT S rfl rfl) ?_; clear S a; intro a S
          refine st_y S rfl rfl rfl (y_move S rfl) ?_; clear S a; intro a S
          refine st_no S rfl rfl rfl ?_; clear S a; intro a S
          refine st_no S rfl rfl rfl ?_; clear S a; intro a S
          refine st_no S rfl rfl rfl ?_; clear S a; intro a S
          refine st_y S rfl rfl rfl (y_pickT S rfl rfl) ?_; clear S a; intro a S
          refine wpList_nil ?_
          replace S := S.sub [(0, _), (2, _), (4, _), (5, _), (92, _)] rfl
          refine then_normal ?_
          refine st_condT S rfl ?_
          refine wp_seq ?_
          -- region 22 ref.go:258
          refine wp_region_lit ?_
          refine st_y S rfl rfl rfl (y_build (ps := []) (pl := [(0, 1), (1, 3), (4, 1), (5, 1), (6, 1), (7, 1), (8, 1), (9, 2), (11, 1)]) (z := [.int .i8 0, .int .i64 0, .int .i64 0, .int .i64 0, .bool false, .slice none 0 0, .int .i64 0, .int .i64 0, .int .i64 0, .int .i64 0, .int .i64 0, .int .i64 0]) (cs := [_, _, _, _, _, _, _, _, _, _, _, _]) S (by kernel_rfl) rfl rfl) ?_; clear S a; intro a S
          refine st_store (sz := 12) (us := [_, _, _, _, _, _, _, _, _, _, _, _]) S M 3 rfl (by kernel_rfl) rfl rfl rfl rfl rfl rfl (by first | decide | (simp; done) | (simp; omega)) ?_; clear M; intro w29 M
          simp only [putL, List.set_cons_zero, List.set_cons_succ, Nat.reduceAdd] at M
          refine st_y S rfl rfl rfl (y_assign S rfl) ?_; clear S a; intro a S
          refine wpList_nil ?_
          replace S := S.sub [(0, _), (2, _), (4, _), (5, _), (92, _), (3, _)] rfl
          refine then_normal ?_
          refine wp_ret ?_
          refine then_ret ?_
          refine end_two S rfl (res_agg (cs := [_, _, _, _, _, _, _, _, _, _, _, _]) (by kernel_rfl) rfl rfl (M.cellsAt (k := 12) 3 rfl rfl)) (res_tmp rfl) ?_
          refine ⟨Rc.zero, [], .slice none 0 0, 40, rfl, M.freshNil _ _, .inr ⟨rfl, rfl, rfl, rfl, fun r' x' hm he => ?_⟩⟩
          have hx := hgo' r' x' hm he
          simp only [Prod.mk.injEq] at hx
          obtain ⟨rfl, rfl, rfl⟩ := hx
          first
            | (cases h79; done)
            | (exact absurd rfl h88)
            | (rw [hm] at h92; simp at h92; done)
        · clear S; intro h79 S
          refine st_y S rfl rfl rfl (y_move S rfl) ?_; clear S a; intro a S
          refine st_y S rfl rfl rfl (y_nilCheck S rfl) ?_; clear S a; intro a S
          refine st_y S rfl rfl rfl (y_fieldAddr (k := 1) S (by kernel_rfl) rfl) ?_; clear S a; intro a S
          refine st_y S rfl rfl rfl (y_load S (by kernel_rfl) rfl (M.cell 1 rfl rfl)) ?_; clear S a; intro a S
          refine st_y S rfl rfl rfl (y_move S rfl) ?_; clear S a; intro a S
          refine st_y S rfl rfl rfl (y_lenR (E := 5) S rfl ((M.arg hv)) (by kernel_rfl)) ?_; clear S a; intro a S
          refine st_y S rfl rfl rfl (y_int S rfl rfl rfl) ?_; clear S a; intro a S
          refine st_y S rfl rfl rfl (y_pickF S rfl rfl) ?_; clear S a; intro a S
          refine st_y S rfl rfl rfl (y_move S rfl) ?_; clear S a; intro a S
          refine st_split (t := 88) S rfl ?_ ?_
          · clear S; intro h88 S
            first | replace h88 := nrmA h88 | replace h88 := nrmB h88 | skip
            first | replace h88 := nrm1 h88 | replace h88 := nrm2 h88 | replace h88 := nrm3 h88 | replace h88 := nrm4 h88 | replace h88 := nrm5 h88 | replace h88 := nrm6 h88 | replace h88 := of_decide_eq_true h88 | replace h88 := of_decide_eq_false h88 | skip
            refine st_no S rfl rfl rfl ?_; clear S a; intro a S
            refine st_no S rfl rfl rfl ?_; clear S a; intro a S
            refine st_no S rfl rfl rfl ?_; clear S a; intro a S
            refine st_y S rfl rfl rfl (y_pickT S rfl rfl) ?_; clear S a; intro a S
            refine wpList_nil ?_
            replace S := S.sub [(0, _), (2, _), (4, _), (5, _), (92, _)] rfl
            refine then_normal ?_
            refine st_condT S rfl ?_
            refine wp_seq ?_
            -- region 22 ref.go:258
            refine wp_region_lit ?_
            refine st_y S rfl rfl rfl (y_build (ps := []) (pl := [(0, 1), (1, 3), (4, 1), (5, 1), (6, 1), (7, 1), (8, 1), (9, 2), (11, 1)]) (z := [.int .i8 0, .int .i64 0, .int .i64 0, .int .i64 0, .bool false, .slice none 0 0, .int .i64 0, .int .i64 0, .int .i64 0, .int .i64 0, .int .i64 0, .int .i64 0]) (cs := [_, _, _, _, _, _, _, _, _, _, _, _]) S (by kernel_rfl) rfl rfl) ?_; clear S a; intro a S
            refine st_store (sz := 12) (us := [_, _, _, _, _, _, _, _, _, _, _, _]) S M 3 rfl (by kernel_rfl) rfl rfl rfl rfl rfl rfl (by first | decide | (simp; done) | (simp; omega)) ?_; clear M; intro w30 M
            simp only [putL, List.set_cons_zero, List.set_cons_succ, Nat.reduceAdd] at M
            refine st_y S rfl rfl rfl (y_assign S rfl) ?_; clear S a; intro a S
            refine wpList_nil ?_
            replace S := S.sub [(0, _), (2, _), (4, _), (5, _), (92, _), (3, _)] rfl
            refine then_normal ?_
            refine wp_ret ?_
            refine then_ret ?_
            refine end_two S rfl (res_agg (cs := [_, _, _, _, _, _, _, _, _, _, _, _]) (by kernel_rfl) rfl rfl (M.cellsAt (k := 12) 3 rfl rfl)) (res_tmp rfl) ?_
            refine ⟨Rc.zero, [], .slice none 0 0, 40, rfl, M.freshNil _ _, .inr ⟨rfl, rfl, rfl, rfl, fun r' x' hm he => ?_⟩⟩
            have hx := hgo' r' x' hm he
            simp only [Prod.mk.injEq] at hx
            obtain ⟨rfl, rfl, rfl⟩ := hx
            first
              | (cases h79; done)
              | (exact absurd rfl h88)
              | (rw [hm] at h92; simp at h92; done)
          · clear S; intro h88 S
            first | replace h88 := nrmA h88 | replace h88 := nrmB h88 | skip
            first | replace h88 := nrm1 h88 | replace h88 := nrm2 h88 | replace h88 := nrm3 h88 | replace h88 := nrm4 h88 | replace h88 := nrm5 h88 | replace h88 := nrm6 h88 | replace h88 := of_decide_eq_true h88 | replace h88 := of_decide_eq_false h88 | skip
            refine st_y S rfl rfl rfl (y_loadAgg (cs := [_, _, _, _, _, _, _, _, _, _, _, _]) S (by kernel_rfl) rfl rfl (M.cellsAt (k := 12) 2 rfl rfl)) ?_; clear S a; intro a S
            refine st_call (xs := [(Operand.tmp 89)]) S (enters_of Try.func19 (by decide) rfl) rfl rfl rfl (rMay_any r ad x.length cp x _ (by omega) (M.readAll 0 rfl (by unfold maxLen; omega))) ?_
            rintro _ w31 ⟨rfl, hK⟩; refine ⟨_, rfl, ?_⟩; clear S a; intro a S; replace M := M.grow hK
            refine st_y S rfl rfl rfl (y_not S rfl) ?_; clear S a; intro a S
            refine st_y S rfl rfl rfl (y_pickF S rfl rfl) ?_; clear S a; intro a S
            refine wpList_nil ?_
            replace S := S.sub [(0, _), (2, _), (4, _), (5, _), (92, _)] rfl
            refine then_normal ?_
            refine st_split (t := 92) S rfl ?_ ?_
            · clear S; intro h92 S
              refine st_condT S rfl ?_
              refine wp_seq ?_
              -- region 22 ref.go:258
              refine wp_region_lit ?_
              refine st_y S rfl rfl rfl (y_build (ps := []) (pl := [(0, 1), (1, 3), (4, 1), (5, 1), (6, 1), (7, 1), (8, 1), (9, 2), (11, 1)]) (z := [.int .i8 0, .int .i64 0, .int .i64 0, .int .i64 0, .bool false, .slice none 0 0, .int .i64 0, .int .i64 0, .int .i64 0, .int .i64 0, .int .i64 0, .int .i64 0]) (cs := [_, _, _, _, _, _, _, _, _, _, _, _]) S (by kernel_rfl) rfl rfl) ?_; clear S a; intro a S
              refine st_store (sz := 12) (us := [_, _, _, _, _, _, _, _, _, _, _, _]) S M 3 rfl (by kernel_rfl) rfl rfl rfl rfl rfl rfl (by first | decide | (simp; done) | (simp; omega)) ?_; clear M; intro w32 M
              simp only [putL, List.set_cons_zero, List.set_cons_succ, Nat.reduceAdd] at M
              refine st_y S rfl rfl rfl (y_assign S rfl) ?_; clear S a; intro a S
              refine wpList_nil ?_
              replace S := S.sub [(0, _), (2, _), (4, _), (5, _), (92, _), (3, _)] rfl
              refine then_normal ?_
              refine wp_ret ?_
              refine then_ret ?_
              refine end_two S rfl (res_agg (cs := [_, _, _, _, _, _, _, _, _, _, _, _]) (by kernel_rfl) rfl rfl (M.cellsAt (k := 12) 3 rfl rfl)) (res_tmp rfl) ?_
              refine ⟨Rc.zero, [], .slice none 0 0, 40, rfl, M.freshNil _ _, .inr ⟨rfl, rfl, rfl, rfl, fun r' x' hm he => ?_⟩⟩
              have hx := hgo' r' x' hm he
              simp only [Prod.mk.injEq] at hx
              obtain ⟨rfl, rfl, rfl⟩ := hx
              first
                | (cases h79; done)
                | (exact absurd rfl h88)
                | (rw [hm] at h92; simp at h92; done)
            · clear S; intro h92 S
              refine st_condF S rfl ?_
              refine wp_skip ?_
              refine then_normal ?_
              refine wp_seq ?_
              -- region 23 ref.go:260
              refine wp_region_lit ?_
              refine st_y S rfl rfl rfl (y_loadAgg (cs := [_, _, _, _, _, _, _, _, _, _, _, _]) S (by kernel_rfl) rfl rfl (M.cellsAt (k := 12) 2 rfl rfl)) ?_; clear S a; intro a S
              refine st_store (sz := 12) (us := [_, _, _, _, _, _, _, _, _, _, _, _]) S M 3 rfl (by kernel_rfl) rfl rfl rfl rfl rfl rfl (by first | decide | (simp; done) | (simp; omega)) ?_; clear M; intro w33 M
              simp only [putL, List.set_cons_zero, List.set_cons_succ, Nat.reduceAdd] at M
              refine st_y S rfl rfl rfl (y_assign S rfl) ?_; clear S a; intro a S
              refine wpList_nil ?_
              replace S := S.sub [(0, _), (2, _), (4, _), (5, _), (92, _), (3, _)] rfl
              refine then_normal ?_
              refine wp_ret ?_
              refine end_two S rfl (res_agg (cs := [_, _, _, _, _, _, _, _, _, _, _, _]) (by kernel_rfl) rfl rfl (M.cellsAt (k := 12) 3 rfl rfl)) (res_tmp rfl) ?_
              have hm : r.may x = true := by simpa using h92
              have hbad : s.bad = false := h79
              have hat : s.at_ = bs.length := by omega
              have hne : bs.length ≠ 0 := fun h0 => by
                have h1 := hE h0
                rw [h1] at hkk hq
                have hk0 : kk = 0 := by rw [← hkk]; rfl
                have hkr := kinds hm
                have : r.kind = kk := by
                  have : (rBody bs kk ⟨0, true⟩).1.kind = kk := by unfold rBody; (repeat' split) <;> rfl
                  rw [hq] at this; exact this
                omega
              obtain ⟨b, hb0⟩ : ∃ b, bs[0]? = some b := ⟨_, List.getElem?_eq_getElem (by omega)⟩
              have h1 := hBb b hb0
              have h2 := h127 b hb0
              have hk : kk = (b.toNat : Int) := by rw [← hkk, h1]; simp only; omega
              rw [h1, hk] at hq
              have he := ref_ok hb0 h2 _ hq hbad hat hm
              exact ⟨r, x, _, 0, rfl, M.fresh 0 rfl, .inl ⟨rfl, hm, he⟩⟩
  · clear S; intro h17 S
    first | replace h17 := nrmA h17 | replace h17 := nrmB h17 | skip
    first | replace h17 := nrm1 h17 | replace h17 := nrm2 h17 | replace h17 := nrm3 h17 | replace h17 := nrm4 h17 | replace h17 := nrm5 h17 | replace h17 := nrm6 h17 | replace h17 := of_decide_eq_true h17 | replace h17 := of_decide_eq_false h17 | skip
    refine st_no S rfl rfl rfl ?_; clear S a; intro a S
    refine st_no S rfl rfl rfl ?_; clear S a; intro a S
    refine st_no S rfl rfl rfl ?_; clear S a; intro a S
    refine st_no S rfl rfl rfl ?_; clear S a; intro a S
    refine st_y S rfl rfl rfl (y_pickF S rfl rfl) ?_; clear S a; intro a S
    refine wpList_nil ?_
    replace S := S.sub [(0, _), (2, _), (3, _), (4, _), (5, _), (22, _)] rfl
    refine then_normal ?_
    refine st_condF S rfl ?_
    refine wp_skip ?_
    refine then_normal ?_
    refine wp_cut (fun a w' => Sees 95 a [(0, .slice va bs.length vc), (2, .pointer (some ⟨bO, 0, none⟩)), (4, .pointer (some ⟨bR, 0, none⟩)), (5, .pointer (some ⟨bC, 0, none⟩))] ∧ (∀ b, bs[0]? = some b → b.toNat ≤ 127) ∧ CutP bs kk t0.2 w bO bR bC (.slice va bs.length vc) w') ?_ ?_
    · skip
      refine wp_seq ?_
      -- region 5 ref.go:238
      have h127 : ∀ b, bs[0]? = some b → b.toNat ≤ 127 := fun b hb => by
        first
          | (rw [hb0] at hb; cases hb; omega)
          | (have := (List.getElem?_eq_some_iff.1 hb).1; omega)
      refine wp_region_lit ?_
      refine st_y S rfl rfl rfl (y_fieldAddr (k := 0) S (by kernel_rfl) rfl) ?_; clear S a; intro a S
      refine st_y S rfl rfl rfl (y_load S (by kernel_rfl) rfl (M.cell 0 rfl rfl)) ?_; clear S a; intro a S
      refine st_y S rfl rfl rfl (y_int S rfl rfl rfl) ?_; clear S a; intro a S
      refine st_y S rfl rfl rfl (y_move S rfl) ?_; clear S a; intro a S
      refine st_split (t := 27) S rfl ?_ ?_
      · clear S; intro h27 S
        first | replace h27 := nrmA h27 | replace h27 := nrmB h27 | skip
        first | replace h27 := nrm1 h27 | replace h27 := nrm2 h27 | replace h27 := nrm3 h27 | replace h27 := nrm4 h27 | replace h27 := nrm5 h27 | replace h27 := nrm6 h27 | replace h27 := of_decide_eq_true h27 | replace h27 := of_decide_eq_false h27 | skip
        refine st_no S rfl rfl rfl ?_; clear S a; intro a S
        refine st_no S rfl rfl rfl ?_; clear S a; intro a S
        refine st_no S rfl rfl rfl ?_; clear S a; intro a S
        refine st_y S rfl rfl rfl (y_pickT S rfl rfl) ?_; clear S a; intro a S
        refine wpList_nil ?_
        replace S := S.sub [(0, _), (2, _), (3, _), (4, _), (5, _), (22, _), (31, _)] rfl
        refine then_normal ?_
        refine st_condT S rfl ?_
        -- region 6 ref.go:239
        refine wp_region_lit ?_
        refine st_y S rfl rfl rfl (y_move S rfl) ?_; clear S a; intro a S
        replace M := M.front 1 rfl
        simp only [List.eraseIdx_cons_succ, List.eraseIdx_cons_zero] at M
        refine st_call (xs := [(Operand.tmp 32)]) S (enters_of Try.func31 (by decide) rfl) rfl rfl rfl (threeR_any M hv) ?_
        rintro _ w34 ⟨rfl, M1⟩; refine ⟨_, rfl, ?_⟩; clear S a; intro a S; replace M := M1
        refine st_y S rfl rfl rfl (y_fieldAddr (k := 11) S (by kernel_rfl) rfl) ?_; clear S a; intro a S
        refine st_store (sz := 1) (us := [_]) S M 1 rfl (by kernel_rfl) rfl rfl rfl rfl rfl rfl (by first | decide | (simp; done) | (simp; omega)) ?_; clear M; intro w35 M
        simp only [putL, List.set_cons_zero, List.set_cons_succ, Nat.reduceAdd] at M
        refine wpList_nil ?_
        replace S := S.sub [(0, _), (2, _), (3, _), (4, _), (5, _), (22, _), (31, _)] rfl
        refine then_normal ?_
        refine ⟨S.sub _ rfl, h127, ?_⟩
        unfold CutP rBody
        first
          | (rw [if_pos (by omega)]; exact ⟨_, _, _, M.rowNil _ _⟩)
          | (rw [if_neg (by omega), if_pos (by assumption)]; exact ⟨_, _, _, M⟩)
          | (rw [if_neg (by omega), if_neg (by omega), if_pos (by assumption)]; exact ⟨_, _, _, M.front 1 rfl⟩)
          | (rw [if_neg (by omega), if_neg (by omega), if_neg (by omega), if_pos (by assumption)]; exact ⟨_, _, _, M.rowNil _ _⟩)
          | (rw [if_neg (by omega), if_neg (by omega), if_neg (by omega), if_neg (by omega), if_pos (by assumption)]; exact ⟨_, _, _, M.rowNil _ _⟩)
          | (rw [if_neg (by omega), if_neg (by omega), if_neg (by omega), if_neg (by omega), if_neg (by omega)]; exact ⟨_, _, _, M.rowNil _ _⟩)
      · clear S; intro h27 S
        first | replace h27 := nrmA h27 | replace h27 := nrmB h27 | skip
        first | replace h27 := nrm1 h27 | replace h27 := nrm2 h27 | replace h27 := nrm3 h27 | replace h27 := nrm4 h27 | replace h27 := nrm5 h27 | replace h27 := nrm6 h27 | replace h27 := of_decide_eq_true h27 | replace h27 := of_decide_eq_false h27 | skip
        refine st_y S rfl rfl rfl (y_fieldAddr (k := 0) S (by kernel_rfl) rfl) ?_; clear S a; intro a S
        refine st_y S rfl rfl rfl (y_load S (by kernel_rfl) rfl (M.cell 0 rfl rfl)) ?_; clear S a; intro a S
        refine st_y S rfl rfl rfl (y_int S rfl rfl rfl) ?_; clear S a; intro a S
        refine st_y S rfl rfl rfl (y_pickF S rfl rfl) ?_; clear S a; intro a S
        refine wpList_nil ?_
        replace S := S.sub [(0, _), (2, _), (3, _), (4, _), (5, _), (22, _), (31, _)] rfl
        refine then_normal ?_
        refine st_split (t := 31) S rfl ?_ ?_
        · clear S; intro h31 S
          first | replace h31 := nrmA h31 | replace h31 := nrmB h31 | skip
          first | replace h31 := nrm1 h31 | replace h31 := nrm2 h31 | replace h31 := nrm3 h31 | replace h31 := nrm4 h31 | replace h31 := nrm5 h31 | replace h31 := nrm6 h31 | replace h31 := of_decide_eq_true h31 | replace h31 := of_decide_eq_false h31 | skip
          refine st_condT S rfl ?_
          -- region 6 ref.go:239
          refine wp_region_lit ?_
          refine st_y S rfl rfl rfl (y_move S rfl) ?_; clear S a; intro a S
          replace M := M.front 1 rfl
          simp only [List.eraseIdx_cons_succ, List.eraseIdx_cons_zero] at M
          refine st_call (xs := [(Operand.tmp 32)]) S (enters_of Try.func31 (by decide) rfl) rfl rfl rfl (threeR_any M hv) ?_
          rintro _ w36 ⟨rfl, M1⟩; refine ⟨_, rfl, ?_⟩; clear S a; intro a S; replace M := M1
          refine st_y S rfl rfl rfl (y_fieldAddr (k := 11) S (by kernel_rfl) rfl) ?_; clear S a; intro a S
          refine st_store (sz := 1) (us := [_]) S M 1 rfl (by kernel_rfl) rfl rfl rfl rfl rfl rfl (by first | decide | (simp; done) | (simp; omega)) ?_; clear M; intro w37 M
          simp only [putL, List.set_cons_zero, List.set_cons_succ, Nat.reduceAdd] at M
          refine wpList_nil ?_
          replace S := S.sub [(0, _), (2, _), (3, _), (4, _), (5, _), (22, _), (31, _)] rfl
          refine then_normal ?_
          refine ⟨S.sub _ rfl, h127, ?_⟩
          unfold CutP rBody
          first
            | (rw [if_pos (by omega)]; exact ⟨_, _, _, M.rowNil _ _⟩)
            | (rw [if_neg (by omega), if_pos (by assumption)]; exact ⟨_, _, _, M⟩)
            | (rw [if_neg (by omega), if_neg (by omega), if_pos (by assumption)]; exact ⟨_, _, _, M.front 1 rfl⟩)
            | (rw [if_neg (by omega), if_neg (by omega), if_neg (by omega), if_pos (by assumption)]; exact ⟨_, _, _, M.rowNil _ _⟩)
            | (rw [if_neg (by omega), if_neg (by omega), if_neg (by omega), if_neg (by omega), if_pos (by assumption)]; exact ⟨_, _, _, M.rowNil _ _⟩)
            | (rw [if_neg (by omega), if_neg (by omega), if_neg (by omega), if_neg (by omega), if_neg (by omega)]; exact ⟨_, _, _, M.rowNil _ _⟩)
        · clear S; intro h31 S
          first | replace h31 := nrmA h31 | replace h31 := nrmB h31 | skip
          first | replace h31 := nrm1 h31 | replace h31 := nrm2 h31 | replace h31 := nrm3 h31 | replace h31 := nrm4 h31 | replace h31 := nrm5 h31 | replace h31 := nrm6 h31 | replace h31 := of_decide_eq_true h31 | replace h31 := of_decide_eq_false h31 | skip
          refine st_condF S rfl ?_
          refine wp_seq ?_
          -- region 7 ref.go:241
          refine wp_region_lit ?_
          refine st_y S rfl rfl rfl (y_move S rfl) ?_; clear S a; intro a S
          replace M := M.front 1 rfl
          simp only [List.eraseIdx_cons_succ, List.eraseIdx_cons_zero] at M
          refine st_call (xs := [(Operand.tmp 35)]) S (enters_of Try.func32 (by decide) rfl) rfl rfl rfl (nameR_any M hv) ?_
          rintro _ w38 ⟨rfl, M1⟩; refine ⟨_, rfl, ?_⟩; clear S a; intro a S; replace M := M1
          refine st_y S rfl rfl rfl (y_fieldAddr (k := 1) S (by kernel_rfl) rfl) ?_; clear S a; intro a S
          refine st_store (sz := 3) (us := [_, _, _]) S M 1 rfl (by kernel_rfl) rfl rfl rfl rfl rfl rfl (by first | decide | (simp; done) | (simp; omega)) ?_; clear M; intro w39 M
          simp only [putL, List.set_cons_zero, List.set_cons_succ, Nat.reduceAdd] at M
          refine wpList_nil ?_
          replace S := S.sub [(0, _), (2, _), (3, _), (4, _), (5, _), (22, _), (31, _)] rfl
          refine then_normal ?_
          refine wp_seq ?_
          -- region 8 ref.go:242
          refine wp_region_lit ?_
          refine st_y S rfl rfl rfl (y_fieldAddr (k := 0) S (by kernel_rfl) rfl) ?_; clear S a; intro a S
          refine st_y S rfl rfl rfl (y_load S (by kernel_rfl) rfl (M.cell 1 rfl rfl)) ?_; clear S a; intro a S
          refine wpList_nil ?_
          replace S := S.sub [(0, _), (2, _), (3, _), (4, _), (5, _), (22, _), (31, _), (39, _)] rfl
          refine then_normal ?_
          refine wp_block ?_
          refine wp_seq ?_
          -- region 9 ref.go:243
          refine wp_region_lit ?_
          refine st_y S rfl rfl rfl (y_int S rfl rfl rfl) ?_; clear S a; intro a S
          refine st_y S rfl rfl rfl (y_assign S rfl) ?_; clear S a; intro a S
          refine wpList_nil ?_
          replace S := S.sub [(0, _), (2, _), (3, _), (4, _), (5, _), (22, _), (31, _), (39, _), (40, _)] rfl
          refine then_normal ?_
          refine st_split (t := 40) S rfl ?_ ?_
          · clear S; intro h40 S
            first | replace h40 := nrmA h40 | replace h40 := nrmB h40 | skip
            first | replace h40 := nrm1 h40 | replace h40 := nrm2 h40 | replace h40 := nrm3 h40 | replace h40 := nrm4 h40 | replace h40 := nrm5 h40 | replace h40 := nrm6 h40 | replace h40 := of_decide_eq_true h40 | replace h40 := of_decide_eq_false h40 | skip
            refine st_condT S rfl ?_
            -- region 10 ref.go:244
            refine wp_region_lit ?_
            refine st_y S rfl rfl rfl (y_move S rfl) ?_; clear S a; intro a S
            refine st_call (xs := [(Operand.tmp 42)]) S (enters_of Try.func33 (by decide) rfl) rfl rfl rfl (writesR_any M hv) ?_
            rintro _ w40 ⟨v1, lo1, hi1, rfl, M1⟩; refine ⟨_, rfl, ?_⟩; clear S a; intro a S; replace M := M1
            obtain ⟨ad, cp, hE', -, -⟩ := (M.readRow 0 rfl (by have := rWs_len bs (rNm bs t0.2).2; unfold maxLen; omega)).form
            subst hE'
            refine st_y S rfl rfl rfl (y_fieldAddr (k := 5) S (by kernel_rfl) rfl) ?_; clear S a; intro a S
            refine st_store (sz := 1) (us := [_]) S M 2 rfl (by kernel_rfl) rfl rfl rfl rfl rfl rfl (by first | decide | (simp; done) | (simp; omega)) ?_; clear M; intro w41 M
            simp only [putL, List.set_cons_zero, List.set_cons_succ, Nat.reduceAdd] at M
            refine wpList_nil ?_
            replace S := S.sub [(0, _), (2, _), (3, _), (4, _), (5, _), (22, _), (31, _), (39, _), (40, _)] rfl
            refine block_normal ?_
            refine then_normal ?_
            refine ⟨S.sub _ rfl, h127, ?_⟩
            unfold CutP rBody
            first
              | (rw [if_pos (by omega)]; exact ⟨_, _, _, M.rowNil _ _⟩)
              | (rw [if_neg (by omega), if_pos (by assumption)]; exact ⟨_, _, _, M⟩)
              | (rw [if_neg (by omega), if_neg (by omega), if_pos (by assumption)]; exact ⟨_, _, _, M.front 1 rfl⟩)
              | (rw [if_neg (by omega), if_neg (by omega), if_neg (by omega), if_pos (by assumption)]; exact ⟨_, _, _, M.rowNil _ _⟩)
              | (rw [if_neg (by omega), if_neg (by omega), if_neg (by omega), if_neg (by omega), if_pos (by assumption)]; exact ⟨_, _, _, M.rowNil _ _⟩)
              | (rw [if_neg (by omega), if_neg (by omega), if_neg (by omega), if_neg (by omega), if_neg (by omega)]; exact ⟨_, _, _, M.rowNil _ _⟩)
          · clear S; intro h40 S
            first | replace h40 := nrmA h40 | replace h40 := nrmB h40 | skip
            first | replace h40 := nrm1 h40 | replace h40 := nrm2 h40 | replace h40 := nrm3 h40 | replace h40 := nrm4 h40 | replace h40 := nrm5 h40 | replace h40 := nrm6 h40 | replace h40 := of_decide_eq_true h40 | replace h40 := of_decide_eq_false h40 | skip
            refine st_condF S rfl ?_
            refine wp_seq ?_
            -- region 11 ref.go:245
            refine wp_region_lit ?_
            refine st_y S rfl rfl rfl (y_int S rfl rfl rfl) ?_; clear S a; intro a S
            refine st_y S rfl rfl rfl (y_assign S rfl) ?_; clear S a; intro a S
            refine wpList_nil ?_
            replace S := S.sub [(0, _), (2, _), (3, _), (4, _), (5, _), (22, _), (31, _), (39, _), (40, _), (45, _)] rfl
            refine then_normal ?_
            refine st_split (t := 45) S rfl ?_ ?_
            · clear S; intro h45 S
              first | replace h45 := nrmA h45 | replace h45 := nrmB h45 | skip
              first | replace h45 := nrm1 h45 | replace h45 := nrm2 h45 | replace h45 := nrm3 h45 | replace h45 := nrm4 h45 | replace h45 := nrm5 h45 | replace h45 := nrm6 h45 | replace h45 := of_decide_eq_true h45 | replace h45 := of_decide_eq_false h45 | skip
              refine st_condT S rfl ?_
              refine wp_seq ?_
              -- region 12 ref.go:246
              refine wp_region_lit ?_
              refine st_y S rfl rfl rfl (y_move S rfl) ?_; clear S a; intro a S
              refine st_call (xs := [(Operand.tmp 47)]) S (enters_of Try.func33 (by decide) rfl) rfl rfl rfl (writesR_any M hv) ?_
              rintro _ w42 ⟨v1, lo1, hi1, rfl, M1⟩; refine ⟨_, rfl, ?_⟩; clear S a; intro a S; replace M := M1
              obtain ⟨ad, cp, hE', -, -⟩ := (M.readRow 0 rfl (by have := rWs_len bs (rNm bs t0.2).2; unfold maxLen; omega)).form
              subst hE'
              refine st_y S rfl rfl rfl (y_fieldAddr (k := 5) S (by kernel_rfl) rfl) ?_; clear S a; intro a S
              refine st_store (sz := 1) (us := [_]) S M 2 rfl (by kernel_rfl) rfl rfl rfl rfl rfl rfl (by first | decide | (simp; done) | (simp; omega)) ?_; clear M; intro w43 M
              simp only [putL, List.set_cons_zero, List.set_cons_succ, Nat.reduceAdd] at M
              refine wpList_nil ?_
              replace S := S.sub [(0, _), (2, _), (3, _), (4, _), (5, _), (22, _), (31, _), (39, _), (40, _), (45, _)] rfl
              refine then_normal ?_
              refine wp_seq ?_
              -- region 13 ref.go:247
              refine wp_region_lit ?_
              replace M := M.front 1 rfl
              simp only [List.eraseIdx_cons_succ, List.eraseIdx_cons_zero] at M
              refine st_y S rfl rfl rfl (y_move S rfl) ?_; clear S a; intro a S
              refine st_call (xs := [(Operand.tmp 50)]) S (enters_of Try.func30 (by decide) rfl) rfl rfl rfl (byte_any M hv) ?_
              rintro _ w44 ⟨rfl, M1⟩; refine ⟨_, rfl, ?_⟩; clear S a; intro a S; replace M := M1
              refine st_y S rfl rfl rfl (y_fieldAddr (k := 6) S (by kernel_rfl) rfl) ?_; clear S a; intro a S
              refine st_store (sz := 1) (us := [_]) S M 2 rfl (by kernel_rfl) rfl rfl rfl rfl rfl rfl (by first | decide | (simp; done) | (simp; omega)) ?_; clear M; intro w45 M
              simp only [putL, List.set_cons_zero, List.set_cons_succ, Nat.reduceAdd] at M
              refine wpList_nil ?_
              replace S := S.sub [(0, _), (2, _), (3, _), (4, _), (5, _), (22, _), (31, _), (39, _), (40, _), (45, _)] rfl
              refine then_normal ?_
              -- region 14 ref.go:248
              refine wp_region_lit ?_
              refine st_y S rfl rfl rfl (y_move S rfl) ?_; clear S a; intro a S
              refine st_call (xs := [(Operand.tmp 53)]) S (enters_of Try.func30 (by decide) rfl) rfl rfl rfl (byte_any M hv) ?_
              rintro _ w46 ⟨rfl, M1⟩; refine ⟨_, rfl, ?_⟩; clear S a; intro a S; replace M := M1
              refine st_y S rfl rfl rfl (y_fieldAddr (k := 7) S (by kernel_rfl) rfl) ?_; clear S a; intro a S
              refine st_store (sz := 1) (us := [_]) S M 2 rfl (by kernel_rfl) rfl rfl rfl rfl rfl rfl (by first | decide | (simp; done) | (simp; omega)) ?_; clear M; intro w47 M
              simp only [putL, List.set_cons_zero, List.set_cons_succ, Nat.reduceAdd] at M
              refine wpList_nil ?_
              replace S := S.sub [(0, _), (2, _), (3, _), (4, _), (5, _), (22, _), (31, _), (39, _), (40, _), (45, _)] rfl
              refine block_normal ?_
              refine then_normal ?_
              refine ⟨S.sub _ rfl, h127, ?_⟩
              unfold CutP rBody
              first
                | (rw [if_pos (by omega)]; exact ⟨_, _, _, M.rowNil _ _⟩)
                | (rw [if_neg (by omega), if_pos (by assumption)]; exact ⟨_, _, _, M⟩)
                | (rw [if_neg (by omega), if_neg (by omega), if_pos (by assumption)]; exact ⟨_, _, _, M.front 1 rfl⟩)
                | (rw [if_neg (by omega), if_neg (by omega), if_neg (by omega), if_pos (by assumption)]; exact ⟨_, _, _, M.rowNil _ _⟩)
                | (rw [if_neg (by omega), if_neg (by omega), if_neg (by omega), if_neg (by omega), if_pos (by assumption)]; exact ⟨_, _, _, M.rowNil _ _⟩)
                | (rw [if_neg (by omega), if_neg (by omega), if_neg (by omega), if_neg (by omega), if_neg (by omega)]; exact ⟨_, _, _, M.rowNil _ _⟩)
            · clear S; intro h45 S
              first | replace h45 := nrmA h45 | replace h45 := nrmB h45 | skip
              first | replace h45 := nrm1 h45 | replace h45 := nrm2 h45 | replace h45 := nrm3 h45 | replace h45 := nrm4 h45 | replace h45 := nrm5 h45 | replace h45 := nrm6 h45 | replace h45 := of_decide_eq_true h45 | replace h45 := of_decide_eq_false h45 | skip
              refine st_condF S rfl ?_
              refine wp_seq ?_
              -- region 15 ref.go:249
              refine wp_region_lit ?_
              refine st_y S rfl rfl rfl (y_int S rfl rfl rfl) ?_; clear S a; intro a S
              refine st_y S rfl rfl rfl (y_assign S rfl) ?_; clear S a; intro a S
              refine wpList_nil ?_
              replace S := S.sub [(0, _), (2, _), (3, _), (4, _), (5, _), (22, _), (31, _), (39, _), (40, _), (45, _), (56, _)] rfl
              refine then_normal ?_
              refine st_split (t := 56) S rfl ?_ ?_
              · clear S; intro h56 S
                first | replace h56 := nrmA h56 | replace h56 := nrmB h56 | skip
                first | replace h56 := nrm1 h56 | replace h56 := nrm2 h56 | replace h56 := nrm3 h56 | replace h56 := nrm4 h56 | replace h56 := nrm5 h56 | replace h56 := nrm6 h56 | replace h56 := of_decide_eq_true h56 | replace h56 := of_decide_eq_false h56 | skip
                refine st_condT S rfl ?_
                -- region 16 ref.go:250
                refine wp_region_lit ?_
                refine st_y S rfl rfl rfl (y_move S rfl) ?_; clear S a; intro a S
                refine st_call (xs := [(Operand.tmp 58)]) S (enters_of Try.func34 (by decide) rfl) rfl rfl rfl (flagR_any M hv) ?_
                rintro _ w48 ⟨rfl, M1⟩; refine ⟨_, rfl, ?_⟩; clear S a; intro a S; replace M := M1
                refine st_y S rfl rfl rfl (y_fieldAddr (k := 4) S (by kernel_rfl) rfl) ?_; clear S a; intro a S
                refine st_store (sz := 1) (us := [_]) S M 1 rfl (by kernel_rfl) rfl rfl rfl rfl rfl rfl (by first | decide | (simp; done) | (simp; omega)) ?_; clear M; intro w49 M
                simp only [putL, List.set_cons_zero, List.set_cons_succ, Nat.reduceAdd] at M
                refine wpList_nil ?_
                replace S := S.sub [(0, _), (2, _), (3, _), (4, _), (5, _), (22, _), (31, _), (39, _), (40, _), (45, _), (56, _)] rfl
                refine block_normal ?_
                refine then_normal ?_
                refine ⟨S.sub _ rfl, h127, ?_⟩
                unfold CutP rBody
                first
                  | (rw [if_pos (by omega)]; exact ⟨_, _, _, M.rowNil _ _⟩)
                  | (rw [if_neg (by omega), if_pos (by assumption)]; exact ⟨_, _, _, M⟩)
                  | (rw [if_neg (by omega), if_neg (by omega), if_pos (by assumption)]; exact ⟨_, _, _, M.front 1 rfl⟩)
                  | (rw [if_neg (by omega), if_neg (by omega), if_neg (by omega), if_pos (by assumption)]; exact ⟨_, _, _, M.rowNil _ _⟩)
                  | (rw [if_neg (by omega), if_neg (by omega), if_neg (by omega), if_neg (by omega), if_pos (by assumption)]; exact ⟨_, _, _, M.rowNil _ _⟩)
                  | (rw [if_neg (by omega), if_neg (by omega), if_neg (by omega), if_neg (by omega), if_neg (by omega)]; exact ⟨_, _, _, M.rowNil _ _⟩)
              · clear S; intro h56 S
                first | replace h56 := nrmA h56 | replace h56 := nrmB h56 | skip
                first | replace h56 := nrm1 h56 | replace h56 := nrm2 h56 | replace h56 := nrm3 h56 | replace h56 := nrm4 h56 | replace h56 := nrm5 h56 | replace h56 := nrm6 h56 | replace h56 := of_decide_eq_true h56 | replace h56 := of_decide_eq_false h56 | skip
                refine st_condF S rfl ?_
                refine wp_seq ?_
                -- region 17 ref.go:251
                refine wp_region_lit ?_
                refine st_y S rfl rfl rfl (y_int S rfl rfl rfl) ?_; clear S a; intro a S
                refine st_y S rfl rfl rfl (y_assign S rfl) ?_; clear S a; intro a S
                refine wpList_nil ?_
                replace S := S.sub [(0, _), (2, _), (3, _), (4, _), (5, _), (22, _), (31, _), (39, _), (40, _), (45, _), (56, _), (61, _)] rfl
                refine then_normal ?_
                refine st_split (t := 61) S rfl ?_ ?_
                · clear S; intro h61 S
                  first | replace h61 := nrmA h61 | replace h61 := nrmB h61 | skip
                  first | replace h61 := nrm1 h61 | replace h61 := nrm2 h61 | replace h61 := nrm3 h61 | replace h61 := nrm4 h61 | replace h61 := nrm5 h61 | replace h61 := nrm6 h61 | replace h61 := of_decide_eq_true h61 | replace h61 := of_decide_eq_false h61 | skip
                  refine st_condT S rfl ?_
                  refine wp_seq ?_
                  -- region 18 ref.go:252
                  refine wp_region_lit ?_
                  refine st_y S rfl rfl rfl (y_move S rfl) ?_; clear S a; intro a S
                  refine st_call (xs := [(Operand.tmp 63)]) S (enters_of Try.func30 (by decide) rfl) rfl rfl rfl (byte_any M hv) ?_
                  rintro _ w50 ⟨rfl, M1⟩; refine ⟨_, rfl, ?_⟩; clear S a; intro a S; replace M := M1
                  refine st_y S rfl rfl rfl (y_fieldAddr (k := 8) S (by kernel_rfl) rfl) ?_; clear S a; intro a S
                  refine st_store (sz := 1) (us := [_]) S M 1 rfl (by kernel_rfl) rfl rfl rfl rfl rfl rfl (by first | decide | (simp; done) | (simp; omega)) ?_; clear M; intro w51 M
                  simp only [putL, List.set_cons_zero, List.set_cons_succ, Nat.reduceAdd] at M
                  refine wpList_nil ?_
                  replace S := S.sub [(0, _), (2, _), (3, _), (4, _), (5, _), (22, _), (31, _), (39, _), (40, _), (45, _), (56, _), (61, _)] rfl
                  refine then_normal ?_
                  refine wp_seq ?_
                  -- region 19 ref.go:253
                  refine wp_region_lit ?_
                  refine st_y S rfl rfl rfl (y_move S rfl) ?_; clear S a; intro a S
                  refine st_call (xs := [(Operand.tmp 66)]) S (enters_of Try.func30 (by decide) rfl) rfl rfl rfl (byte_any M hv) ?_
                  rintro _ w52 ⟨rfl, M1⟩; refine ⟨_, rfl, ?_⟩; clear S a; intro a S; replace M := M1
                  have hbd2 := tk1_bd bs (tk bs 1 (rNm bs t0.2).2).2
                  (first | refine st_y S rfl rfl rfl (y_subN S rfl rfl (by omega)) ?_ | refine st_y S rfl rfl rfl (y_int S rfl rfl rfl) ?_); clear S a; intro a S
                  refine st_y S rfl rfl rfl (y_fieldAddr (k := 9) S (by kernel_rfl) rfl) ?_; clear S a; intro a S
                  refine st_y S rfl rfl rfl (y_fieldAddr (k := 0) S (by kernel_rfl) rfl) ?_; clear S a; intro a S
                  refine st_store (sz := 1) (us := [_]) S M 1 rfl (by kernel_rfl) rfl rfl rfl rfl rfl rfl (by first | decide | (simp; done) | (simp; omega)) ?_; clear M; intro w53 M
                  simp only [putL, List.set_cons_zero, List.set_cons_succ, Nat.reduceAdd] at M
                  refine wpList_nil ?_
                  replace S := S.sub [(0, _), (2, _), (3, _), (4, _), (5, _), (22, _), (31, _), (39, _), (40, _), (45, _), (56, _), (61, _)] rfl
                  refine then_normal ?_
                  -- region 20 ref.go:254
                  refine wp_region_lit ?_
                  refine st_y S rfl rfl rfl (y_move S rfl) ?_; clear S a; intro a S
                  refine st_call (xs := [(Operand.tmp 71)]) S (enters_of Try.func30 (by decide) rfl) rfl rfl rfl (byte_any M hv) ?_
                  rintro _ w54 ⟨rfl, M1⟩; refine ⟨_, rfl, ?_⟩; clear S a; intro a S; replace M := M1
                  refine st_y S rfl rfl rfl (y_fieldAddr (k := 9) S (by kernel_rfl) rfl) ?_; clear S a; intro a S
                  refine st_y S rfl rfl rfl (y_fieldAddr (k := 1) S (by kernel_rfl) rfl) ?_; clear S a; intro a S
                  refine st_store (sz := 1) (us := [_]) S M 1 rfl (by kernel_rfl) rfl rfl rfl rfl rfl rfl (by first | decide | (simp; done) | (simp; omega)) ?_; clear M; intro w55 M
                  simp only [putL, List.set_cons_zero, List.set_cons_succ, Nat.reduceAdd] at M
                  refine wpList_nil ?_
                  replace S := S.sub [(0, _), (2, _), (3, _), (4, _), (5, _), (22, _), (31, _), (39, _), (40, _), (45, _), (56, _), (61, _)] rfl
                  refine block_normal ?_
                  refine then_normal ?_
                  refine ⟨S.sub _ rfl, h127, ?_⟩
                  unfold CutP rBody
                  first
                    | (rw [if_pos (by omega)]; exact ⟨_, _, _, M.rowNil _ _⟩)
                    | (rw [if_neg (by omega), if_pos (by assumption)]; exact ⟨_, _, _, M⟩)
                    | (rw [if_neg (by omega), if_neg (by omega), if_pos (by assumption)]; exact ⟨_, _, _, M.front 1 rfl⟩)
                    | (rw [if_neg (by omega), if_neg (by omega), if_neg (by omega), if_pos (by assumption)]; exact ⟨_, _, _, M.rowNil _ _⟩)
                    | (rw [if_neg (by omega), if_neg (by omega), if_neg (by omega), if_neg (by omega), if_pos (by assumption)]; exact ⟨_, _, _, M.rowNil _ _⟩)
                    | (rw [if_neg (by omega), if_neg (by omega), if_neg (by omega), if_neg (by omega), if_neg (by omega)]; exact ⟨_, _, _, M.rowNil _ _⟩)
                · clear S; intro h61 S
                  first | replace h61 := nrmA h61 | replace h61 := nrmB h61 | skip
                  first | replace h61 := nrm1 h61 | replace h61 := nrm2 h61 | replace h61 := nrm3 h61 | replace h61 := nrm4 h61 | replace h61 := nrm5 h61 | replace h61 := nrm6 h61 | replace h61 := of_decide_eq_true h61 | replace h61 := of_decide_eq_false h61 | skip
                  refine st_condF S rfl ?_
                  refine wp_skip ?_
                  refine block_normal ?_
                  refine then_normal ?_
                  refine ⟨S.sub _ rfl, h127, ?_⟩
                  unfold CutP rBody
                  first
                    | (rw [if_pos (by omega)]; exact ⟨_, _, _, M.rowNil _ _⟩)
                    | (rw [if_neg (by omega), if_pos (by assumption)]; exact ⟨_, _, _, M⟩)
                    | (rw [if_neg (by omega), if_neg (by omega), if_pos (by assumption)]; exact ⟨_, _, _, M.front 1 rfl⟩)
                    | (rw [if_neg (by omega), if_neg (by omega), if_neg (by omega), if_pos (by assumption)]; exact ⟨_, _, _, M.rowNil _ _⟩)
                    | (rw [if_neg (by omega), if_neg (by omega), if_neg (by omega), if_neg (by omega), if_pos (by assumption)]; exact ⟨_, _, _, M.rowNil _ _⟩)
                    | (rw [if_neg (by omega), if_neg (by omega), if_neg (by omega), if_neg (by omega), if_neg (by omega)]; exact ⟨_, _, _, M.rowNil _ _⟩)
    · clear S a M; intro a wc
      rintro ⟨S, h127, v', lo, hi, M⟩
      obtain ⟨q, hq⟩ : ∃ q, rBody bs kk t0.2 = q := ⟨_, rfl⟩
      have hsh := rBody_shards bs kk t0.2
      have hln := rBody_len bs kk t0.2
      rw [hq] at M hsh hln
      have hgo' : ∀ (r : Rc) (x : List Wr), r.may x = true → r.enc x = bs → q = (r, x, ⟨bs.length, false⟩) := fun r x hm he => by rw [← hq]; exact hgo r x hm he
      obtain ⟨r, x, s⟩ := q
      simp only at M hsh hln
      obtain ⟨ad, cp, hE', -, -⟩ := (M.readRow 0 rfl (by unfold maxLen; omega)).form
      subst hE'
      refine wp_seq ?_
      refine wp_seq ?_
      -- region 21 ref.go:257
      refine wp_region_lit ?_
      refine st_y S rfl rfl rfl (y_move S rfl) ?_; clear S a; intro a S
      refine st_y S rfl rfl rfl (y_nilCheck S rfl) ?_; clear S a; intro a S
      refine st_y S rfl rfl rfl (y_fieldAddr (k := 2) S (by kernel_rfl) rfl) ?_; clear S a; intro a S
      refine st_y S rfl rfl rfl (y_load S (by kernel_rfl) rfl (M.cell 1 rfl rfl)) ?_; clear S a; intro a S
      refine st_y S rfl rfl rfl (y_move S rfl) ?_; clear S a; intro a S
      refine st_split (t := 79) S rfl ?_ ?_
      · clear S; intro h79 S
        refine st_no S rfl rfl rfl ?_; clear S a; intro a S
        refine st_no S rfl rfl rfl ?_; clear S a; intro a S
        refine st_no S rfl rfl rfl ?_; clear S a; intro a S
        refine st_no S rfl rfl rfl ?_; clear S a; intro a S
        refine st_no S rfl rfl rfl ?_; clear S a; intro a S
        refine st_no S rfl rfl rfl ?_; clear S a; intro a S
        refine st_no S rfl rfl rfl ?_; clear S a; intro a S
        refine st_y S rfl rfl rfl (y_pickT S rfl rfl) ?_; clear S a; intro a S
        refine st_y S rfl rfl rfl (y_move S rfl) ?_; clear S a; intro a S
        refine st_no S rfl rfl rfl ?_; clear S a; intro a S
        refine st_no S rfl rfl rfl ?_; clear S a; intro a S
        refine st_no S rfl rfl rfl ?_; clear S a; intro a S
        refine st_y S rfl rfl rfl (y_pickT S rfl rfl) ?_; clear S a; intro a S
        refine wpList_nil ?_
        replace S := S.sub [(0, _), (2, _), (4, _), (5, _), (92, _)] rfl
        refine then_normal ?_
        refine st_condT S rfl ?_
        refine wp_seq ?_
        -- region 22 ref.go:258
        refine wp_region_lit ?_
        refine st_y S rfl rfl rfl (y_build (ps := []) (pl := [(0, 1), (1, 3), (4, 1), (5, 1), (6, 1), (7, 1), (8, 1), (9, 2), (11, 1)]) (z := [.int .i8 0, .int .i64 0, .int .i64 0, .int .i64 0, .bool false, .slice none 0 0, .int .i64 0, .int .i64 0, .int .i64 0, .int .i64 0, .int .i64 0, .int .i64 0]) (cs := [_, _, _, _, _, _, _, _, _, _, _, _]) S (by kernel_rfl) rfl rfl) ?_; clear S a; intro a S
        refine st_store (sz := 12) (us := [_, _, _, _, _, _, _, _, _, _, _, _]) S M 3 rfl (by kernel_rfl) rfl rfl rfl rfl rfl rfl (by first | decide | (simp; done) | (simp; omega)) ?_; clear M; intro w56 M
        simp only [putL, List.set_cons_zero, List.set_cons_succ, Nat.reduceAdd] at M
        refine st_y S rfl rfl rfl (y_assign S rfl) ?_; clear S a; intro a S
        refine wpList_nil ?_
        replace S := S.sub [(0, _), (2, _), (4, _), (5, _), (92, _), (3, _)] rfl
        refine then_normal ?_
        refine wp_ret ?_
        refine then_ret ?_
        refine end_two S rfl (res_agg (cs := [_, _, _, _, _, _, _, _, _, _, _, _]) (by kernel_rfl) rfl rfl (M.cellsAt (k := 12) 3 rfl rfl)) (res_tmp rfl) ?_
        refine ⟨Rc.zero, [], .slice none 0 0, 40, rfl, M.freshNil _ _, .inr ⟨rfl, rfl, rfl, rfl, fun r' x' hm he => ?_⟩⟩
        have hx := hgo' r' x' hm he
        simp only [Prod.mk.injEq] at hx
        obtain ⟨rfl, rfl, rfl⟩ := hx
        first
          | (cases h79; done)
          | (exact absurd rfl h88)
          | (rw [hm] at h92; simp at h92; done)
      · clear S; intro h79 S
        refine st_y S rfl rfl rfl (y_move S rfl) ?_; clear S a; intro a S
        refine st_y S rfl rfl rfl (y_nilCheck S rfl) ?_; clear S a; intro a S
        refine st_y S rfl rfl rfl (y_fieldAddr (k := 1) S (by kernel_rfl) rfl) ?_; clear S a; intro a S
        refine st_y S rfl rfl rfl (y_load S (by kernel_rfl) rfl (M.cell 1 rfl rfl)) ?_; clear S a; intro a S
        refine st_y S rfl rfl rfl (y_move S rfl) ?_; clear S a; intro a S
        refine st_y S rfl rfl rfl (y_lenR (E := 5) S rfl ((M.arg hv)) (by kernel_rfl)) ?_; clear S a; intro a S
        refine st_y S rfl rfl rfl (y_int S rfl rfl rfl) ?_; clear S a; intro a S
        refine st_y S rfl rfl rfl (y_pickF S rfl rfl) ?_; clear S a; intro a S
        refine st_y S rfl rfl rfl (y_move S rfl) ?_; clear S a; intro a S
        refine st_split (t := 88) S rfl ?_ ?_
        · clear S; intro h88 S
          first | replace h88 := nrmA h88 | replace h88 := nrmB h88 | skip
          first | replace h88 := nrm1 h88 | replace h88 := nrm2 h88 | replace h88 := nrm3 h88 | replace h88 := nrm4 h88 | replace h88 := nrm5 h88 | replace h88 := nrm6 h88 | replace h88 := of_decide_eq_true h88 | replace h88 := of_decide_eq_false h88 | skip
          refine st_no S rfl rfl rfl ?_; clear S a; intro a S
          refine st_no S rfl rfl rfl ?_; clear S a; intro a S
          refine st_no S rfl rfl rfl ?_; clear S a; intro a S
          refine st_y S rfl rfl rfl (y_pickT S rfl rfl) ?_; clear S a; intro a S
          refine wpList_nil ?_
          replace S := S.sub [(0, _), (2, _), (4, _), (5, _), (92, _)] rfl
          refine then_normal ?_
          refine st_condT S rfl ?_
          refine wp_seq ?_
          -- region 22 ref.go:258
          refine wp_region_lit ?_
          refine st_y S rfl rfl rfl (y_build (ps := []) (pl := [(0, 1), (1, 3), (4, 1), (5, 1), (6, 1), (7, 1), (8, 1), (9, 2), (11, 1)]) (z := [.int .i8 0, .int .i64 0, .int .i64 0, .int .i64 0, .bool false, .slice none 0 0, .int .i64 0, .int .i64 0, .int .i64 0, .int .i64 0, .int .i64 0, .int .i64 0]) (cs := [_, _, _, _, _, _, _, _, _, _, _, _]) S (by kernel_rfl) rfl rfl) ?_; clear S a; intro a S
          refine st_store (sz := 12) (us := [_, _, _, _, _, _, _, _, _, _, _, _]) S M 3 rfl (by kernel_rfl) rfl rfl rfl rfl rfl rfl (by first | decide | (simp; done) | (simp; omega)) ?_; clear M; intro w57 M
          simp only [putL, List.set_cons_zero, List.set_cons_succ, Nat.reduceAdd] at M
          refine st_y S rfl rfl rfl (y_assign S rfl) ?_; clear S a; intro a S
          refine wpList_nil ?_
          replace S := S.sub [(0, _), (2, _), (4, _), (5, _), (92, _), (3, _)] rfl
          refine then_normal ?_
          refine wp_ret ?_
          refine then_ret ?_
          refine end_two S rfl (res_agg (cs := [_, _, _, _, _, _, _, _, _, _, _, _]) (by kernel_rfl) rfl rfl (M.cellsAt (k := 12) 3 rfl rfl)) (res_tmp rfl) ?_
          refine ⟨Rc.zero, [], .slice none 0 0, 40, rfl, M.freshNil _ _, .inr ⟨rfl, rfl, rfl, rfl, fun r' x' hm he => ?_⟩⟩
          have hx := hgo' r' x' hm he
          simp only [Prod.mk.injEq] at hx
          obtain ⟨rfl, rfl, rfl⟩ := hx
          first
            | (cases h79; done)
            | (exact absurd rfl h88)
            | (rw [hm] at h92; simp at h92; done)
        · clear S; intro h88 S
          first | replace h88 := nrmA h88 | replace h88 := nrmB h88 | skip
          first | replace h88 := nrm1 h88 | replace h88 := nrm2 h88 | replace h88 := nrm3 h88 | replace h88 := nrm4 h88 | replace h88 := nrm5 h88 | replace h88 := nrm6 h88 | replace h88 := of_decide_eq_true h88 | replace h88 := of_decide_eq_false h88 | skip
          refine st_y S rfl rfl rfl (y_loadAgg (cs := [_, _, _, _, _, _, _, _, _, _, _, _]) S (by kernel_rfl) rfl rfl (M.cellsAt (k := 12) 2 rfl rfl)) ?_; clear S a; intro a S
          refine st_call (xs := [(Operand.tmp 89)]) S (enters_of Try.func19 (by decide) rfl) rfl rfl rfl (rMay_any r ad x.length cp x _ (by omega) (M.readAll 0 rfl (by unfold maxLen; omega))) ?_
          rintro _ w58 ⟨rfl, hK⟩; refine ⟨_, rfl, ?_⟩; clear S a; intro a S; replace M := M.grow hK
          refine st_y S rfl rfl rfl (y_not S rfl) ?_; clear S a; intro a S
          refine st_y S rfl rfl rfl (y_pickF S rfl rfl) ?_; clear S a; intro a S
          refine wpList_nil ?_
          replace S := S.sub [(0, _), (2, _), (4, _), (5, _), (92, _)] rfl
          refine then_normal ?_
          refine st_split (t := 92) S rfl ?_ ?_
          · clear S; intro h92 S
            refine st_condT S rfl ?_
            refine wp_seq ?_
            -- region 22 ref.go:258
            refine wp_region_lit ?_
            refine st_y S rfl rfl rfl (y_build (ps := []) (pl := [(0, 1), (1, 3), (4, 1), (5, 1), (6, 1), (7, 1), (8, 1), (9, 2), (11, 1)]) (z := [.int .i8 0, .int .i64 0, .int .i64 0, .int .i64 0, .bool false, .slice none 0 0, .int .i64 0, .int .i64 0, .int .i64 0, .int .i64 0, .int .i64 0, .int .i64 0]) (cs := [_, _, _, _, _, _, _, _, _, _, _, _]) S (by kernel_rfl) rfl rfl) ?_; clear S a; intro a S
            refine st_store (sz := 12) (us := [_, _, _, _, _, _, _, _, _, _, _, _]) S M 3 rfl (by kernel_rfl) rfl rfl rfl rfl rfl rfl (by first | decide | (simp; done) | (simp; omega)) ?_; clear M; intro w59 M
            simp only [putL, List.set_cons_zero, List.set_cons_succ, Nat.reduceAdd] at M
            refine st_y S rfl rfl rfl (y_assign S rfl) ?_; clear S a; intro a S
            refine wpList_nil ?_
            replace S := S.sub [(0, _), (2, _), (4, _), (5, _), (92, _), (3, _)] rfl
            refine then_normal ?_
            refine wp_ret ?_
            refine then_ret ?_
            refine end_two S rfl (res_agg (cs := [_, _, _, _, _, _, _, _, _, _, _, _]) (by kernel_rfl) rfl rfl (M.cellsAt (k := 12) 3 rfl rfl)) (res_tmp rfl) ?_
            refine ⟨Rc.zero, [], .slice none 0 0, 40, rfl, M.freshNil _ _, .inr ⟨rfl, rfl, rfl, rfl, fun r' x' hm he => ?_⟩⟩
            have hx := hgo' r' x' hm he
            simp only [Prod.mk.injEq] at hx
            obtain ⟨rfl, rfl, rfl⟩ := hx
            first
              | (cases h79; done)
              | (exact absurd rfl h88)
              | (rw [hm] at h92; simp at h92; done)
          · clear S; intro h92 S
            refine st_condF S rfl ?_
            refine wp_skip ?_
            refine then_normal ?_
            refine wp_seq ?_
            -- region 23 ref.go:260
            refine wp_region_lit ?_
            refine st_y S rfl rfl rfl (y_loadAgg (cs := [_, _, _, _, _, _, _, _, _, _, _, _]) S (by kernel_rfl) rfl rfl (M.cellsAt (k := 12) 2 rfl rfl)) ?_; clear S a; intro a S
            refine st_store (sz := 12) (us := [_, _, _, _, _, _, _, _, _, _, _, _]) S M 3 rfl (by kernel_rfl) rfl rfl rfl rfl rfl rfl (by first | decide | (simp; done) | (simp; omega)) ?_; clear M; intro w60 M
            simp only [putL, List.set_cons_zero, List.set_cons_succ, Nat.reduceAdd] at M
            refine st_y S rfl rfl rfl (y_assign S rfl) ?_; clear S a; intro a S
            refine wpList_nil ?_
            replace S := S.sub [(0, _), (2, _), (4, _), (5, _), (92, _), (3, _)] rfl
            refine then_normal ?_
            refine wp_ret ?_
            refine end_two S rfl (res_agg (cs := [_, _, _, _, _, _, _, _, _, _, _, _]) (by kernel_rfl) rfl rfl (M.cellsAt (k := 12) 3 rfl rfl)) (res_tmp rfl) ?_
            have hm : r.may x = true := by simpa using h92
            have hbad : s.bad = false := h79
            have hat : s.at_ = bs.length := by omega
            have hne : bs.length ≠ 0 := fun h0 => by
              have h1 := hE h0
              rw [h1] at hkk hq
              have hk0 : kk = 0 := by rw [← hkk]; rfl
              have hkr := kinds hm
              have : r.kind = kk := by
                have : (rBody bs kk ⟨0, true⟩).1.kind = kk := by unfold rBody; (repeat' split) <;> rfl
                rw [hq] at this; exact this
              omega
            obtain ⟨b, hb0⟩ : ∃ b, bs[0]? = some b := ⟨_, List.getElem?_eq_getElem (by omega)⟩
            have h1 := hBb b hb0
            have h2 := h127 b hb0
            have hk : kk = (b.toNat : Int) := by rw [← hkk, h1]; simp only; omega
            rw [h1, hk] at hq
            have he := ref_ok hb0 h2 _ hq hbad hat hm
            exact ⟨r, x, _, 0, rfl, M.fresh 0 rfl, .inl ⟨rfl, hm, he⟩⟩

/-! ### the law -/
theorem readPost_same {bs : List UInt8} {r r' : Rc} {x x' : List Wr} {c c' : Int}
    (h : (c = 0 ∧ r.may x = true ∧ r.enc x = bs) ∨ (c = 40 ∧ r = Rc.zero ∧ x = [] ∧ ∀ (r : Rc) (x : List Wr), r.may x = true → r.enc x ≠ bs))
    (h' : (c' = 0 ∧ r'.may x' = true ∧ r'.enc x' = bs) ∨ (c' = 40 ∧ r' = Rc.zero ∧ x' = [] ∧ ∀ (r : Rc) (x : List Wr), r.may x = true → r.enc x ≠ bs)) : c = c' ∧ r = r' ∧ x = x' := by
  rcases h with ⟨h1, h2, h3⟩ | ⟨h1, h2, h3, h4⟩ <;> rcases h' with ⟨g1, g2, g3⟩ | ⟨g1, g2, g3, g4⟩
  · have := enc_inj h2 g2 (rest := []) (by rw [h3, g3, List.append_nil])
    exact ⟨by omega, this.1, this.2.1⟩
  · exact absurd h3 (g4 r x h2)
  · exact absurd g3 (h4 r' x' g2)
  · exact ⟨by omega, by rw [h2, g2], by rw [h3, g3]⟩
/-- the longest that what is read can be -/
theorem reads_law (v : Value) (bs : List UInt8) (w : World) (hv : Bs 0 w.heap.size w v bs) : Calls Try.prog 3 #[v] w fun e w' => e = .returned (.bool true) ∧ Below w.heap.size w w' := by
  have M := Mem.start w
  refine calls_enter Try.func3 rfl 32 rfl rfl ?_; intro a S
  refine wp_seq ?_
  -- region 0 law.go:31
  refine wp_region_lit ?_
  refine st_y S rfl rfl rfl (y_assign S rfl) ?_; clear S a; intro a S
  refine wpList_nil ?_
  replace S := S.sub [(0, _), (2, _)] rfl
  refine then_normal ?_
  refine wp_seq ?_
  refine wp_seq ?_
  -- region 1 law.go:32
  refine wp_region_lit ?_
  refine st_y S rfl rfl rfl (y_move S rfl) ?_; clear S a; intro a S
  refine st_y S rfl rfl rfl (y_lenR (E := 5) S rfl (M.arg hv) (by kernel_rfl)) ?_; clear S a; intro a S
  refine st_y S rfl rfl rfl (y_int S rfl rfl rfl) ?_; clear S a; intro a S
  refine wpList_nil ?_
  replace S := S.sub [(0, _), (2, _), (9, _)] rfl
  refine then_normal ?_
  refine st_split (t := 9) S rfl ?_ ?_
  · clear S; intro h9 S
    first | replace h9 := nrmA h9 | replace h9 := nrmB h9 | skip
    first | replace h9 := nrm1 h9 | replace h9 := nrm2 h9 | replace h9 := nrm3 h9 | replace h9 := nrm4 h9 | replace h9 := nrm5 h9 | replace h9 := nrm6 h9 | replace h9 := of_decide_eq_true h9 | replace h9 := of_decide_eq_false h9 | skip
    refine st_condT S rfl ?_
    refine wp_seq ?_
    -- region 2 law.go:33
    refine wp_region_lit ?_
    refine st_call (xs := []) S (enters_of Try.func8 (by decide) rfl) rfl rfl rfl (wakes_any _) ?_
    rintro _ w1 ⟨rfl, hK⟩; refine ⟨_, rfl, ?_⟩; clear S a; intro a S; replace M := M.grow hK
    refine st_y S rfl rfl rfl (y_assign S rfl) ?_; clear S a; intro a S
    refine wpList_nil ?_
    replace S := S.sub [(0, _), (9, _), (2, _)] rfl
    refine then_normal ?_
    refine wp_ret ?_
    refine then_ret ?_
    refine end_one S rfl (res_tmp rfl) ?_
    exact ⟨rfl, M.below⟩
  · clear S; intro h9 S
    first | replace h9 := nrmA h9 | replace h9 := nrmB h9 | skip
    first | replace h9 := nrm1 h9 | replace h9 := nrm2 h9 | replace h9 := nrm3 h9 | replace h9 := nrm4 h9 | replace h9 := nrm5 h9 | replace h9 := nrm6 h9 | replace h9 := of_decide_eq_true h9 | replace h9 := of_decide_eq_false h9 | skip
    refine st_condF S rfl ?_
    refine wp_skip ?_
    refine then_normal ?_
    refine wp_seq ?_
    -- region 3 law.go:35
    refine wp_region_lit ?_
    refine st_y S rfl rfl rfl (y_move S rfl) ?_; clear S a; intro a S
    refine st_call (xs := [(Operand.tmp 12)]) S (enters_of Try.func9 (by decide) rfl) rfl rfl rfl (read_any _ bs _ (M.argW hv)) ?_
    rintro _ w2 hR
    obtain ⟨r1, x1, ad1, cp1, c1, rfl, hF1, hx1, -, hc1⟩ := hR.form
    refine ⟨_, rfl, ?_⟩; clear S a; intro a S
    obtain ⟨lo3, hi3, -, M⟩ := M.pushFresh hF1
    refine st_y S rfl rfl rfl (y_move S rfl) ?_; clear S a; intro a S
    refine st_y S rfl rfl rfl (y_extract S rfl rfl) ?_; clear S a; intro a S
    refine st_y S rfl rfl rfl (y_extract S rfl rfl) ?_; clear S a; intro a S
    refine st_alloc S M rfl rfl #[.int .i8 0, .int .i64 0, .int .i64 0, .int .i64 0, .bool false, .slice none 0 0, .int .i64 0, .int .i64 0, .int .i64 0, .int .i64 0, .int .i64 0, .int .i64 0] (by kernel_rfl) ?_; clear S M a; intro a w3 b1 S M hB
    refine st_store (sz := 12) (us := [_, _, _, _, _, _, _, _, _, _, _, _]) S M 0 rfl (by kernel_rfl) rfl rfl rfl rfl rfl rfl (by first | decide | (simp; done) | (simp; omega)) ?_; clear M; intro w4 M
    simp only [putL, List.set_cons_zero, List.set_cons_succ, Nat.reduceAdd] at M
    refine st_y S rfl rfl rfl (y_assign S rfl) ?_; clear S a; intro a S
    refine wpList_nil ?_
    replace S := S.sub [(0, _), (2, _), (9, _), (3, _), (4, _)] rfl
    refine then_normal ?_
    refine wp_seq ?_
    -- region 4 law.go:36
    refine wp_region_lit ?_
    refine st_y S rfl rfl rfl (y_move S rfl) ?_; clear S a; intro a S
    refine st_call (xs := [(Operand.tmp 17)]) S (enters_of Try.func10 (by decide) rfl) rfl rfl rfl (rRead_any _ bs _ (M.argW hv)) ?_
    rintro _ w5 hR
    obtain ⟨r2, x2, ad2, cp2, c2, rfl, hF2, hx2, -, hc2⟩ := hR.form
    refine ⟨_, rfl, ?_⟩; clear S a; intro a S
    obtain ⟨rfl, rfl, rfl⟩ := readPost_same hc1 hc2
    obtain ⟨lo4, hi4, -, M⟩ := M.pushFresh hF2
    refine st_y S rfl rfl rfl (y_move S rfl) ?_; clear S a; intro a S
    refine st_y S rfl rfl rfl (y_extract S rfl rfl) ?_; clear S a; intro a S
    refine st_y S rfl rfl rfl (y_extract S rfl rfl) ?_; clear S a; intro a S
    refine st_alloc S M rfl rfl #[.int .i8 0, .int .i64 0, .int .i64 0, .int .i64 0, .bool false, .slice none 0 0, .int .i64 0, .int .i64 0, .int .i64 0, .int .i64 0, .int .i64 0, .int .i64 0] (by kernel_rfl) ?_; clear S M a; intro a w6 b2 S M hB
    refine st_store (sz := 12) (us := [_, _, _, _, _, _, _, _, _, _, _, _]) S M 0 rfl (by kernel_rfl) rfl rfl rfl rfl rfl rfl (by first | decide | (simp; done) | (simp; omega)) ?_; clear M; intro w7 M
    simp only [putL, List.set_cons_zero, List.set_cons_succ, Nat.reduceAdd] at M
    refine st_y S rfl rfl rfl (y_assign S rfl) ?_; clear S a; intro a S
    refine wpList_nil ?_
    replace S := S.sub [(0, _), (2, _), (9, _), (3, _), (4, _), (5, _), (6, _)] rfl
    refine then_normal ?_
    refine wp_seq ?_
    -- region 5 law.go:37
    refine wp_region_lit ?_
    refine st_y S rfl rfl rfl (y_loadAgg (cs := [_, _, _, _, _, _, _, _, _, _, _, _]) S (by kernel_rfl) rfl rfl (M.cellsAt (k := 12) 2 rfl rfl)) ?_; clear S a; intro a S
    refine st_y S rfl rfl rfl (y_loadAgg (cs := [_, _, _, _, _, _, _, _, _, _, _, _]) S (by kernel_rfl) rfl rfl (M.cellsAt (k := 12) 0 rfl rfl)) ?_; clear S a; intro a S
    refine st_call (xs := [(Operand.tmp 21), (Operand.tmp 22)]) S (enters_of Try.func11 (by decide) rfl) rfl rfl rfl (same_any r1 r1 _ _ x1 x1 _ (M.readAll 3 rfl (by unfold maxLen; omega)) (M.readAll 1 rfl (by unfold maxLen; omega))) ?_
    rintro _ w8 ⟨rfl, hK⟩; refine ⟨_, rfl, ?_⟩; clear S a; intro a S; replace M := M.grow hK
    rw [Rc.same_iff.2 ⟨rfl, rfl⟩] at S
    refine st_y S rfl rfl rfl (y_move S rfl) ?_; clear S a; intro a S
    refine st_split (t := 24) S rfl ?_ ?_
    · clear S; intro h24 S
      first | replace h24 := nrmA h24 | replace h24 := nrmB h24 | skip
      first | replace h24 := nrm1 h24 | replace h24 := nrm2 h24 | replace h24 := nrm3 h24 | replace h24 := nrm4 h24 | replace h24 := nrm5 h24 | replace h24 := nrm6 h24 | replace h24 := of_decide_eq_true h24 | replace h24 := of_decide_eq_false h24 | skip
      refine st_y S rfl rfl rfl (y_move S rfl) ?_; clear S a; intro a S
      refine st_y S rfl rfl rfl (y_move S rfl) ?_; clear S a; intro a S
      refine st_y S rfl rfl rfl (y_int S rfl rfl rfl) ?_; clear S a; intro a S
      refine st_y S rfl rfl rfl (y_pickT S rfl rfl) ?_; clear S a; intro a S
      refine st_y S rfl rfl rfl (y_move S rfl) ?_; clear S a; intro a S
      refine st_split (t := 29) S rfl ?_ ?_
      · clear S; intro h29 S
        first | replace h29 := nrmA h29 | replace h29 := nrmB h29 | skip
        first | replace h29 := nrm1 h29 | replace h29 := nrm2 h29 | replace h29 := nrm3 h29 | replace h29 := nrm4 h29 | replace h29 := nrm5 h29 | replace h29 := nrm6 h29 | replace h29 := of_decide_eq_true h29 | replace h29 := of_decide_eq_false h29 | skip
        refine st_call (xs := []) S (enters_of Try.func8 (by decide) rfl) rfl rfl rfl (wakes_any _) ?_
        rintro _ w9 ⟨rfl, hK⟩; refine ⟨_, rfl, ?_⟩; clear S a; intro a S; replace M := M.grow hK
        refine st_y S rfl rfl rfl (y_pickT S rfl rfl) ?_; clear S a; intro a S
        refine st_y S rfl rfl rfl (y_assign S rfl) ?_; clear S a; intro a S
        refine wpList_nil ?_
        replace S := S.sub [(0, _), (9, _), (3, _), (4, _), (5, _), (6, _), (2, _)] rfl
        refine then_normal ?_
        refine wp_ret ?_
        refine end_one S rfl (res_tmp rfl) ?_
        exact ⟨rfl, M.below⟩
      · clear S; intro h29 S
        first | replace h29 := nrmA h29 | replace h29 := nrmB h29 | skip
        first | replace h29 := nrm1 h29 | replace h29 := nrm2 h29 | replace h29 := nrm3 h29 | replace h29 := nrm4 h29 | replace h29 := nrm5 h29 | replace h29 := nrm6 h29 | replace h29 := of_decide_eq_true h29 | replace h29 := of_decide_eq_false h29 | skip
        simp at h29
    · clear S; intro h24 S
      first | replace h24 := nrmA h24 | replace h24 := nrmB h24 | skip
      first | replace h24 := nrm1 h24 | replace h24 := nrm2 h24 | replace h24 := nrm3 h24 | replace h24 := nrm4 h24 | replace h24 := nrm5 h24 | replace h24 := nrm6 h24 | replace h24 := of_decide_eq_true h24 | replace h24 := of_decide_eq_false h24 | skip
      simp at h24

end Go.Proofs.Ytbaoodlkcbiclaa
