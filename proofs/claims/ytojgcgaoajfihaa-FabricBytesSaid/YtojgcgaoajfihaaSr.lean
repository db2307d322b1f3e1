/-
  The document's layer 7: its reader, over bytes that lie anywhere.
-/
import Derived.Test.YtojgcgaoajfihaaSq
import Derived.Test.YtojgcgaoajfihaaRdh
import Derived.Test.YtojgcgaoajfihaaWs
namespace Go.Proofs.Ytojgcgaoajfihaa
open Go.RowKit Go.Sort

theorem byteH_any {wc w : World} {H : List Ent} {bf : Nat} {bv : Value} {s : Rs} {bs : List UInt8} (M : Mem wc w (.blk bf (rdC bv s) 87 :: H)) (hb : RdH wc H bv bs) :
    Calls Try.prog 45 #[.pointer (some ⟨bf, 0, none⟩)] w fun e w' => e = .returned (.int .i64 (tk bs 1 s).1) ∧ Mem wc w' (.blk bf (rdC bv (tk bs 1 s).2) 87 :: H) := by
  have hl := (hb.at M).2.1
  unfold maxLen at hl
  refine calls_enter Try.func45 rfl 36 rfl rfl ?_; intro a S
  refine wp_seq ?_
  skip
  refine wp_region_lit ?_
  refine st_go [1] S rfl (by kernel_rfl) ?_; clear S a; intro a S
  refine nxC ?_
  refine wp_seq ?_
  refine wp_seq ?_
  refine wp_quiet M (by kernel_rfl) (by kernel_rfl) ?_
  refine qt_y S rfl rfl rfl (fun w M => y_move S rfl) ?_; clear S a; intro a S
  refine qt_y S rfl rfl rfl (fun w M => y_nilCheck S rfl) ?_; clear S a; intro a S
  refine qt_y S rfl rfl rfl (fun w M => y_fieldAddr (k := 1) S (by kernel_rfl) rfl) ?_; clear S a; intro a S
  refine qt_y S rfl rfl rfl (fun w M => y_load S (by kernel_rfl) rfl (M.cell 0 rfl rfl)) ?_; clear S a; intro a S
  refine qt_y S rfl rfl rfl (fun w M => y_move S rfl) ?_; clear S a; intro a S
  refine qt_y S rfl rfl rfl (fun w M => y_nilCheck S rfl) ?_; clear S a; intro a S
  refine qt_y S rfl rfl rfl (fun w M => y_fieldAddr (k := 0) S (by kernel_rfl) rfl) ?_; clear S a; intro a S
  refine qt_y S rfl rfl rfl (fun w M => y_load S (by kernel_rfl) rfl (M.cell 0 rfl rfl)) ?_; clear S a; intro a S
  refine qt_y S rfl rfl rfl (fun w M => y_lenR (E := 5) S rfl (hb.at M) (by kernel_rfl)) ?_; clear S a; intro a S
  refine qt_y S rfl rfl rfl (fun w M => y_int S rfl rfl rfl) ?_; clear S a; intro a S
  refine wpQuiet_nil ?_; clear M; intro w1 M
  refine then_normal ?_
  refine st_if (t := 13) S rfl ?_ ?_
  · clear S; intro h13 S
    refine st_condT S rfl ?_
    refine wp_seq ?_
    have hno : ¬ s.at_ + 1 ≤ bs.length := by omega
    refine wp_region_lit ?_
    refine st_go [1, 1, 3] S rfl (by kernel_rfl) ?_; clear S a; intro a S
    refine st_store (sz := 1) (us := [_]) S M 0 rfl (by kernel_rfl) rfl rfl rfl rfl rfl rfl (by first | decide | (simp; done) | (simp; omega)) ?_; clear M; intro w2 M
    simp only [putL, List.set_cons_zero, List.set_cons_succ, Nat.reduceAdd] at M
    refine nxA ?_
    refine st_go [1] S rfl (by kernel_rfl) ?_; clear S a; intro a S
    refine nxC ?_
    refine wp_ret ?_
    refine then_ret ?_
    refine end_one S rfl (res_tmp rfl) ?_
    unfold tk; rw [if_neg hno]; exact ⟨rfl, M⟩
  clear S; intro h13 S
  refine st_condF S rfl ?_
  refine wp_skip ?_
  refine then_normal ?_
  refine wp_seq ?_
  have hin : s.at_ + 1 ≤ bs.length := by omega
  obtain ⟨b, hb0⟩ : ∃ b, bs[s.at_]? = some b := ⟨_, List.getElem?_eq_getElem (by omega)⟩
  have hbl := UInt8.toNat_lt b
  have htk : tk bs 1 s = ((b.toNat : Int), ⟨s.at_ + 1, s.bad⟩) := by
    unfold tk; rw [if_pos hin]
    obtain ⟨hlt, he⟩ := List.getElem?_eq_some_iff.1 hb0
    rw [List.drop_eq_getElem_cons hlt, he]
    simp [leN]
  refine wp_quiet M (by kernel_rfl) (by kernel_rfl) ?_
  refine qt_y S rfl rfl rfl (fun w M => y_move S rfl) ?_; clear S a; intro a S
  refine qt_y S rfl rfl rfl (fun w M => y_nilCheck S rfl) ?_; clear S a; intro a S
  refine qt_y S rfl rfl rfl (fun w M => y_fieldAddr (k := 0) S (by kernel_rfl) rfl) ?_; clear S a; intro a S
  refine qt_y S rfl rfl rfl (fun w M => y_load S (by kernel_rfl) rfl (M.cell 0 rfl rfl)) ?_; clear S a; intro a S
  refine qt_y S rfl rfl rfl (fun w M => y_move S rfl) ?_; clear S a; intro a S
  refine qt_y S rfl rfl rfl (fun w M => y_nilCheck S rfl) ?_; clear S a; intro a S
  refine qt_y S rfl rfl rfl (fun w M => y_fieldAddr (k := 1) S (by kernel_rfl) rfl) ?_; clear S a; intro a S
  refine qt_y S rfl rfl rfl (fun w M => y_load S (by kernel_rfl) rfl (M.cell 0 rfl rfl)) ?_; clear S a; intro a S
  refine qt_y S rfl rfl rfl (fun w M => y_indexR (e := 5) (sz := 1) S (by kernel_rfl) rfl (hb.at M) rfl (by first | omega | (simp; done) | (simp; omega))) ?_; clear S a; intro a S
  try simp only [Int.toNat_natCast, Nat.mul_one, Nat.zero_add] at S
  refine qt_y S rfl rfl rfl (fun w M => y_load S (by kernel_rfl) rfl ((hb.at M).byte hb0)) ?_; clear S a; intro a S
  (first | refine qt_y S rfl rfl rfl (fun w M => y_to64 S rfl (by kernel_rfl) (by kernel_rfl) (by omega)) ?_ | refine qt_y S rfl rfl rfl (fun w M => y_conv (k' := .i64) S rfl (by kernel_rfl) (by kernel_rfl)) ?_); clear S a; intro a S
  refine qt_y S rfl rfl rfl (fun w M => y_assign S rfl) ?_; clear S a; intro a S
  refine wpQuiet_nil ?_; clear M; intro w3 M
  replace S := S.sub [(0, _), (2, _), (13, _), (3, _)] rfl
  refine nxE ?_
  refine st_run [1, 1, 2, 1] S M rfl (by kernel_rfl) ?_; clear S a; intro a S
  (first | refine st_y S rfl rfl rfl (y_addN S rfl rfl (by omega)) ?_ | refine st_y S rfl rfl rfl (y_int S rfl rfl rfl) ?_); clear S a; intro a S
  refine st_go [1, 2] S rfl (by kernel_rfl) ?_; clear S a; intro a S
  refine st_store (sz := 1) (us := [_]) S M 0 rfl (by kernel_rfl) rfl rfl rfl rfl rfl rfl (by first | decide | (simp; done) | (simp; omega)) ?_; clear M; intro w4 M
  simp only [putL, List.set_cons_zero, List.set_cons_succ, Nat.reduceAdd] at M
  refine nxA ?_
  refine st_go [1, 1] S rfl (by kernel_rfl) ?_; clear S a; intro a S
  refine nxC ?_
  refine wp_ret ?_
  refine end_one S rfl (res_tmp rfl) ?_
  rw [htk]
  refine ⟨rfl, ?_⟩
  have e : ((s.at_ + 1 : Nat) : Int) = (s.at_ : Int) + 1 := by omega
  simp only [rdC, e]
  exact M
theorem threeH_any {wc w : World} {H : List Ent} {bf : Nat} {bv : Value} {s : Rs} {bs : List UInt8} (M : Mem wc w (.blk bf (rdC bv s) 87 :: H)) (hb : RdH wc H bv bs) :
    Calls Try.prog 46 #[.pointer (some ⟨bf, 0, none⟩)] w fun e w' => e = .returned (.int .i64 (r3 bs s).1) ∧ Mem wc w' (.blk bf (rdC bv (r3 bs s).2) 87 :: H) := by
  have b1 := tk1_bd bs s
  have b2 := tk1_bd bs (tk bs 1 s).2
  have b3 := tk1_bd bs (tk bs 1 (tk bs 1 s).2).2
  refine calls_enter Try.func46 rfl 19 rfl rfl ?_; intro a S
  refine wp_seq ?_
  skip
  refine wp_region_lit ?_
  refine st_go [1] S rfl (by kernel_rfl) ?_; clear S a; intro a S
  refine nxA ?_
  refine st_go [1] S rfl (by kernel_rfl) ?_; clear S a; intro a S
  refine st_call (xs := [(Operand.tmp 6)]) S (enters_of Try.func45 (by decide) rfl) rfl rfl rfl (byteH_any M hb) ?_
  rintro _ w1 ⟨rfl, M1⟩; refine ⟨_, rfl, ?_⟩; clear S a; intro a S; replace M := M1
  refine st_go [1] S rfl (by kernel_rfl) ?_; clear S a; intro a S
  refine nxA ?_
  refine st_go [1] S rfl (by kernel_rfl) ?_; clear S a; intro a S
  refine st_call (xs := [(Operand.tmp 8)]) S (enters_of Try.func45 (by decide) rfl) rfl rfl rfl (byteH_any M hb) ?_
  rintro _ w2 ⟨rfl, M1⟩; refine ⟨_, rfl, ?_⟩; clear S a; intro a S; replace M := M1
  refine st_go [1] S rfl (by kernel_rfl) ?_; clear S a; intro a S
  refine nxA ?_
  refine st_go [1] S rfl (by kernel_rfl) ?_; clear S a; intro a S
  refine st_call (xs := [(Operand.tmp 10)]) S (enters_of Try.func45 (by decide) rfl) rfl rfl rfl (byteH_any M hb) ?_
  rintro _ w3 ⟨rfl, M1⟩; refine ⟨_, rfl, ?_⟩; clear S a; intro a S; replace M := M1
  refine st_go [1] S rfl (by kernel_rfl) ?_; clear S a; intro a S
  refine nxA ?_
  refine st_go [1, 1] S rfl (by kernel_rfl) ?_; clear S a; intro a S
  (first | refine st_y S rfl rfl rfl (y_shlN S rfl rfl (by omega) (by simp only [show ((8 : Int).toNat) = 8 from rfl, show ((16 : Int).toNat) = 16 from rfl]; omega)) ?_ | refine st_y S rfl rfl rfl (y_shl S rfl rfl (by omega)) ?_); clear S a; intro a S
  (first | refine st_y S rfl rfl rfl (y_addN S rfl rfl (by simp only [show ((8 : Int).toNat) = 8 from rfl, show ((16 : Int).toNat) = 16 from rfl]; omega)) ?_ | refine st_y S rfl rfl rfl (y_int S rfl rfl rfl) ?_); clear S a; intro a S
  refine st_go [1] S rfl (by kernel_rfl) ?_; clear S a; intro a S
  (first | refine st_y S rfl rfl rfl (y_shlN S rfl rfl (by omega) (by simp only [show ((8 : Int).toNat) = 8 from rfl, show ((16 : Int).toNat) = 16 from rfl]; omega)) ?_ | refine st_y S rfl rfl rfl (y_shl S rfl rfl (by omega)) ?_); clear S a; intro a S
  (first | refine st_y S rfl rfl rfl (y_addN S rfl rfl (by simp only [show ((8 : Int).toNat) = 8 from rfl, show ((16 : Int).toNat) = 16 from rfl]; omega)) ?_ | refine st_y S rfl rfl rfl (y_int S rfl rfl rfl) ?_); clear S a; intro a S
  refine st_go [1] S rfl (by kernel_rfl) ?_; clear S a; intro a S
  replace S := S.sub [(0, _), (3, _), (4, _), (5, _), (2, _)] rfl
  refine nxC ?_
  refine wp_ret ?_
  refine end_one S rfl (res_tmp rfl) ?_
  exact ⟨rfl, M⟩
theorem nameH_any {wc w : World} {H : List Ent} {bf : Nat} {bv : Value} {s : Rs} {bs : List UInt8} (M : Mem wc w (.blk bf (rdC bv s) 87 :: H)) (hb : RdH wc H bv bs) :
    Calls Try.prog 47 #[.pointer (some ⟨bf, 0, none⟩)] w fun e w' => e = .returned (.agg (rNm bs s).1.cells) ∧ Mem wc w' (.blk bf (rdC bv (rNm bs s).2) 87 :: H) := by
  refine calls_enter Try.func47 rfl 16 rfl rfl ?_; intro a S
  refine wp_seq ?_
  skip
  refine wp_region_lit ?_
  refine st_alloc S M rfl rfl #[.int .i64 0, .int .i64 0, .int .i64 0] (by kernel_rfl) ?_; clear S M a; intro a w1 bN S M hB
  refine nxA ?_
  refine st_go [1] S rfl (by kernel_rfl) ?_; clear S a; intro a S
  replace M := M.front 1 rfl
  simp only [List.eraseIdx_cons_succ, List.eraseIdx_cons_zero] at M
  refine st_call (xs := [(Operand.tmp 6)]) S (enters_of Try.func46 (by decide) rfl) rfl rfl rfl (threeH_any M (hb.cons _)) ?_
  rintro _ w2 ⟨rfl, M1⟩; refine ⟨_, rfl, ?_⟩; clear S a; intro a S; replace M := M1
  refine st_go [1] S rfl (by kernel_rfl) ?_; clear S a; intro a S
  refine nxA ?_
  refine st_go [1] S rfl (by kernel_rfl) ?_; clear S a; intro a S
  refine st_call (xs := [(Operand.tmp 8)]) S (enters_of Try.func46 (by decide) rfl) rfl rfl rfl (threeH_any M (hb.cons _)) ?_
  rintro _ w3 ⟨rfl, M1⟩; refine ⟨_, rfl, ?_⟩; clear S a; intro a S; replace M := M1
  refine st_go [1] S rfl (by kernel_rfl) ?_; clear S a; intro a S
  refine nxA ?_
  refine st_go [1] S rfl (by kernel_rfl) ?_; clear S a; intro a S
  refine st_call (xs := [(Operand.tmp 10)]) S (enters_of Try.func46 (by decide) rfl) rfl rfl rfl (threeH_any M (hb.cons _)) ?_
  rintro _ w4 ⟨rfl, M1⟩; refine ⟨_, rfl, ?_⟩; clear S a; intro a S; replace M := M1
  refine st_go [1] S rfl (by kernel_rfl) ?_; clear S a; intro a S
  refine nxA ?_
  refine st_go [1, 1, 1] S rfl (by kernel_rfl) ?_; clear S a; intro a S
  refine st_y S rfl rfl rfl (y_build (ps := [(0, (Operand.tmp 12)), (1, (Operand.tmp 13)), (2, (Operand.tmp 14))]) (pl := [(0, 1), (1, 1), (2, 1)]) (z := [.int .i64 0, .int .i64 0, .int .i64 0]) (cs := [_, _, _]) S (by kernel_rfl) rfl (rfl)) ?_; clear S a; intro a S
  refine st_store (sz := 3) (us := [_, _, _]) S M 1 rfl (by kernel_rfl) rfl rfl rfl rfl rfl rfl (by first | decide | (simp; done) | (simp; omega)) ?_; clear M; intro w5 M
  simp only [putL, List.set_cons_zero, List.set_cons_succ, Nat.reduceAdd] at M
  refine nxC ?_
  refine wp_ret ?_
  refine end_one S rfl (res_agg (cs := [_, _, _]) (by kernel_rfl) rfl rfl (M.cellsAt (k := 3) 1 rfl rfl)) ?_
  exact ⟨rfl, M.drop 1⟩
theorem valueH_any {wc w : World} {H : List Ent} {bf : Nat} {bv : Value} {s : Rs} {bs : List UInt8} (M : Mem wc w (.blk bf (rdC bv s) 87 :: H)) (hb : RdH wc H bv bs) :
    Calls Try.prog 48 #[.pointer (some ⟨bf, 0, none⟩)] w fun e w' => e = .returned (.agg (v8 (rdBs bs 8 s).1).cellsL.toArray) ∧ Mem wc w' (.blk bf (rdC bv (rdBs bs 8 s).2) 87 :: H) := by
  refine calls_enter Try.func48 rfl 15 rfl rfl ?_; intro a S
  refine wp_seq ?_
  skip
  refine wp_region_lit ?_
  refine st_alloc S M rfl rfl #[.int .u8 0, .int .u8 0, .int .u8 0, .int .u8 0, .int .u8 0, .int .u8 0, .int .u8 0, .int .u8 0] (by kernel_rfl) ?_; clear S M a; intro a w1 bO S M hB
  refine nxA ?_
  refine st_alloc S M rfl rfl #[.int .u8 0, .int .u8 0, .int .u8 0, .int .u8 0, .int .u8 0, .int .u8 0, .int .u8 0, .int .u8 0] (by kernel_rfl) ?_; clear S M a; intro a w2 bV S M hB
  refine nxC ?_
  refine wp_seq ?_
  refine nxD ?_
  refine st_go [1] S rfl (by kernel_rfl) ?_; clear S a; intro a S
  refine nxC ?_
  refine wp_block ?_
  refine wp_loop_g (fun m a w' => ∃ (j : Nat), j ≤ 8 ∧ m = 8 - j ∧ Sees 15 a [(0, .pointer (some ⟨bf, 0, none⟩)), (2, .pointer (some ⟨bO, 0, none⟩)), (3, .pointer (some ⟨bV, 0, none⟩)), (4, .int .i64 (j : Int))] ∧ Mem wc w' (.blk bf (rdC bv (rdBs bs j s).2) 87 :: .blk bV (bcells (padB (rdBs bs j s).1)).toArray 39 :: .blk bO #[.int .u8 0, .int .u8 0, .int .u8 0, .int .u8 0, .int .u8 0, .int .u8 0, .int .u8 0, .int .u8 0] 39 :: H)) (8) ?_ ?_
  · skip
    replace M := M.front 2 rfl
    simp only [List.eraseIdx_cons_succ, List.eraseIdx_cons_zero] at M
    exact ⟨0, by omega, rfl, S.sub _ rfl, M⟩
  clear S M a; intro m a wl
  rintro ⟨j, hj, rfl, S, M⟩
  refine wp_seq ?_
  refine nxD ?_
  refine st_go [1, 1] S rfl (by kernel_rfl) ?_; clear S a; intro a S
  refine nxC ?_
  refine st_fi (t := 6) S rfl ?_ ?_
  · clear S; intro h6 S
    refine st_condF S rfl ?_
    refine wp_exit ?_
    refine then_exit ?_
    refine then_exit ?_
    refine block_hit ?_
    refine then_normal ?_
    refine wp_seq ?_
    obtain rfl : j = 8 := by omega
    rw [padB_full (rdBs_len bs 8 s)] at M
    refine wp_region_lit ?_
    refine st_y S rfl rfl rfl (y_loadAgg (cs := [_, _, _, _, _, _, _, _]) S (by kernel_rfl) rfl rfl (M.cellsAt (k := 8) 1 rfl rfl)) ?_; clear S a; intro a S
    refine st_store (sz := 8) (us := [_, _, _, _, _, _, _, _]) S M 2 rfl (by kernel_rfl) rfl rfl rfl rfl rfl rfl (by first | decide | (simp; done) | (simp; omega)) ?_; clear M; intro w5 M
    simp only [putL, List.set_cons_zero, List.set_cons_succ, Nat.reduceAdd] at M
    refine nxC ?_
    refine wp_ret ?_
    refine end_one S rfl (res_agg (cs := [_, _, _, _, _, _, _, _]) (by kernel_rfl) rfl rfl (M.cellsAt (k := 8) 2 rfl rfl)) ?_
    exact ⟨rfl, (M.drop 1).drop 1⟩
  clear S; intro h6 S
  refine st_condT S rfl ?_
  refine wp_skip ?_
  refine then_normal ?_
  refine wp_seq ?_
  refine wp_block ?_
  have hjl := rdBs_len bs j s
  refine wp_region_lit ?_
  refine st_go [1, 1] S rfl (by kernel_rfl) ?_; clear S a; intro a S
  refine st_call (xs := [(Operand.tmp 10)]) S (enters_of Try.func45 (by decide) rfl) rfl rfl rfl (byteH_any M (hb.cons2 _ _)) ?_
  rintro _ w3 ⟨rfl, M1⟩; refine ⟨_, rfl, ?_⟩; clear S a; intro a S; replace M := M1
  refine st_y S rfl rfl rfl (y_to8 S rfl (by kernel_rfl) (by kernel_rfl)) ?_; clear S a; intro a S
  refine st_y S rfl rfl rfl (y_indexA (m := 8) (sz := 1) S (by kernel_rfl) rfl rfl (by first | omega | (simp; done) | (simp; omega))) ?_; clear S a; intro a S
  try simp only [Int.toNat_natCast, Nat.mul_one, Nat.zero_add] at S
  refine st_store (sz := 1) (us := [_]) S M 1 rfl (by kernel_rfl) rfl rfl rfl rfl rfl rfl (by simp [padB, bcells, hjl]; omega) ?_; clear M; intro w4 M
  simp only [List.set_cons_zero, List.set_cons_succ] at M
  refine wpList_nil ?_
  refine block_normal ?_
  refine nxF ?_
  refine st_go [1] S rfl (by kernel_rfl) ?_; clear S a; intro a S
  (first | refine st_y S rfl rfl rfl (y_addN S rfl rfl (by omega)) ?_ | refine st_y S rfl rfl rfl (y_int S rfl rfl rfl) ?_); clear S a; intro a S
  refine st_go [1] S rfl (by kernel_rfl) ?_; clear S a; intro a S
  refine nxC ?_
  refine ⟨8 - (j + 1), by omega, j + 1, by omega, rfl, S.sub _ rfl, ?_⟩
  rw [rdBs_snoc]
  have e := padB_set0 (l := (rdBs bs j s).1) (byteOf (tk bs 1 (rdBs bs j s).2).1) (by omega)
  rw [hjl] at e
  rw [← e]
  exact M
theorem writesH_any {wc w : World} {H : List Ent} {bf : Nat} {bv : Value} {s : Rs} {bs : List UInt8} (M : Mem wc w (.blk bf (rdC bv s) 87 :: H)) (hb : RdH wc H bv bs) :
    Calls Try.prog 49 #[.pointer (some ⟨bf, 0, none⟩)] w fun e w' => ∃ v' lo hi, e = .returned v' ∧ Mem wc w' (rowE lo hi 72 9 v' (rWs bs s).1.length (wcells (rWs bs s).1) :: .blk bf (rdC bv (rWs bs s).2) 87 :: H) := by
  obtain ⟨t1, ht1⟩ : ∃ t1, tk bs 1 s = t1 := ⟨_, rfl⟩
  have hn := tk1_bd bs s
  rw [ht1] at hn
  obtain ⟨n, hn'⟩ := Int.eq_ofNat_of_zero_le hn.1
  have hn8 : n ≤ 255 := by omega
  have hrd : rWs bs s = rLoop bs n t1.2 := by unfold rWs; rw [ht1, hn', Int.toNat_natCast]
  rw [hrd]
  refine calls_enter Try.func49 rfl 33 rfl rfl ?_; intro a S
  refine wp_seq ?_
  skip
  refine wp_region_lit ?_
  refine st_go [1] S rfl (by kernel_rfl) ?_; clear S a; intro a S
  refine nxA ?_
  refine st_go [1] S rfl (by kernel_rfl) ?_; clear S a; intro a S
  refine st_call (xs := [(Operand.tmp 8)]) S (enters_of Try.func45 (by decide) rfl) rfl rfl rfl (byteH_any M hb) ?_
  rintro _ w1 ⟨rfl, M1⟩; refine ⟨_, rfl, ?_⟩; clear S a; intro a S; replace M := M1; rw [ht1] at S M; rw [hn'] at S
  refine st_go [1] S rfl (by kernel_rfl) ?_; clear S a; intro a S
  refine nxA ?_
  refine st_go [1] S rfl (by kernel_rfl) ?_; clear S a; intro a S
  refine nxC ?_
  refine wp_seq ?_
  refine nxD ?_
  refine st_go [1] S rfl (by kernel_rfl) ?_; clear S a; intro a S
  refine nxC ?_
  refine wp_block ?_
  refine wp_loop_g (fun m a w' => ∃ (k : Nat) (v : Value) (lo hi : Nat), k ≤ n ∧ m = n - k ∧ Sees 33 a [(0, .pointer (some ⟨bf, 0, none⟩)), (3, .int .i64 (n : Int)), (4, v), (5, .int .i64 (k : Int))] ∧ Mem wc w' (.blk bf (rdC bv (rdWrs bs k t1.2).2) 87 :: rowE lo hi 72 9 v (rdWrs bs k t1.2).1.length (wcells (rdWrs bs k t1.2).1) :: H) ∧ rLoop bs n t1.2 = ((rdWrs bs k t1.2).1 ++ (rLoop bs (n - k) (rdWrs bs k t1.2).2).1, (rLoop bs (n - k) (rdWrs bs k t1.2).2).2)) (n) ?_ ?_
  · skip
    exact ⟨0, _, _, _, Nat.zero_le _, rfl, S.sub _ rfl, (M.rowNil 72 9).front 1 rfl, rfl⟩
  clear S M a; intro m a wl
  rintro ⟨k, v, lo, hi, hk, rfl, S, M, hlp⟩
  obtain ⟨s1, hs1⟩ : ∃ s1, (rdWrs bs k t1.2).2 = s1 := ⟨_, rfl⟩
  obtain ⟨xs, hxs⟩ : ∃ xs, (rdWrs bs k t1.2).1 = xs := ⟨_, rfl⟩
  have hxl : xs.length = k := by rw [← hxs, rdWrs_len]
  rw [hs1, hxs] at M hlp
  refine wp_seq ?_
  refine nxD ?_
  refine st_go [1, 1, 1, 1] S rfl (by kernel_rfl) ?_; clear S a; intro a S
  refine st_fi (t := 13) S rfl ?_ ?_
  · clear S; intro h13 S
    refine st_go [0, 0, 0, 0, 0, 1] S rfl (by kernel_rfl) ?_; clear S a; intro a S
    refine nxC ?_
    refine st_condF S rfl ?_
    refine wp_exit ?_
    refine then_exit ?_
    refine then_exit ?_
    refine block_hit ?_
    refine nxE ?_
    refine st_go [1, 1] S rfl (by kernel_rfl) ?_; clear S a; intro a S
    refine nxC ?_
    refine wp_ret ?_
    refine end_one S rfl (res_tmp rfl) ?_
    have hst : rLoop bs (n - k) s1 = ([], s1) := by
      first
        | (rw [show n - k = 0 by omega]; rfl)
        | (exact rLoop_stop (by simpa using h19))
    rw [hlp, hst, List.append_nil]
    exact ⟨_, _, _, rfl, M.front 1 rfl⟩
  clear S; intro h13 S
  refine st_run [1, 1, 3, 1, 1, 1] S M rfl (by kernel_rfl) ?_; clear S a; intro a S
  refine nxC ?_
  refine st_tils (t := 19) S rfl ?_ ?_
  · clear S; intro h19 S
    refine st_condF S rfl ?_
    refine wp_exit ?_
    refine then_exit ?_
    refine then_exit ?_
    refine block_hit ?_
    refine nxE ?_
    refine st_go [1, 1] S rfl (by kernel_rfl) ?_; clear S a; intro a S
    refine nxC ?_
    refine wp_ret ?_
    refine end_one S rfl (res_tmp rfl) ?_
    have hst : rLoop bs (n - k) s1 = ([], s1) := by
      first
        | (rw [show n - k = 0 by omega]; rfl)
        | (exact rLoop_stop (by simpa using h19))
    rw [hlp, hst, List.append_nil]
    exact ⟨_, _, _, rfl, M.front 1 rfl⟩
  clear S; intro h19 S
  refine st_condT S rfl ?_
  refine wp_skip ?_
  refine then_normal ?_
  refine wp_seq ?_
  refine wp_block ?_
  refine nxD ?_
  refine st_go [1] S rfl (by kernel_rfl) ?_; clear S a; intro a S
  refine st_call (xs := [(Operand.tmp 22)]) S (enters_of Try.func45 (by decide) rfl) rfl rfl rfl (byteH_any M (hb.cons _)) ?_
  rintro _ w2 ⟨rfl, M1⟩; refine ⟨_, rfl, ?_⟩; clear S a; intro a S; replace M := M1
  refine st_go [1] S rfl (by kernel_rfl) ?_; clear S a; intro a S
  refine nxA ?_
  refine st_go [1] S rfl (by kernel_rfl) ?_; clear S a; intro a S
  refine st_call (xs := [(Operand.tmp 24)]) S (enters_of Try.func48 (by decide) rfl) rfl rfl rfl (valueH_any M (hb.cons _)) ?_
  rintro _ w3 ⟨rfl, M1⟩; refine ⟨_, rfl, ?_⟩; clear S a; intro a S; replace M := M1
  refine st_alloc S M rfl rfl #[.int .u8 0, .int .u8 0, .int .u8 0, .int .u8 0, .int .u8 0, .int .u8 0, .int .u8 0, .int .u8 0] (by kernel_rfl) ?_; clear S M a; intro a w4 bV S M hB
  refine st_store (sz := 8) (us := [_, _, _, _, _, _, _, _]) S M 0 rfl (by kernel_rfl) rfl rfl rfl rfl rfl rfl (by first | decide | (simp; done) | (simp; omega)) ?_; clear M; intro w5 M
  simp only [putL, List.set_cons_zero, List.set_cons_succ, Nat.reduceAdd] at M
  refine nxC ?_
  have hs2 : (rdBs bs 8 (tk bs 1 s1).2).2 = (rdWr bs s1).2 := rfl
  rw [hs2] at M
  refine wp_region_lit ?_
  refine st_go [1, 1] S rfl (by kernel_rfl) ?_; clear S a; intro a S
  refine st_y S rfl rfl rfl (y_loadAgg (cs := [_, _, _, _, _, _, _, _]) S (by kernel_rfl) rfl rfl (M.cellsAt (k := 8) 0 rfl rfl)) ?_; clear S a; intro a S
  refine st_y S rfl rfl rfl (y_build (ps := [(0, (Operand.tmp 27)), (1, (Operand.tmp 28))]) (pl := [(0, 1), (1, 8)]) (z := [.int .i64 0, .int .u8 0, .int .u8 0, .int .u8 0, .int .u8 0, .int .u8 0, .int .u8 0, .int .u8 0, .int .u8 0]) (cs := [_, _, _, _, _, _, _, _, _]) S (by kernel_rfl) rfl (rfl)) ?_; clear S a; intro a S
  refine st_lit (ps := [(0, (Operand.tmp 29))]) (e := 72) (sz := 9) (zl := [.int .i64 0, .int .u8 0, .int .u8 0, .int .u8 0, .int .u8 0, .int .u8 0, .int .u8 0, .int .u8 0, .int .u8 0]) (cs := [_, _, _, _, _, _, _, _, _]) S M rfl rfl (by kernel_rfl) rfl (rfl) ?_; clear S M a; intro a w6 bZ S M hB
  refine st_append (e := 72) (sz := 9) (by_ := 16) (zc := [.int .i64 0, .int .u8 0, .int .u8 0, .int .u8 0, .int .u8 0, .int .u8 0, .int .u8 0, .int .u8 0, .int .u8 0]) S M 3 rfl rfl (by kernel_rfl) rfl (by decide) rfl rfl rfl (show Rd _ _ _ 9 _ 1 (wcells [⟨(tk bs 1 s1).1, v8 (rdBs bs 8 (tk bs 1 s1).2).1⟩]) from M.sliceAt 0 rfl (M.cellsAt (k := 9) 0 rfl rfl) rfl (Nat.le_refl _) (by unfold maxLen; omega)) (allOne_wcells _) (by omega) (by unfold maxLen; omega) ?_; clear S M a; intro a w7 vA loA hiA S M
  refine st_go [1] S rfl (by kernel_rfl) ?_; clear S a; intro a S
  replace S := S.sub [(0, _), (3, _), (5, _), (19, _), (6, _), (7, _), (4, _)] rfl
  refine wpList_nil ?_
  refine block_normal ?_
  refine nxF ?_
  refine st_go [1] S rfl (by kernel_rfl) ?_; clear S a; intro a S
  (first | refine st_y S rfl rfl rfl (y_addN S rfl rfl (by omega)) ?_ | refine st_y S rfl rfl rfl (y_int S rfl rfl rfl) ?_); clear S a; intro a S
  refine st_go [1] S rfl (by kernel_rfl) ?_; clear S a; intro a S
  refine nxC ?_
  replace M := M.front 3 rfl
  simp only [List.eraseIdx_cons_succ, List.eraseIdx_cons_zero] at M
  refine ⟨n - (k + 1), by omega, k + 1, vA, loA, hiA, by omega, rfl, S.sub _ rfl, ?_, ?_⟩
  · rw [rdWrs_snoc, hs1, hxs, wcells_append, List.length_append]
    exact (M.drop 2).drop 2
  · rw [hlp, rdWrs_snoc, hs1, hxs, show n - k = (n - (k + 1)) + 1 by omega, rLoop_step (by simpa using h19)]
    simp
theorem flagH_any {wc w : World} {H : List Ent} {bf : Nat} {bv : Value} {s : Rs} {bs : List UInt8} (M : Mem wc w (.blk bf (rdC bv s) 87 :: H)) (hb : RdH wc H bv bs) :
    Calls Try.prog 50 #[.pointer (some ⟨bf, 0, none⟩)] w fun e w' => e = .returned (.bool (rFl bs s).1) ∧ Mem wc w' (.blk bf (rdC bv (rFl bs s).2) 87 :: H) := by
  refine calls_enter Try.func50 rfl 19 rfl rfl ?_; intro a S
  refine wp_seq ?_
  skip
  refine wp_region_lit ?_
  refine st_go [1] S rfl (by kernel_rfl) ?_; clear S a; intro a S
  refine nxA ?_
  refine st_go [1] S rfl (by kernel_rfl) ?_; clear S a; intro a S
  refine st_call (xs := [(Operand.tmp 4)]) S (enters_of Try.func45 (by decide) rfl) rfl rfl rfl (byteH_any M hb) ?_
  rintro _ w1 ⟨rfl, M1⟩; refine ⟨_, rfl, ?_⟩; clear S a; intro a S; replace M := M1
  refine st_go [1] S rfl (by kernel_rfl) ?_; clear S a; intro a S
  refine nxA ?_
  refine st_run [1, 1, 1, 3, 1, 1] S M rfl (by kernel_rfl) ?_; clear S a; intro a S
  refine st_split (t := 11) S rfl ?_ ?_
  · clear S; intro h11 S
    refine st_go [0, 0, 1, 1, 3] S rfl (by kernel_rfl) ?_; clear S a; intro a S
    refine st_store (sz := 1) (us := [_]) S M 0 rfl (by kernel_rfl) rfl rfl rfl rfl rfl rfl (by first | decide | (simp; done) | (simp; omega)) ?_; clear M; intro w2 M
    simp only [putL, List.set_cons_zero, List.set_cons_succ, Nat.reduceAdd] at M
    refine nxA ?_
    refine st_go [1, 1, 1] S rfl (by kernel_rfl) ?_; clear S a; intro a S
    replace S := S.sub [(0, _), (3, _), (2, _)] rfl
    refine nxC ?_
    refine wp_ret ?_
    refine end_one S rfl (res_tmp rfl) ?_
    refine ⟨rfl, ?_⟩
    unfold rFl
    simp only [h11, Bool.true_or, Bool.false_or]
    exact M
  clear S; intro h11 S
  refine st_go [1, 1, 1, 1, 3] S rfl (by kernel_rfl) ?_; clear S a; intro a S
  refine st_store (sz := 1) (us := [_]) S M 0 rfl (by kernel_rfl) rfl rfl rfl rfl rfl rfl (by first | decide | (simp; done) | (simp; omega)) ?_; clear M; intro w3 M
  simp only [putL, List.set_cons_zero, List.set_cons_succ, Nat.reduceAdd] at M
  refine nxA ?_
  refine st_go [1, 1, 1] S rfl (by kernel_rfl) ?_; clear S a; intro a S
  replace S := S.sub [(0, _), (3, _), (2, _)] rfl
  refine nxC ?_
  refine wp_ret ?_
  refine end_one S rfl (res_tmp rfl) ?_
  refine ⟨rfl, ?_⟩
  unfold rFl
  simp only [h11, Bool.true_or, Bool.false_or]
  exact M

end Go.Proofs.Ytojgcgaoajfihaa
