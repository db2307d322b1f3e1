/-
  Package record: Sectors, Less; the law's own functions.
-/
import Derived.Test.YtbaoodlkcbiclaaRe
namespace Go.Proofs.Ytbaoodlkcbiclaa
open Go.RowKit Go.Sort

theorem great_any (r : Rc) (ad : Option Addr) (l c : Nat) (w : World) : Calls Try.prog 12 #[.agg (r.cells (.slice ad l c))] w fun e w' => e = .returned (.bool (decide ((40 : Int) < (l : Int)))) ∧ Below w.heap.size w w' := by
  have M := Mem.start w
  refine calls_enter Try.func12 rfl 7 rfl rfl ?_; intro a S
  refine wp_seq ?_
  -- region 0 ref.go:273
  refine wp_region_lit ?_
  refine st_box S M rfl rfl rfl #[_, _, _, _, _, _, _, _, _, _, _, _] rfl ?_; clear S M a; intro a w1 b1 S M hB
  refine st_y S rfl rfl rfl (y_assign S rfl) ?_; clear S a; intro a S
  refine wpList_nil ?_
  replace S := S.sub [(0, _), (1, _), (2, _)] rfl
  refine then_normal ?_
  refine wp_seq ?_
  -- region 1 ref.go:273
  refine wp_region_lit ?_
  refine st_y S rfl rfl rfl (y_fieldAddr (k := 5) S (by kernel_rfl) rfl) ?_; clear S a; intro a S
  refine st_y S rfl rfl rfl (y_load S (by kernel_rfl) rfl (M.cell 0 rfl rfl)) ?_; clear S a; intro a S
  refine st_y S rfl rfl rfl (y_lenS (E := 67) S rfl (by kernel_rfl)) ?_; clear S a; intro a S
  refine st_y S rfl rfl rfl (y_int S rfl rfl rfl) ?_; clear S a; intro a S
  refine st_y S rfl rfl rfl (y_assign S rfl) ?_; clear S a; intro a S
  refine wpList_nil ?_
  replace S := S.sub [(0, _), (1, _), (2, _)] rfl
  refine then_normal ?_
  refine wp_ret ?_
  refine end_one S rfl (res_tmp rfl) ?_
  exact ⟨rfl, M.below⟩
def secsN (r : Rc) (x : List Wr) : Int := if r.may x = true then (((r.enc x).length : Int) + 45 - 1) / 45 else 0
theorem sectors_any (r : Rc) (va : Option Addr) (vn vc : Nat) (x : List Wr) (w : World) (hs : r.shards ≤ 9223372036854775807) (hu : Ws 0 w.heap.size w (.slice va vn vc) x) :
    Calls Try.prog 15 #[.agg (r.cells (.slice va vn vc))] w fun e w' => e = .returned (.tuple #[.int .i64 (secsN r x), .int .i64 (if r.may x = true then 0 else 2)]) ∧ Below w.heap.size w w' := by
  have M := Mem.start w
  refine calls_enter Try.func15 rfl 19 rfl rfl ?_; intro a S
  refine wp_seq ?_
  -- region 0 record.go:269
  refine wp_region_lit ?_
  refine st_box S M rfl rfl rfl #[_, _, _, _, _, _, _, _, _, _, _, _] rfl ?_; clear S M a; intro a w1 b1 S M hB
  refine st_y S rfl rfl rfl (y_assign S rfl) ?_; clear S a; intro a S
  refine st_y S rfl rfl rfl (y_assign S rfl) ?_; clear S a; intro a S
  refine wpList_nil ?_
  replace S := S.sub [(0, _), (1, _), (2, _), (3, _)] rfl
  refine then_normal ?_
  refine wp_seq ?_
  -- region 1 record.go:270
  refine wp_region_lit ?_
  refine st_y S rfl rfl rfl (y_loadAgg (cs := [_, _, _, _, _, _, _, _, _, _, _, _]) S (by kernel_rfl) rfl rfl (M.cellsAt (k := 12) 0 rfl rfl)) ?_; clear S a; intro a S
  refine st_call (xs := [(Operand.tmp 7)]) S (enters_of Try.func13 (by decide) rfl) rfl rfl rfl (bytes_any r va vn vc x _ hs (M.argW hu)) ?_
  rintro _ w2 ⟨v7, rfl, hK, h1, h2⟩; refine ⟨_, rfl, ?_⟩; clear S a; intro a S
  have hF := fresh_if hK h1 (fun h => h2 (by simpa using h))
  obtain ⟨lo2, hi2, -, M⟩ := M.pushFresh hF
  refine st_y S rfl rfl rfl (y_move S rfl) ?_; clear S a; intro a S
  refine st_y S rfl rfl rfl (y_extract S rfl rfl) ?_; clear S a; intro a S
  refine st_y S rfl rfl rfl (y_extract S rfl rfl) ?_; clear S a; intro a S
  refine st_y S rfl rfl rfl (y_assign S rfl) ?_; clear S a; intro a S
  refine st_y S rfl rfl rfl (y_assign S rfl) ?_; clear S a; intro a S
  refine wpList_nil ?_
  replace S := S.sub [(0, _), (1, _), (2, _), (3, _), (4, _), (5, _)] rfl
  refine then_normal ?_
  refine wp_seq ?_
  refine wp_seq ?_
  -- region 2 record.go:271
  refine wp_region_lit ?_
  refine st_y S rfl rfl rfl (y_move S rfl) ?_; clear S a; intro a S
  refine st_y S rfl rfl rfl (y_int S rfl rfl rfl) ?_; clear S a; intro a S
  refine wpList_nil ?_
  replace S := S.sub [(0, _), (1, _), (2, _), (3, _), (4, _), (5, _), (12, _)] rfl
  refine then_normal ?_
  refine st_split (t := 12) S rfl ?_ ?_
  · clear S; intro h12 S
    refine st_condT S rfl ?_
    refine wp_seq ?_
    -- region 3 record.go:272
    refine wp_region_lit ?_
    refine st_y S rfl rfl rfl (y_move S rfl) ?_; clear S a; intro a S
    refine st_y S rfl rfl rfl (y_assign S rfl) ?_; clear S a; intro a S
    refine st_y S rfl rfl rfl (y_assign S rfl) ?_; clear S a; intro a S
    refine wpList_nil ?_
    replace S := S.sub [(0, _), (1, _), (4, _), (5, _), (12, _), (2, _), (3, _)] rfl
    refine then_normal ?_
    refine wp_ret ?_
    refine then_ret ?_
    refine end_two S rfl (res_tmp rfl) (res_tmp rfl) ?_
    have hm : ¬ r.may x = true := fun hm => by rw [if_pos hm] at h12; simp at h12
    exact ⟨by unfold secsN; rw [if_neg hm, if_neg hm], M.below⟩
  · clear S; intro h12 S
    refine st_condF S rfl ?_
    refine wp_skip ?_
    refine then_normal ?_
    refine wp_seq ?_
    -- region 4 record.go:274
    have hm : r.may x = true := by
      by_cases hm : r.may x = true
      · exact hm
      · rw [if_neg hm] at h12; simp at h12
    have hi : (ifL (r.may x = true) (r.enc x)).length = (r.enc x).length := by rw [ifL_pos hm]
    have hl := enc_len hm
    refine wp_region_lit ?_
    refine st_y S rfl rfl rfl (y_move S rfl) ?_; clear S a; intro a S
    refine st_y S rfl rfl rfl (y_lenR (E := 5) S rfl ((M.readAll 0 rfl (encIf_len r x))) (by kernel_rfl)) ?_; clear S a; intro a S
    (first | refine st_y S rfl rfl rfl (y_addN S rfl rfl (by omega)) ?_ | refine st_y S rfl rfl rfl (y_int S rfl rfl rfl) ?_); clear S a; intro a S
    (first | refine st_y S rfl rfl rfl (y_subN S rfl rfl (by omega)) ?_ | refine st_y S rfl rfl rfl (y_int S rfl rfl rfl) ?_); clear S a; intro a S
    refine st_y S rfl rfl rfl (y_quoN S rfl rfl (by omega)) ?_; clear S a; intro a S
    refine st_y S rfl rfl rfl (y_assign S rfl) ?_; clear S a; intro a S
    refine st_y S rfl rfl rfl (y_assign S rfl) ?_; clear S a; intro a S
    refine wpList_nil ?_
    replace S := S.sub [(0, _), (1, _), (4, _), (5, _), (12, _), (2, _), (3, _)] rfl
    refine then_normal ?_
    refine wp_ret ?_
    refine end_two S rfl (res_tmp rfl) (res_tmp rfl) ?_
    exact ⟨by unfold secsN; rw [if_pos hm, if_pos hm, hi], M.below⟩

/-! ### names in their order -/
def Nm.less (a b : Nm) : Bool := decide (a.stamp < b.stamp ∨ (a.stamp = b.stamp ∧ (a.inc < b.inc ∨ (a.inc = b.inc ∧ a.try_ < b.try_))))
theorem isNaN_any (a : Int) (w : World) : Calls Try.prog 81 #[.int .i64 a] w fun e w' => e = .returned (.bool false) ∧ Below w.heap.size w w' := by
  have M := Mem.start w
  refine calls_enter Try.func81 rfl 6 rfl rfl ?_; intro a S
  refine wp_seq ?_
  -- region 0 cmp.go:63
  refine wp_region_lit ?_
  refine st_y S rfl rfl rfl (y_assign S rfl) ?_; clear S a; intro a S
  refine wpList_nil ?_
  replace S := S.sub [(0, _), (2, _)] rfl
  refine then_normal ?_
  refine wp_seq ?_
  -- region 1 cmp.go:64
  refine wp_region_lit ?_
  refine st_y S rfl rfl rfl (y_move S rfl) ?_; clear S a; intro a S
  refine st_y S rfl rfl rfl (y_move S rfl) ?_; clear S a; intro a S
  refine st_y S rfl rfl rfl (y_int S rfl rfl rfl) ?_; clear S a; intro a S
  refine st_y S rfl rfl rfl (y_assign S rfl) ?_; clear S a; intro a S
  refine wpList_nil ?_
  replace S := S.sub [(0, _), (2, _)] rfl
  refine then_normal ?_
  refine wp_ret ?_
  refine end_one S rfl (res_tmp rfl) ?_
  exact ⟨ret_bool (by simp), M.below⟩
def cmpZ (a b : Int) : Int := if a < b then -1 else if b < a then 1 else 0
theorem compare_any (a b : Int) (w : World) : Calls Try.prog 40 #[.int .i64 a, .int .i64 b] w fun e w' => e = .returned (.int .i64 (cmpZ a b)) ∧ Below w.heap.size w w' := by
  have M := Mem.start w
  have key : ∀ z, cmpZ a b = z → Ending.returned (.int .i64 z) = .returned (.int .i64 (cmpZ a b)) := fun z h => by rw [h]
  refine calls_enter Try.func40 rfl 20 rfl rfl ?_; intro a S
  refine wp_seq ?_
  -- region 0 cmp.go:40
  refine wp_region_lit ?_
  refine st_y S rfl rfl rfl (y_assign S rfl) ?_; clear S a; intro a S
  refine wpList_nil ?_
  replace S := S.sub [(0, _), (1, _), (4, _)] rfl
  refine then_normal ?_
  refine wp_seq ?_
  -- region 1 cmp.go:41
  refine wp_region_lit ?_
  refine st_y S rfl rfl rfl (y_move S rfl) ?_; clear S a; intro a S
  refine st_call (xs := [(Operand.tmp 7)]) S (enters_of Try.func81 (by decide) rfl) rfl rfl rfl (isNaN_any _ _) ?_
  rintro _ w1 ⟨rfl, hK⟩; refine ⟨_, rfl, ?_⟩; clear S a; intro a S; replace M := M.grow hK
  refine st_y S rfl rfl rfl (y_assign S rfl) ?_; clear S a; intro a S
  refine wpList_nil ?_
  replace S := S.sub [(0, _), (1, _), (4, _), (5, _)] rfl
  refine then_normal ?_
  refine wp_seq ?_
  -- region 2 cmp.go:42
  refine wp_region_lit ?_
  refine st_y S rfl rfl rfl (y_move S rfl) ?_; clear S a; intro a S
  refine st_call (xs := [(Operand.tmp 9)]) S (enters_of Try.func81 (by decide) rfl) rfl rfl rfl (isNaN_any _ _) ?_
  rintro _ w2 ⟨rfl, hK⟩; refine ⟨_, rfl, ?_⟩; clear S a; intro a S; replace M := M.grow hK
  refine st_y S rfl rfl rfl (y_assign S rfl) ?_; clear S a; intro a S
  refine wpList_nil ?_
  replace S := S.sub [(0, _), (1, _), (4, _), (5, _), (6, _)] rfl
  refine then_normal ?_
  refine wp_seq ?_
  refine wp_seq ?_
  -- region 3 cmp.go:43
  refine wp_region_lit ?_
  refine st_y S rfl rfl rfl (y_move S rfl) ?_; clear S a; intro a S
  refine wpList_nil ?_
  replace S := S.sub [(0, _), (1, _), (4, _), (5, _), (6, _), (11, _)] rfl
  refine then_normal ?_
  refine st_split (t := 11) S rfl ?_ ?_
  · clear S; intro h11 S
    first | replace h11 := nrmA h11 | replace h11 := nrmB h11 | skip
    first | replace h11 := nrm1 h11 | replace h11 := nrm2 h11 | replace h11 := nrm3 h11 | replace h11 := nrm4 h11 | replace h11 := nrm5 h11 | replace h11 := nrm6 h11 | replace h11 := of_decide_eq_true h11 | replace h11 := of_decide_eq_false h11 | skip
    simp at h11
  · clear S; intro h11 S
    first | replace h11 := nrmA h11 | replace h11 := nrmB h11 | skip
    first | replace h11 := nrm1 h11 | replace h11 := nrm2 h11 | replace h11 := nrm3 h11 | replace h11 := nrm4 h11 | replace h11 := nrm5 h11 | replace h11 := nrm6 h11 | replace h11 := of_decide_eq_true h11 | replace h11 := of_decide_eq_false h11 | skip
    refine st_condF S rfl ?_
    refine wp_skip ?_
    refine then_normal ?_
    refine wp_seq ?_
    refine wp_seq ?_
    -- region 7 cmp.go:49
    refine wp_region_lit ?_
    refine st_y S rfl rfl rfl (y_move S rfl) ?_; clear S a; intro a S
    refine wpList_nil ?_
    replace S := S.sub [(0, _), (1, _), (4, _), (5, _), (6, _), (11, _), (13, _)] rfl
    refine then_normal ?_
    refine st_split (t := 13) S rfl ?_ ?_
    · clear S; intro h13 S
      first | replace h13 := nrmA h13 | replace h13 := nrmB h13 | skip
      first | replace h13 := nrm1 h13 | replace h13 := nrm2 h13 | replace h13 := nrm3 h13 | replace h13 := nrm4 h13 | replace h13 := nrm5 h13 | replace h13 := nrm6 h13 | replace h13 := of_decide_eq_true h13 | replace h13 := of_decide_eq_false h13 | skip
      simp at h13
    · clear S; intro h13 S
      first | replace h13 := nrmA h13 | replace h13 := nrmB h13 | skip
      first | replace h13 := nrm1 h13 | replace h13 := nrm2 h13 | replace h13 := nrm3 h13 | replace h13 := nrm4 h13 | replace h13 := nrm5 h13 | replace h13 := nrm6 h13 | replace h13 := of_decide_eq_true h13 | replace h13 := of_decide_eq_false h13 | skip
      refine st_condF S rfl ?_
      refine wp_skip ?_
      refine then_normal ?_
      refine wp_seq ?_
      refine wp_seq ?_
      -- region 9 cmp.go:52
      refine wp_region_lit ?_
      refine st_y S rfl rfl rfl (y_move S rfl) ?_; clear S a; intro a S
      refine st_y S rfl rfl rfl (y_move S rfl) ?_; clear S a; intro a S
      refine st_y S rfl rfl rfl (y_int S rfl rfl rfl) ?_; clear S a; intro a S
      refine wpList_nil ?_
      replace S := S.sub [(0, _), (1, _), (4, _), (5, _), (6, _), (11, _), (13, _), (16, _)] rfl
      refine then_normal ?_
      refine st_split (t := 16) S rfl ?_ ?_
      · clear S; intro h16 S
        first | replace h16 := nrmA h16 | replace h16 := nrmB h16 | skip
        first | replace h16 := nrm1 h16 | replace h16 := nrm2 h16 | replace h16 := nrm3 h16 | replace h16 := nrm4 h16 | replace h16 := nrm5 h16 | replace h16 := nrm6 h16 | replace h16 := of_decide_eq_true h16 | replace h16 := of_decide_eq_false h16 | skip
        refine st_condT S rfl ?_
        refine wp_seq ?_
        -- region 10 cmp.go:53
        refine wp_region_lit ?_
        refine st_y S rfl rfl rfl (y_assign S rfl) ?_; clear S a; intro a S
        refine wpList_nil ?_
        replace S := S.sub [(0, _), (1, _), (5, _), (6, _), (11, _), (13, _), (16, _), (4, _)] rfl
        refine then_normal ?_
        refine wp_ret ?_
        refine then_ret ?_
        refine end_one S rfl (res_tmp rfl) ?_
        refine ⟨key _ ?_, M.below⟩; unfold cmpZ; (repeat' split) <;> omega
      · clear S; intro h16 S
        first | replace h16 := nrmA h16 | replace h16 := nrmB h16 | skip
        first | replace h16 := nrm1 h16 | replace h16 := nrm2 h16 | replace h16 := nrm3 h16 | replace h16 := nrm4 h16 | replace h16 := nrm5 h16 | replace h16 := nrm6 h16 | replace h16 := of_decide_eq_true h16 | replace h16 := of_decide_eq_false h16 | skip
        refine st_condF S rfl ?_
        refine wp_skip ?_
        refine then_normal ?_
        refine wp_seq ?_
        refine wp_seq ?_
        -- region 11 cmp.go:55
        refine wp_region_lit ?_
        refine st_y S rfl rfl rfl (y_move S rfl) ?_; clear S a; intro a S
        refine st_y S rfl rfl rfl (y_move S rfl) ?_; clear S a; intro a S
        refine st_y S rfl rfl rfl (y_int S rfl rfl rfl) ?_; clear S a; intro a S
        refine wpList_nil ?_
        replace S := S.sub [(0, _), (1, _), (4, _), (5, _), (6, _), (11, _), (13, _), (16, _), (19, _)] rfl
        refine then_normal ?_
        refine st_split (t := 19) S rfl ?_ ?_
        · clear S; intro h19 S
          first | replace h19 := nrmA h19 | replace h19 := nrmB h19 | skip
          first | replace h19 := nrm1 h19 | replace h19 := nrm2 h19 | replace h19 := nrm3 h19 | replace h19 := nrm4 h19 | replace h19 := nrm5 h19 | replace h19 := nrm6 h19 | replace h19 := of_decide_eq_true h19 | replace h19 := of_decide_eq_false h19 | skip
          refine st_condT S rfl ?_
          refine wp_seq ?_
          -- region 12 cmp.go:56
          refine wp_region_lit ?_
          refine st_y S rfl rfl rfl (y_assign S rfl) ?_; clear S a; intro a S
          refine wpList_nil ?_
          replace S := S.sub [(0, _), (1, _), (5, _), (6, _), (11, _), (13, _), (16, _), (19, _), (4, _)] rfl
          refine then_normal ?_
          refine wp_ret ?_
          refine then_ret ?_
          refine end_one S rfl (res_tmp rfl) ?_
          refine ⟨key _ ?_, M.below⟩; unfold cmpZ; (repeat' split) <;> omega
        · clear S; intro h19 S
          first | replace h19 := nrmA h19 | replace h19 := nrmB h19 | skip
          first | replace h19 := nrm1 h19 | replace h19 := nrm2 h19 | replace h19 := nrm3 h19 | replace h19 := nrm4 h19 | replace h19 := nrm5 h19 | replace h19 := nrm6 h19 | replace h19 := of_decide_eq_true h19 | replace h19 := of_decide_eq_false h19 | skip
          refine st_condF S rfl ?_
          refine wp_skip ?_
          refine then_normal ?_
          refine wp_seq ?_
          -- region 13 cmp.go:58
          refine wp_region_lit ?_
          refine st_y S rfl rfl rfl (y_assign S rfl) ?_; clear S a; intro a S
          refine wpList_nil ?_
          replace S := S.sub [(0, _), (1, _), (5, _), (6, _), (11, _), (13, _), (16, _), (19, _), (4, _)] rfl
          refine then_normal ?_
          refine wp_ret ?_
          refine end_one S rfl (res_tmp rfl) ?_
          refine ⟨key _ ?_, M.below⟩; unfold cmpZ; (repeat' split) <;> omega
def icells (zs : List Int) : List Value := zs.map fun z => .int .i64 z
def orZ : List Int → Int
  | [] => 0
  | z :: r => if z = 0 then orZ r else z
theorem Rd.icell {lo hi i : Nat} {w : World} {v : Value} {zs : List Int} {z : Int} (h : Rd lo hi w 1 v zs.length (icells zs)) (hz : zs[i]? = some z) : w.cell? ⟨(adr v).block, (adr v).off + i, none⟩ = some (.int .i64 z) := by
  have hlt := (List.getElem?_eq_some_iff.1 hz).1
  rw [h.at_ i (by simpa [icells] using hlt)]; simp [icells, hz]
theorem or_any (v : Value) (zs : List Int) (w : World) (hv : Rd 0 w.heap.size w 1 v zs.length (icells zs)) : Calls Try.prog 39 #[v] w fun e w' => e = .returned (.int .i64 (orZ zs)) ∧ Below w.heap.size w w' := by
  have M := Mem.start w
  have hl := hv.2.1
  unfold maxLen at hl
  refine calls_enter Try.func39 rfl 18 rfl rfl ?_; intro a S
  refine wp_seq ?_
  -- region 0 cmp.go:69
  refine wp_region_lit ?_
  refine st_y S rfl rfl rfl (y_assign S rfl) ?_; clear S a; intro a S
  refine wpList_nil ?_
  replace S := S.sub [(0, _), (2, _)] rfl
  refine then_normal ?_
  refine wp_seq ?_
  -- region 1 cmp.go:70
  refine wp_region_lit ?_
  refine st_y S rfl rfl rfl (y_assign S rfl) ?_; clear S a; intro a S
  refine wpList_nil ?_
  replace S := S.sub [(0, _), (2, _), (3, _)] rfl
  refine then_normal ?_
  refine wp_seq ?_
  refine wp_seq ?_
  -- region 2 cmp.go:71
  refine wp_region_lit ?_
  refine st_y S rfl rfl rfl (y_move S rfl) ?_; clear S a; intro a S
  refine st_y S rfl rfl rfl (y_lenR (E := 3) S rfl (M.arg hv) (by kernel_rfl)) ?_; clear S a; intro a S
  refine st_y S rfl rfl rfl (y_move S rfl) ?_; clear S a; intro a S
  refine wpList_nil ?_
  replace S := S.sub [(0, _), (2, _), (3, _), (6, _), (7, _), (8, _)] rfl
  refine then_normal ?_
  refine wp_block ?_
  refine wp_loop_g (fun m a w' => ∃ (k : Nat), k ≤ zs.length ∧ m = zs.length - k ∧ Sees 18 a [(3, .int .i64 0), (6, v), (7, .int .i64 (zs.length : Int)), (8, .int .i64 (k : Int))] ∧ Mem w w' [] ∧ orZ zs = orZ (zs.drop k)) (zs.length) ?_ ?_
  · skip
    exact ⟨0, Nat.zero_le _, rfl, S.sub _ rfl, M, rfl⟩
  · clear S M a; intro m a wl
    rintro ⟨k, hk, rfl, S, M, hpre⟩
    refine wp_seq ?_
    -- region 3 cmp.go:71
    refine wp_region_lit ?_
    refine st_y S rfl rfl rfl (y_int S rfl rfl rfl) ?_; clear S a; intro a S
    refine wpList_nil ?_
    replace S := S.sub [(3, _), (6, _), (7, _), (8, _), (9, _)] rfl
    refine then_normal ?_
    refine wp_seq ?_
    refine st_split (t := 9) S rfl ?_ ?_
    · clear S; intro h9 S
      first | replace h9 := nrmA h9 | replace h9 := nrmB h9 | skip
      first | replace h9 := nrm1 h9 | replace h9 := nrm2 h9 | replace h9 := nrm3 h9 | replace h9 := nrm4 h9 | replace h9 := nrm5 h9 | replace h9 := nrm6 h9 | replace h9 := of_decide_eq_true h9 | replace h9 := of_decide_eq_false h9 | skip
      refine st_condT S rfl ?_
      refine wp_skip ?_
      refine then_normal ?_
      refine wp_seq ?_
      refine wp_block ?_
      refine wp_seq ?_
      -- region 4 cmp.go:71
      refine wp_region_lit ?_
      obtain ⟨z, hz⟩ : ∃ z, zs[k]? = some z := ⟨_, List.getElem?_eq_getElem (by omega)⟩
      rw [drop_get hz, orZ] at hpre
      refine st_y S rfl rfl rfl (y_indexR (e := 3) (sz := 1) S (by kernel_rfl) rfl ((M.arg hv)) rfl (by first | omega | (simp; done) | (simp; omega))) ?_; clear S a; intro a S
      try simp only [Int.toNat_natCast, Nat.mul_one, Nat.zero_add] at S
      refine st_y S rfl rfl rfl (y_load S (by kernel_rfl) rfl ((M.arg hv).icell hz)) ?_; clear S a; intro a S
      refine st_y S rfl rfl rfl (y_assign S rfl) ?_; clear S a; intro a S
      refine wpList_nil ?_
      replace S := S.sub [(3, _), (6, _), (7, _), (8, _), (9, _), (5, _)] rfl
      refine then_normal ?_
      refine wp_seq ?_
      -- region 5 cmp.go:72
      refine wp_region_lit ?_
      refine st_y S rfl rfl rfl (y_move S rfl) ?_; clear S a; intro a S
      refine st_y S rfl rfl rfl (y_move S rfl) ?_; clear S a; intro a S
      refine st_y S rfl rfl rfl (y_int S rfl rfl rfl) ?_; clear S a; intro a S
      refine wpList_nil ?_
      replace S := S.sub [(3, _), (6, _), (7, _), (8, _), (9, _), (5, _), (14, _)] rfl
      refine then_normal ?_
      refine st_split (t := 14) S rfl ?_ ?_
      · clear S; intro h14 S
        first | replace h14 := nrmA h14 | replace h14 := nrmB h14 | skip
        first | replace h14 := nrm1 h14 | replace h14 := nrm2 h14 | replace h14 := nrm3 h14 | replace h14 := nrm4 h14 | replace h14 := nrm5 h14 | replace h14 := nrm6 h14 | replace h14 := of_decide_eq_true h14 | replace h14 := of_decide_eq_false h14 | skip
        refine st_condT S rfl ?_
        refine wp_seq ?_
        -- region 6 cmp.go:73
        refine wp_region_lit ?_
        refine st_y S rfl rfl rfl (y_move S rfl) ?_; clear S a; intro a S
        refine st_y S rfl rfl rfl (y_assign S rfl) ?_; clear S a; intro a S
        refine wpList_nil ?_
        replace S := S.sub [(3, _), (6, _), (7, _), (8, _), (9, _), (5, _), (14, _), (2, _)] rfl
        refine then_normal ?_
        refine wp_ret ?_
        refine block_ret ?_
        refine then_ret ?_
        refine then_ret ?_
        refine block_ret ?_
        refine then_ret ?_
        refine end_one S rfl (res_tmp rfl) ?_
        refine ⟨?_, M.below⟩; rw [hpre, if_neg h14]
      · clear S; intro h14 S
        first | replace h14 := nrmA h14 | replace h14 := nrmB h14 | skip
        first | replace h14 := nrm1 h14 | replace h14 := nrm2 h14 | replace h14 := nrm3 h14 | replace h14 := nrm4 h14 | replace h14 := nrm5 h14 | replace h14 := nrm6 h14 | replace h14 := of_decide_eq_true h14 | replace h14 := of_decide_eq_false h14 | skip
        refine st_condF S rfl ?_
        refine wp_skip ?_
        refine block_normal ?_
        refine then_normal ?_
        -- region 7 cmp.go:71
        refine wp_region_lit ?_
        (first | refine st_y S rfl rfl rfl (y_addN S rfl rfl (by omega)) ?_ | refine st_y S rfl rfl rfl (y_int S rfl rfl rfl) ?_); clear S a; intro a S
        refine st_y S rfl rfl rfl (y_move S rfl) ?_; clear S a; intro a S
        refine wpList_nil ?_
        replace S := S.sub [(3, _), (6, _), (7, _), (9, _), (5, _), (14, _), (8, _)] rfl
        refine then_normal ?_
        rw [if_pos h14] at hpre
        exact ⟨zs.length - (k + 1), by omega, k + 1, by omega, rfl, S.sub _ rfl, M, hpre⟩
    · clear S; intro h9 S
      first | replace h9 := nrmA h9 | replace h9 := nrmB h9 | skip
      first | replace h9 := nrm1 h9 | replace h9 := nrm2 h9 | replace h9 := nrm3 h9 | replace h9 := nrm4 h9 | replace h9 := nrm5 h9 | replace h9 := nrm6 h9 | replace h9 := of_decide_eq_true h9 | replace h9 := of_decide_eq_false h9 | skip
      refine st_condF S rfl ?_
      refine wp_exit ?_
      refine then_exit ?_
      refine then_exit ?_
      refine block_hit ?_
      refine then_normal ?_
      refine wp_seq ?_
      -- region 8 cmp.go:76
      refine wp_region_lit ?_
      refine st_y S rfl rfl rfl (y_move S rfl) ?_; clear S a; intro a S
      refine st_y S rfl rfl rfl (y_assign S rfl) ?_; clear S a; intro a S
      refine wpList_nil ?_
      replace S := S.sub [(3, _), (6, _), (7, _), (8, _), (9, _), (2, _)] rfl
      refine then_normal ?_
      refine wp_ret ?_
      refine end_one S rfl (res_tmp rfl) ?_
      obtain rfl : k = zs.length := by omega
      refine ⟨?_, M.below⟩; rw [hpre, List.drop_length]; rfl
theorem cmpZ_cases (a b : Int) : (cmpZ a b = -1 ∧ a < b) ∨ (cmpZ a b = 0 ∧ a = b) ∨ (cmpZ a b = 1 ∧ b < a) := by
  unfold cmpZ; (repeat' split) <;> omega
theorem less_or (p q : Nm) : decide (orZ [cmpZ p.stamp q.stamp, cmpZ p.inc q.inc, cmpZ p.try_ q.try_] < 0) = p.less q := by
  unfold Nm.less
  rw [Bool.eq_iff_iff]
  simp only [decide_eq_true_eq]
  rcases cmpZ_cases p.stamp q.stamp with ⟨e1, h1⟩ | ⟨e1, h1⟩ | ⟨e1, h1⟩ <;> rcases cmpZ_cases p.inc q.inc with ⟨e2, h2⟩ | ⟨e2, h2⟩ | ⟨e2, h2⟩ <;> rcases cmpZ_cases p.try_ q.try_ with ⟨e3, h3⟩ | ⟨e3, h3⟩ | ⟨e3, h3⟩ <;> rw [e1, e2, e3] <;> simp [orZ] <;> omega
theorem less_any (p q : Nm) (w : World) : Calls Try.prog 16 #[.agg p.cells, .agg q.cells] w fun e w' => e = .returned (.bool (p.less q)) ∧ Below w.heap.size w w' := by
  have M := Mem.start w
  refine calls_enter Try.func16 rfl 23 rfl rfl ?_; intro a S
  refine wp_seq ?_
  -- region 0 record.go:284
  refine wp_region_lit ?_
  refine st_box S M rfl rfl rfl #[_, _, _] rfl ?_; clear S M a; intro a w1 b1 S M hB
  refine st_box S M rfl rfl rfl #[_, _, _] rfl ?_; clear S M a; intro a w2 b2 S M hB
  refine st_y S rfl rfl rfl (y_assign S rfl) ?_; clear S a; intro a S
  refine wpList_nil ?_
  replace S := S.sub [(0, _), (1, _), (2, _), (3, _), (4, _)] rfl
  refine then_normal ?_
  refine wp_seq ?_
  -- region 1 record.go:285
  refine wp_regionK [] #[false, false, false, false, false, false, false, false, false, false, false, false, false, false, false, false, false, false, false] rfl M (by kernel_rfl) ?_; clear M; intro w3 M
  refine k_pure (listed' := #[true, false, false, false, false, false, false, false, false, false, false, false, false, false, false, false, false, false, false]) 0 S rfl rfl rfl rfl (by kernel_rfl) rfl (fun _ d _ _ _ h => by cases d <;> exact h) (fun w => y_fieldAddr (k := 0) S (by kernel_rfl) rfl) ?_; clear S a; intro a S
  refine k_read (listed' := #[true, true, false, false, false, false, false, false, false, false, false, false, false, false, false, false, false, false, false]) 1 S rfl rfl rfl rfl (by kernel_rfl) rfl (fun _ d _ _ _ h => by cases d <;> exact h) (fun w hW => have M := M.grow hW; y_load S (by kernel_rfl) rfl (M.cell 1 rfl rfl)) ?_; clear S a; intro a S
  refine k_pure (listed' := #[true, true, true, false, false, false, false, false, false, false, false, false, false, false, false, false, false, false, false]) 2 S rfl rfl rfl rfl (by kernel_rfl) rfl (fun _ d _ _ _ h => by cases d <;> exact h) (fun w => y_fieldAddr (k := 0) S (by kernel_rfl) rfl) ?_; clear S a; intro a S
  refine k_read (listed' := #[true, true, true, true, false, false, false, false, false, false, false, false, false, false, false, false, false, false, false]) 3 S rfl rfl rfl rfl (by kernel_rfl) rfl (fun _ d _ _ _ h => by cases d <;> exact h) (fun w hW => have M := M.grow hW; y_load S (by kernel_rfl) rfl (M.cell 0 rfl rfl)) ?_; clear S a; intro a S
  refine k_pure (listed' := #[true, true, true, true, false, true, false, false, false, false, false, false, false, false, false, false, false, false, false]) 5 S rfl rfl rfl rfl (by kernel_rfl) rfl (fun _ d _ _ _ h => by cases d <;> exact h) (fun w => y_fieldAddr (k := 1) S (by kernel_rfl) rfl) ?_; clear S a; intro a S
  refine k_read (listed' := #[true, true, true, true, false, true, true, false, false, false, false, false, false, false, false, false, false, false, false]) 6 S rfl rfl rfl rfl (by kernel_rfl) rfl (fun _ d _ _ _ h => by cases d <;> exact h) (fun w hW => have M := M.grow hW; y_load S (by kernel_rfl) rfl (M.cell 1 rfl rfl)) ?_; clear S a; intro a S
  refine k_pure (listed' := #[true, true, true, true, false, true, true, true, false, false, false, false, false, false, false, false, false, false, false]) 7 S rfl rfl rfl rfl (by kernel_rfl) rfl (fun _ d _ _ _ h => by cases d <;> exact h) (fun w => y_fieldAddr (k := 1) S (by kernel_rfl) rfl) ?_; clear S a; intro a S
  refine k_read (listed' := #[true, true, true, true, false, true, true, true, true, false, false, false, false, false, false, false, false, false, false]) 8 S rfl rfl rfl rfl (by kernel_rfl) rfl (fun _ d _ _ _ h => by cases d <;> exact h) (fun w hW => have M := M.grow hW; y_load S (by kernel_rfl) rfl (M.cell 0 rfl rfl)) ?_; clear S a; intro a S
  refine k_pure (listed' := #[true, true, true, true, false, true, true, true, true, false, true, false, false, false, false, false, false, false, false]) 10 S rfl rfl rfl rfl (by kernel_rfl) rfl (fun _ d _ _ _ h => by cases d <;> exact h) (fun w => y_fieldAddr (k := 2) S (by kernel_rfl) rfl) ?_; clear S a; intro a S
  refine k_read (listed' := #[true, true, true, true, false, true, true, true, true, false, true, true, false, false, false, false, false, false, false]) 11 S rfl rfl rfl rfl (by kernel_rfl) rfl (fun _ d _ _ _ h => by cases d <;> exact h) (fun w hW => have M := M.grow hW; y_load S (by kernel_rfl) rfl (M.cell 1 rfl rfl)) ?_; clear S a; intro a S
  refine k_pure (listed' := #[true, true, true, true, false, true, true, true, true, false, true, true, true, false, false, false, false, false, false]) 12 S rfl rfl rfl rfl (by kernel_rfl) rfl (fun _ d _ _ _ h => by cases d <;> exact h) (fun w => y_fieldAddr (k := 2) S (by kernel_rfl) rfl) ?_; clear S a; intro a S
  refine k_read (listed' := #[true, true, true, true, false, true, true, true, true, false, true, true, true, true, false, false, false, false, false]) 13 S rfl rfl rfl rfl (by kernel_rfl) rfl (fun _ d _ _ _ h => by cases d <;> exact h) (fun w hW => have M := M.grow hW; y_load S (by kernel_rfl) rfl (M.cell 0 rfl rfl)) ?_; clear S a; intro a S
  refine k_one (listed' := #[true, true, true, true, true, true, true, true, true, false, true, true, true, true, false, false, false, false, false]) 4 rfl (by kernel_rfl) rfl ?_
  refine st_call (xs := [(Operand.tmp 6), (Operand.tmp 8)]) S (enters_of Try.func40 (by decide) rfl) rfl rfl rfl (compare_any _ _ _) ?_
  rintro _ w4 ⟨rfl, hK⟩; refine ⟨_, rfl, ?_⟩; clear S a; intro a S; replace M := M.grow hK
  refine wpList_nil ?_; refine then_normal ?_; refine ⟨fun _ => hK, ?_⟩
  refine k_one (listed' := #[true, true, true, true, true, true, true, true, true, true, true, true, true, true, false, false, false, false, false]) 9 rfl (by kernel_rfl) rfl ?_
  refine st_call (xs := [(Operand.tmp 11), (Operand.tmp 13)]) S (enters_of Try.func40 (by decide) rfl) rfl rfl rfl (compare_any _ _ _) ?_
  rintro _ w5 ⟨rfl, hK⟩; refine ⟨_, rfl, ?_⟩; clear S a; intro a S; replace M := M.grow hK
  refine wpList_nil ?_; refine then_normal ?_; refine ⟨fun _ => hK, ?_⟩
  refine k_one (listed' := #[true, true, true, true, true, true, true, true, true, true, true, true, true, true, true, false, false, false, false]) 14 rfl (by kernel_rfl) rfl ?_
  refine st_call (xs := [(Operand.tmp 16), (Operand.tmp 18)]) S (enters_of Try.func40 (by decide) rfl) rfl rfl rfl (compare_any _ _ _) ?_
  rintro _ w6 ⟨rfl, hK⟩; refine ⟨_, rfl, ?_⟩; clear S a; intro a S; replace M := M.grow hK
  refine wpList_nil ?_; refine then_normal ?_; refine ⟨fun _ => hK, ?_⟩
  refine k_one (listed' := #[true, true, true, true, true, true, true, true, true, true, true, true, true, true, true, true, false, false, false]) 15 rfl (by kernel_rfl) rfl ?_
  refine st_lit (ps := [(0, (Operand.tmp 9)), (1, (Operand.tmp 14)), (2, (Operand.tmp 19))]) (e := 3) (sz := 1) (zl := [.int .i64 0, .int .i64 0, .int .i64 0]) (cs := [_, _, _]) S M rfl rfl (by kernel_rfl) rfl rfl ?_; clear S M a; intro a w7 bZ S M hB
  refine wpList_nil ?_; refine then_normal ?_; refine ⟨fun _ => hB, ?_⟩
  refine k_one (listed' := #[true, true, true, true, true, true, true, true, true, true, true, true, true, true, true, true, true, false, false]) 16 rfl (by kernel_rfl) rfl ?_
  refine st_call (xs := [(Operand.tmp 20)]) S (enters_of Try.func39 (by decide) rfl) rfl rfl rfl (or_any _ [cmpZ p.stamp q.stamp, cmpZ p.inc q.inc, cmpZ p.try_ q.try_] _ (M.sliceAt 0 rfl (M.cellsAt (k := 3) 0 rfl rfl) rfl (Nat.le_refl _) (by unfold maxLen; omega))) ?_
  rintro _ w8 ⟨rfl, hK⟩; refine ⟨_, rfl, ?_⟩; clear S a; intro a S; replace M := M.grow hK
  refine wpList_nil ?_; refine then_normal ?_; refine ⟨fun _ => hK, ?_⟩
  refine k_pure (listed' := #[true, true, true, true, true, true, true, true, true, true, true, true, true, true, true, true, true, true, false]) 17 S rfl rfl rfl rfl (by kernel_rfl) rfl (fun _ d _ _ _ h => by cases d <;> exact h) (fun w => y_int S rfl rfl rfl) ?_; clear S a; intro a S
  refine k_pure (listed' := #[true, true, true, true, true, true, true, true, true, true, true, true, true, true, true, true, true, true, true]) 18 S rfl rfl rfl rfl (by kernel_rfl) rfl (fun _ d _ _ _ h => by cases d <;> exact h) (fun w => y_assign S rfl) ?_; clear S a; intro a S
  refine k_end (by kernel_rfl) ?_
  replace S := S.sub [(0, _), (1, _), (2, _), (3, _), (4, _)] rfl
  refine then_normal ?_
  refine wp_ret ?_
  refine end_one S rfl (res_tmp rfl) ?_
  exact ⟨ret_bool (less_or p q), M.below⟩

/-! ### the law's own -/
theorem Rd.cut0 {lo hi : Nat} {w : World} {v : Value} {bs : List UInt8} (h : Bs lo hi w v bs) {n : Nat} (hn : n ≤ bs.length) : Bs lo hi w (cutV v 0 n (capV v) 1) (bs.take n) := by
  have := Rd.cutv h (i := 0) (j := n) (mx := capV v) (Nat.zero_le _) hn (Nat.le_trans hn h.cap.1) (Nat.le_refl _)
  rw [Nat.zero_mul, Nat.sub_zero, Nat.mul_one, bcells_cut, List.drop_zero] at this
  have e : (bs.take n).length = n := by simp; omega
  unfold Bs; rw [e]; exact this
/-- no beginning of a record's bytes is one's -/
theorem enc_pre {r r' : Rc} {x x' : List Wr} {n : Nat} (hm : r.may x = true) (hm' : r'.may x' = true) (hn : n < (r.enc x).length) : r'.enc x' ≠ (r.enc x).take n := fun he => by
  have := (enc_inj hm hm' (rest := (r.enc x).drop n) (by rw [he, List.take_append_drop])).2.2
  have h2 : ((r.enc x).drop n).length = 0 := by rw [this]; rfl
  rw [List.length_drop] at h2; omega
theorem may_shards {r : Rc} {x : List Wr} (h : r.may x = true) : r.shards ≤ 31 := by
  rcases may_cases h with ⟨-, hr, -⟩ | ⟨-, hr, -⟩ | ⟨-, hr, -⟩ | ⟨-, -, -, -, hs, -⟩ | ⟨-, hr, -⟩ | ⟨-, hr, -⟩ | ⟨-, hr, -⟩
  all_goals first
    | (simp only [shardsB, decide_eq_true_eq] at hs; omega)
    | (rw [hr]; simp [Rc.zero])
/-- the one form of what is read, with the slice spelled -/
theorem ReadPost.form {bs : List UInt8} {w w' : World} {e : Ending} (h : ReadPost bs w e w') :
    ∃ (r : Rc) (x : List Wr) (ad : Option Addr) (cp : Nat) (c : Int), e = .returned (.tuple #[.agg (r.cells (.slice ad x.length cp)), .int .i64 c]) ∧ Fresh w w' 67 9 (.slice ad x.length cp) x.length (wcells x) ∧ x.length ≤ 8 ∧ r.shards ≤ 31 ∧
    ((c = 0 ∧ r.may x = true ∧ r.enc x = bs) ∨ (c = 40 ∧ r = Rc.zero ∧ x = [] ∧ ∀ (r : Rc) (x : List Wr), r.may x = true → r.enc x ≠ bs)) := by
  obtain ⟨r, x, v, c, rfl, hF, h⟩ := h
  have h8 : x.length ≤ 8 := by
    rcases h with ⟨-, hm, -⟩ | ⟨-, -, rfl, -⟩
    · rcases may_cases hm with ⟨-, -, -, h1⟩ | ⟨-, -, -, h1, -⟩ | ⟨-, -, rfl, -⟩ | ⟨-, -, rfl, -⟩ | ⟨-, -, rfl, -⟩ | ⟨-, -, rfl, -⟩ | ⟨-, -, rfl, -⟩
      all_goals first
        | (simp only [writtenB, Bool.and_eq_true, decide_eq_true_eq] at h1; exact h1.1)
        | simp
    · simp
  have hs : r.shards ≤ 31 := by
    rcases h with ⟨-, hm, -⟩ | ⟨-, rfl, -⟩
    · exact may_shards hm
    · simp [Rc.zero]
  obtain ⟨ad, cp, rfl, -, -⟩ := (hF.rd (by unfold maxLen; omega)).form
  refine ⟨r, x, ad, cp, c, rfl, hF, h8, hs, ?_⟩
  rcases h with h | ⟨h1, h2, h3, -, h5⟩
  · exact .inl h
  · exact .inr ⟨h1, h2, h3, h5⟩

def rWake : Rc := ⟨3, ⟨1, 1, 1⟩, true, 0, 0, 0, 0, 0, 0⟩
theorem rWake_may : rWake.may [] = true := by decide
theorem rWake_enc : rWake.enc [] = [3, 1, 0, 0, 1, 0, 0, 1, 0, 0, 1] := by decide
theorem wakes_any (w : World) : Calls Try.prog 8 #[] w fun e w' => e = .returned (.bool true) ∧ Below w.heap.size w w' := by
  have M := Mem.start w
  refine calls_enter Try.func8 rfl 33 rfl rfl ?_; intro a S
  refine wp_seq ?_
  -- region 0 law.go:11
  refine wp_region_lit ?_
  refine st_y S rfl rfl rfl (y_assign S rfl) ?_; clear S a; intro a S
  refine wpList_nil ?_
  replace S := S.sub [(0, _)] rfl
  refine then_normal ?_
  refine wp_seq ?_
  -- region 1 law.go:12
  refine wp_region_lit ?_
  refine st_y S rfl rfl rfl (y_build (ps := [(0, (Operand.const (Value.int IntKind.i64 1))), (1, (Operand.const (Value.int IntKind.i64 1))), (2, (Operand.const (Value.int IntKind.i64 1)))]) (pl := [(0, 1), (1, 1), (2, 1)]) (z := [.int .i64 0, .int .i64 0, .int .i64 0]) (cs := [_, _, _]) S (by kernel_rfl) rfl rfl) ?_; clear S a; intro a S
  refine st_alloc S M rfl rfl #[.int .i64 0, .int .i64 0, .int .i64 0] (by kernel_rfl) ?_; clear S M a; intro a w1 b1 S M hB
  refine st_store (sz := 3) (us := [_, _, _]) S M 0 rfl (by kernel_rfl) rfl rfl rfl rfl rfl rfl (by first | decide | (simp; done) | (simp; omega)) ?_; clear M; intro w2 M
  simp only [putL, List.set_cons_zero, List.set_cons_succ, Nat.reduceAdd] at M
  refine wpList_nil ?_
  replace S := S.sub [(0, _), (1, _)] rfl
  refine then_normal ?_
  refine wp_seq ?_
  -- region 2 law.go:13
  refine wp_region_lit ?_
  refine st_y S rfl rfl rfl (y_loadAgg (cs := [_, _, _]) S (by kernel_rfl) rfl rfl (M.cellsAt (k := 3) 0 rfl rfl)) ?_; clear S a; intro a S
  refine st_y S rfl rfl rfl (y_build (ps := [(0, (Operand.const (Value.int IntKind.i8 3))), (1, (Operand.tmp 8)), (2, (Operand.const (Value.bool true)))]) (pl := [(0, 1), (1, 3), (4, 1), (5, 1), (6, 1), (7, 1), (8, 1), (9, 2), (11, 1)]) (z := [.int .i8 0, .int .i64 0, .int .i64 0, .int .i64 0, .bool false, .slice none 0 0, .int .i64 0, .int .i64 0, .int .i64 0, .int .i64 0, .int .i64 0, .int .i64 0]) (cs := [_, _, _, _, _, _, _, _, _, _, _, _]) S (by kernel_rfl) rfl rfl) ?_; clear S a; intro a S
  refine st_call (xs := [(Operand.tmp 9)]) S (enters_of Try.func13 (by decide) rfl) rfl rfl rfl (bytes_any rWake none 0 0 [] _ (by decide) (Rd.nil _ _ _ _)) ?_
  rintro _ w3 ⟨v7, rfl, hK, h1, h2⟩; refine ⟨_, rfl, ?_⟩; clear S a; intro a S
  have hF := h1 rWake_may
  rw [if_pos rWake_may] at S
  obtain ⟨lo2, hi2, -, M⟩ := M.pushFresh hF
  refine st_y S rfl rfl rfl (y_move S rfl) ?_; clear S a; intro a S
  refine st_y S rfl rfl rfl (y_extract S rfl rfl) ?_; clear S a; intro a S
  refine st_y S rfl rfl rfl (y_extract S rfl rfl) ?_; clear S a; intro a S
  refine st_y S rfl rfl rfl (y_assign S rfl) ?_; clear S a; intro a S
  refine st_y S rfl rfl rfl (y_assign S rfl) ?_; clear S a; intro a S
  refine wpList_nil ?_
  replace S := S.sub [(0, _), (1, _), (2, _), (3, _)] rfl
  refine then_normal ?_
  refine wp_seq ?_
  -- region 3 law.go:14
  refine wp_region_lit ?_
  refine st_lit0 (e := 5) (sz := 1) (by_ := 1) (zc := [.int .u8 0]) S M rfl rfl (by kernel_rfl) ?_; clear S M a; intro a w4 bA S M hB
  replace M := M.toRow (sz := 1) (m := 0) (cap := 0) (xs := []) 0 rfl rfl (Nat.le_refl _) (Nat.zero_le _) rfl rfl
  refine st_y S rfl rfl rfl (y_move S rfl) ?_; clear S a; intro a S
  refine st_append (e := 5) (sz := 1) (by_ := 1) (zc := [.int .u8 0]) S M 0 rfl rfl (by kernel_rfl) rfl (by decide) rfl rfl rfl (M.readAll 1 rfl (by rw [rWake_enc]; unfold maxLen; decide)) (allOne_bcells _) (by rw [rWake_enc]; decide) (by rw [rWake_enc]; unfold maxLen; decide) ?_; clear S M a; intro a w5 vA loA hiA S M
  refine st_lit (ps := [(0, (Operand.const (Value.int IntKind.u8 0)))]) (e := 5) (sz := 1) (zl := [.int .u8 0]) (cs := [_]) S M rfl rfl (by kernel_rfl) rfl rfl ?_; clear S M a; intro a w6 bB S M hB
  refine st_append (e := 5) (sz := 1) (by_ := 1) (zc := [.int .u8 0]) S M 1 rfl rfl (by kernel_rfl) rfl (by decide) rfl rfl rfl (show Rd _ _ _ 1 _ 1 (bcells [0]) from M.sliceAt 0 rfl (M.cellsAt (k := 1) 0 rfl rfl) rfl (Nat.le_refl _) (by unfold maxLen; omega)) (allOne_bcells _) (by rw [rWake_enc]; decide) (by rw [rWake_enc]; unfold maxLen; decide) ?_; clear S M a; intro a w7 vA loA hiA S M
  rw [Nat.zero_add, List.nil_append] at M
  replace M := M.rowC (ys := [0]) rfl
  refine st_call (xs := [(Operand.tmp 18)]) S (enters_of Try.func9 (by decide) rfl) rfl rfl rfl (read_any _ (rWake.enc [] ++ [0]) _ (M.readAll 0 rfl (by rw [rWake_enc]; unfold maxLen; decide))) ?_
  rintro _ w8 hR
  obtain ⟨r, x, ad, cp, c, rfl, hF2, -, -, hc⟩ := hR.form
  refine ⟨_, rfl, ?_⟩; clear S a; intro a S
  have hc40 : c = 40 := by
    rcases hc with ⟨-, hm, he⟩ | ⟨h, -⟩
    · have := (enc_inj hm rWake_may he).2.2; cases this
    · exact h
  subst hc40
  replace M := M.grow hF2.below
  refine st_y S rfl rfl rfl (y_move S rfl) ?_; clear S a; intro a S
  refine st_y S rfl rfl rfl (y_extract S rfl rfl) ?_; clear S a; intro a S
  refine st_y S rfl rfl rfl (y_extract S rfl rfl) ?_; clear S a; intro a S
  refine st_alloc S M rfl rfl #[.int .i8 0, .int .i64 0, .int .i64 0, .int .i64 0, .bool false, .slice none 0 0, .int .i64 0, .int .i64 0, .int .i64 0, .int .i64 0, .int .i64 0, .int .i64 0] (by kernel_rfl) ?_; clear S M a; intro a w9 b2 S M hB
  refine st_store (sz := 12) (us := [_, _, _, _, _, _, _, _, _, _, _, _]) S M 0 rfl (by kernel_rfl) rfl rfl rfl rfl rfl rfl (by first | decide | (simp; done) | (simp; omega)) ?_; clear M; intro w10 M
  simp only [putL, List.set_cons_zero, List.set_cons_succ, Nat.reduceAdd] at M
  refine st_y S rfl rfl rfl (y_assign S rfl) ?_; clear S a; intro a S
  refine wpList_nil ?_
  replace S := S.sub [(0, _), (1, _), (2, _), (3, _), (5, _)] rfl
  refine then_normal ?_
  refine wp_seq ?_
  -- region 4 law.go:15
  refine wp_region_lit ?_
  refine st_y S rfl rfl rfl (y_move S rfl) ?_; clear S a; intro a S
  refine st_y S rfl rfl rfl (y_int S rfl rfl rfl) ?_; clear S a; intro a S
  refine st_y S rfl rfl rfl (y_move S rfl) ?_; clear S a; intro a S
  refine st_split (t := 24) S rfl ?_ ?_
  · clear S; intro h24 S
    first | replace h24 := nrmA h24 | replace h24 := nrmB h24 | skip
    first | replace h24 := nrm1 h24 | replace h24 := nrm2 h24 | replace h24 := nrm3 h24 | replace h24 := nrm4 h24 | replace h24 := nrm5 h24 | replace h24 := nrm6 h24 | replace h24 := of_decide_eq_true h24 | replace h24 := of_decide_eq_false h24 | skip
    refine st_y S rfl rfl rfl (y_move S rfl) ?_; clear S a; intro a S
    refine st_y S rfl rfl rfl (y_bytesStr (e := 5) S rfl (by kernel_rfl) (by kernel_rfl) (by kernel_rfl) (M.readAll 3 rfl (by rw [rWake_enc]; unfold maxLen; decide))) ?_; clear S a; intro a S
    refine st_y S rfl rfl rfl (y_eqlStr S rfl rfl) ?_; clear S a; intro a S
    refine st_y S rfl rfl rfl (y_pickT S rfl rfl) ?_; clear S a; intro a S
    refine st_y S rfl rfl rfl (y_move S rfl) ?_; clear S a; intro a S
    refine st_split (t := 29) S rfl ?_ ?_
    · clear S; intro h29 S
      refine st_y S rfl rfl rfl (y_move S rfl) ?_; clear S a; intro a S
      refine st_y S rfl rfl rfl (y_int S rfl rfl rfl) ?_; clear S a; intro a S
      refine st_y S rfl rfl rfl (y_pickT S rfl rfl) ?_; clear S a; intro a S
      refine st_y S rfl rfl rfl (y_assign S rfl) ?_; clear S a; intro a S
      refine wpList_nil ?_
      replace S := S.sub [(1, _), (2, _), (3, _), (5, _), (0, _)] rfl
      refine then_normal ?_
      refine wp_ret ?_
      refine end_one S rfl (res_tmp rfl) ?_
      exact ⟨rfl, M.below⟩
    · clear S; intro h29 S
      rw [strEq, rWake_enc] at h29; exact absurd h29 (by decide)
  · clear S; intro h24 S
    first | replace h24 := nrmA h24 | replace h24 := nrmB h24 | skip
    first | replace h24 := nrm1 h24 | replace h24 := nrm2 h24 | replace h24 := nrm3 h24 | replace h24 := nrm4 h24 | replace h24 := nrm5 h24 | replace h24 := nrm6 h24 | replace h24 := of_decide_eq_true h24 | replace h24 := of_decide_eq_false h24 | skip
    simp at h24

theorem tmod_bd {n L : Int} (h : 0 < L) : -L < n.tmod L ∧ n.tmod L < L := ⟨by have := Int.lt_tmod_of_pos n h; omega, Int.tmod_lt_of_pos n h⟩
theorem short_any (r : Rc) (va : Option Addr) (vn vc : Nat) (x : List Wr) (n : Int) (bv : Value) (bs : List UInt8) (w : World) (hs : r.shards ≤ 9223372036854775807) (hu : Ws 0 w.heap.size w (.slice va vn vc) x) (hb : Bs 0 w.heap.size w bv bs) :
    Calls Try.prog 4 #[.agg (r.cells (.slice va vn vc)), .int .i64 n, bv] w fun e w' => e = .returned (.bool true) ∧ Below w.heap.size w w' := by
  have M := Mem.start w
  refine calls_enter Try.func4 rfl 77 rfl rfl ?_; intro a S
  refine wp_seq ?_
  -- region 0 law.go:74
  refine wp_region_lit ?_
  refine st_box S M rfl rfl rfl #[_, _, _, _, _, _, _, _, _, _, _, _] rfl ?_; clear S M a; intro a w1 b1 S M hB
  refine st_y S rfl rfl rfl (y_assign S rfl) ?_; clear S a; intro a S
  refine wpList_nil ?_
  replace S := S.sub [(0, _), (1, _), (2, _), (3, _), (6, _)] rfl
  refine then_normal ?_
  refine wp_seq ?_
  refine wp_seq ?_
  -- region 1 law.go:75
  refine wp_region_lit ?_
  refine st_y S rfl rfl rfl (y_loadAgg (cs := [_, _, _, _, _, _, _, _, _, _, _, _]) S (by kernel_rfl) rfl rfl (M.cellsAt (k := 12) 0 rfl rfl)) ?_; clear S a; intro a S
  refine st_call (xs := [(Operand.tmp 11)]) S (enters_of Try.func12 (by decide) rfl) rfl rfl rfl (great_any _ _ _ _ _) ?_
  rintro _ w2 ⟨rfl, hK⟩; refine ⟨_, rfl, ?_⟩; clear S a; intro a S; replace M := M.grow hK
  refine st_y S rfl rfl rfl (y_move S rfl) ?_; clear S a; intro a S
  refine st_split (t := 13) S rfl ?_ ?_
  · clear S; intro h13 S
    first | replace h13 := nrmA h13 | replace h13 := nrmB h13 | skip
    first | replace h13 := nrm1 h13 | replace h13 := nrm2 h13 | replace h13 := nrm3 h13 | replace h13 := nrm4 h13 | replace h13 := nrm5 h13 | replace h13 := nrm6 h13 | replace h13 := of_decide_eq_true h13 | replace h13 := of_decide_eq_false h13 | skip
    refine st_no S rfl rfl rfl ?_; clear S a; intro a S
    refine st_no S rfl rfl rfl ?_; clear S a; intro a S
    refine st_no S rfl rfl rfl ?_; clear S a; intro a S
    refine st_y S rfl rfl rfl (y_pickT S rfl rfl) ?_; clear S a; intro a S
    refine wpList_nil ?_
    replace S := S.sub [(0, _), (1, _), (2, _), (3, _), (6, _), (17, _)] rfl
    refine then_normal ?_
    refine st_condT S rfl ?_
    refine wp_seq ?_
    -- region 2 law.go:76
    refine wp_region_lit ?_
    refine st_call (xs := []) S (enters_of Try.func8 (by decide) rfl) rfl rfl rfl (wakes_any _) ?_
    rintro _ w3 ⟨rfl, hK⟩; refine ⟨_, rfl, ?_⟩; clear S a; intro a S; replace M := M.grow hK
    refine st_y S rfl rfl rfl (y_assign S rfl) ?_; clear S a; intro a S
    refine wpList_nil ?_
    replace S := S.sub [(0, _), (1, _), (2, _), (3, _), (17, _), (6, _)] rfl
    refine then_normal ?_
    refine wp_ret ?_
    refine then_ret ?_
    refine end_one S rfl (res_tmp rfl) ?_
    exact ⟨rfl, M.below⟩
  · clear S; intro h13 S
    first | replace h13 := nrmA h13 | replace h13 := nrmB h13 | skip
    first | replace h13 := nrm1 h13 | replace h13 := nrm2 h13 | replace h13 := nrm3 h13 | replace h13 := nrm4 h13 | replace h13 := nrm5 h13 | replace h13 := nrm6 h13 | replace h13 := of_decide_eq_true h13 | replace h13 := of_decide_eq_false h13 | skip
    refine st_y S rfl rfl rfl (y_move S rfl) ?_; clear S a; intro a S
    refine st_y S rfl rfl rfl (y_lenR (E := 5) S rfl (M.arg hb) (by kernel_rfl)) ?_; clear S a; intro a S
    refine st_y S rfl rfl rfl (y_int S rfl rfl rfl) ?_; clear S a; intro a S
    refine st_y S rfl rfl rfl (y_pickF S rfl rfl) ?_; clear S a; intro a S
    refine wpList_nil ?_
    replace S := S.sub [(0, _), (1, _), (2, _), (3, _), (6, _), (17, _)] rfl
    refine then_normal ?_
    refine st_split (t := 17) S rfl ?_ ?_
    · clear S; intro h17 S
      first | replace h17 := nrmA h17 | replace h17 := nrmB h17 | skip
      first | replace h17 := nrm1 h17 | replace h17 := nrm2 h17 | replace h17 := nrm3 h17 | replace h17 := nrm4 h17 | replace h17 := nrm5 h17 | replace h17 := nrm6 h17 | replace h17 := of_decide_eq_true h17 | replace h17 := of_decide_eq_false h17 | skip
      refine st_condT S rfl ?_
      refine wp_seq ?_
      -- region 2 law.go:76
      refine wp_region_lit ?_
      refine st_call (xs := []) S (enters_of Try.func8 (by decide) rfl) rfl rfl rfl (wakes_any _) ?_
      rintro _ w4 ⟨rfl, hK⟩; refine ⟨_, rfl, ?_⟩; clear S a; intro a S; replace M := M.grow hK
      refine st_y S rfl rfl rfl (y_assign S rfl) ?_; clear S a; intro a S
      refine wpList_nil ?_
      replace S := S.sub [(0, _), (1, _), (2, _), (3, _), (17, _), (6, _)] rfl
      refine then_normal ?_
      refine wp_ret ?_
      refine then_ret ?_
      refine end_one S rfl (res_tmp rfl) ?_
      exact ⟨rfl, M.below⟩
    · clear S; intro h17 S
      first | replace h17 := nrmA h17 | replace h17 := nrmB h17 | skip
      first | replace h17 := nrm1 h17 | replace h17 := nrm2 h17 | replace h17 := nrm3 h17 | replace h17 := nrm4 h17 | replace h17 := nrm5 h17 | replace h17 := nrm6 h17 | replace h17 := of_decide_eq_true h17 | replace h17 := of_decide_eq_false h17 | skip
      refine st_condF S rfl ?_
      refine wp_skip ?_
      refine then_normal ?_
      refine wp_seq ?_
      -- region 3 law.go:78
      refine wp_region_lit ?_
      refine st_y S rfl rfl rfl (y_loadAgg (cs := [_, _, _, _, _, _, _, _, _, _, _, _]) S (by kernel_rfl) rfl rfl (M.cellsAt (k := 12) 0 rfl rfl)) ?_; clear S a; intro a S
      refine st_call (xs := [(Operand.tmp 20)]) S (enters_of Try.func13 (by decide) rfl) rfl rfl rfl (bytes_any r va vn vc x _ hs (M.argW hu)) ?_
      rintro _ w5 ⟨v7, rfl, hK, h1, h2⟩; refine ⟨_, rfl, ?_⟩; clear S a; intro a S
      have hF := fresh_if hK h1 (fun h => h2 (by simpa using h))
      obtain ⟨lo2, hi2, -, M⟩ := M.pushFresh hF
      refine st_y S rfl rfl rfl (y_move S rfl) ?_; clear S a; intro a S
      refine st_y S rfl rfl rfl (y_extract S rfl rfl) ?_; clear S a; intro a S
      refine st_y S rfl rfl rfl (y_extract S rfl rfl) ?_; clear S a; intro a S
      refine st_y S rfl rfl rfl (y_assign S rfl) ?_; clear S a; intro a S
      refine st_y S rfl rfl rfl (y_assign S rfl) ?_; clear S a; intro a S
      refine wpList_nil ?_
      replace S := S.sub [(0, _), (1, _), (2, _), (3, _), (6, _), (17, _), (7, _), (8, _)] rfl
      refine then_normal ?_
      refine wp_seq ?_
      refine wp_seq ?_
      -- region 4 law.go:79
      refine wp_region_lit ?_
      refine st_y S rfl rfl rfl (y_move S rfl) ?_; clear S a; intro a S
      refine st_y S rfl rfl rfl (y_int S rfl rfl rfl) ?_; clear S a; intro a S
      refine wpList_nil ?_
      replace S := S.sub [(0, _), (1, _), (2, _), (3, _), (6, _), (17, _), (7, _), (8, _), (25, _)] rfl
      refine then_normal ?_
      refine st_split (t := 25) S rfl ?_ ?_
      · clear S; intro h25 S
        refine st_condT S rfl ?_
        refine wp_seq ?_
        -- region 5 law.go:80
        have hm : ¬ r.may x = true := fun hm => by rw [if_pos hm] at h25; simp at h25
        have hl0 : (ifL (r.may x = true) (r.enc x)).length = 0 := by rw [ifL_neg hm]; rfl
        refine wp_region_lit ?_
        refine st_y S rfl rfl rfl (y_loadAgg (cs := [_, _, _, _, _, _, _, _, _, _, _, _]) S (by kernel_rfl) rfl rfl (M.cellsAt (k := 12) 1 rfl rfl)) ?_; clear S a; intro a S
        refine st_call (xs := [(Operand.tmp 26)]) S (enters_of Try.func14 (by decide) rfl) rfl rfl rfl (may_any r va vn vc x _ hs (M.argW hu)) ?_
        rintro _ w6 ⟨rfl, hK⟩; refine ⟨_, rfl, ?_⟩; clear S a; intro a S; replace M := M.grow hK
        refine st_y S rfl rfl rfl (y_not S rfl) ?_; clear S a; intro a S
        refine st_y S rfl rfl rfl (y_move S rfl) ?_; clear S a; intro a S
        refine st_split (t := 29) S rfl ?_ ?_
        · clear S; intro h29 S
          refine st_y S rfl rfl rfl (y_move S rfl) ?_; clear S a; intro a S
          refine st_y S rfl rfl rfl (y_lenR (E := 5) S rfl ((M.readAll 0 rfl (encIf_len r x))) (by kernel_rfl)) ?_; clear S a; intro a S
          refine st_y S rfl rfl rfl (y_int S rfl rfl rfl) ?_; clear S a; intro a S
          refine st_y S rfl rfl rfl (y_pickT S rfl rfl) ?_; clear S a; intro a S
          refine st_y S rfl rfl rfl (y_move S rfl) ?_; clear S a; intro a S
          refine st_split (t := 34) S rfl ?_ ?_
          · clear S; intro h34 S
            first | replace h34 := nrmA h34 | replace h34 := nrmB h34 | skip
            first | replace h34 := nrm1 h34 | replace h34 := nrm2 h34 | replace h34 := nrm3 h34 | replace h34 := nrm4 h34 | replace h34 := nrm5 h34 | replace h34 := nrm6 h34 | replace h34 := of_decide_eq_true h34 | replace h34 := of_decide_eq_false h34 | skip
            refine st_call (xs := []) S (enters_of Try.func8 (by decide) rfl) rfl rfl rfl (wakes_any _) ?_
            rintro _ w7 ⟨rfl, hK⟩; refine ⟨_, rfl, ?_⟩; clear S a; intro a S; replace M := M.grow hK
            refine st_y S rfl rfl rfl (y_pickT S rfl rfl) ?_; clear S a; intro a S
            refine st_y S rfl rfl rfl (y_assign S rfl) ?_; clear S a; intro a S
            refine wpList_nil ?_
            replace S := S.sub [(0, _), (1, _), (2, _), (3, _), (17, _), (7, _), (8, _), (25, _), (6, _)] rfl
            refine then_normal ?_
            refine wp_ret ?_
            refine then_ret ?_
            refine end_one S rfl (res_tmp rfl) ?_
            exact ⟨rfl, M.below⟩
          · clear S; intro h34 S
            first | replace h34 := nrmA h34 | replace h34 := nrmB h34 | skip
            first | replace h34 := nrm1 h34 | replace h34 := nrm2 h34 | replace h34 := nrm3 h34 | replace h34 := nrm4 h34 | replace h34 := nrm5 h34 | replace h34 := nrm6 h34 | replace h34 := of_decide_eq_true h34 | replace h34 := of_decide_eq_false h34 | skip
            omega
        · clear S; intro h29 S
          simp [hm] at h29
      · clear S; intro h25 S
        refine st_condF S rfl ?_
        refine wp_skip ?_
        refine then_normal ?_
        refine wp_seq ?_
        refine wp_seq ?_
        -- region 6 law.go:82
        have hm : r.may x = true := by
          by_cases hm : r.may x = true
          · exact hm
          · rw [if_neg hm] at h25; simp at h25
        have hl := enc_len hm
        have hlm : (r.enc x).length ≤ maxLen := by unfold maxLen; omega
        rw [ifL_pos hm] at M
        refine wp_region_lit ?_
        refine st_y S rfl rfl rfl (y_move S rfl) ?_; clear S a; intro a S
        refine st_y S rfl rfl rfl (y_lenR (E := 5) S rfl ((M.readAll 0 rfl hlm)) (by kernel_rfl)) ?_; clear S a; intro a S
        refine st_y S rfl rfl rfl (y_int S rfl rfl rfl) ?_; clear S a; intro a S
        refine wpList_nil ?_
        replace S := S.sub [(0, _), (1, _), (2, _), (3, _), (6, _), (17, _), (7, _), (8, _), (25, _), (39, _)] rfl
        refine then_normal ?_
        refine st_split (t := 39) S rfl ?_ ?_
        · clear S; intro h39 S
          first | replace h39 := nrmA h39 | replace h39 := nrmB h39 | skip
          first | replace h39 := nrm1 h39 | replace h39 := nrm2 h39 | replace h39 := nrm3 h39 | replace h39 := nrm4 h39 | replace h39 := nrm5 h39 | replace h39 := nrm6 h39 | replace h39 := of_decide_eq_true h39 | replace h39 := of_decide_eq_false h39 | skip
          omega
        · clear S; intro h39 S
          first | replace h39 := nrmA h39 | replace h39 := nrmB h39 | skip
          first | replace h39 := nrm1 h39 | replace h39 := nrm2 h39 | replace h39 := nrm3 h39 | replace h39 := nrm4 h39 | replace h39 := nrm5 h39 | replace h39 := nrm6 h39 | replace h39 := of_decide_eq_true h39 | replace h39 := of_decide_eq_false h39 | skip
          refine st_condF S rfl ?_
          refine wp_skip ?_
          refine then_normal ?_
          refine wp_seq ?_
          -- region 8 law.go:85
          refine wp_region_lit ?_
          refine st_y S rfl rfl rfl (y_move S rfl) ?_; clear S a; intro a S
          refine st_y S rfl rfl rfl (y_move S rfl) ?_; clear S a; intro a S
          refine st_y S rfl rfl rfl (y_lenR (E := 5) S rfl ((M.readAll 0 rfl hlm)) (by kernel_rfl)) ?_; clear S a; intro a S
          (first | refine st_y S rfl rfl rfl (y_remN S rfl rfl (by omega)) ?_ | refine st_y S rfl rfl rfl (y_remZ S rfl rfl (by omega)) ?_); clear S a; intro a S
          have hq := tmod_bd (n := n) (L := ((r.enc x).length : Int)) (by omega)
          refine st_y S rfl rfl rfl (y_move S rfl) ?_; clear S a; intro a S
          refine st_y S rfl rfl rfl (y_lenR (E := 5) S rfl ((M.readAll 0 rfl hlm)) (by kernel_rfl)) ?_; clear S a; intro a S
          (first | refine st_y S rfl rfl rfl (y_addN S rfl rfl (by omega)) ?_ | refine st_y S rfl rfl rfl (y_int S rfl rfl rfl) ?_); clear S a; intro a S
          refine st_y S rfl rfl rfl (y_move S rfl) ?_; clear S a; intro a S
          refine st_y S rfl rfl rfl (y_lenR (E := 5) S rfl ((M.readAll 0 rfl hlm)) (by kernel_rfl)) ?_; clear S a; intro a S
          (first | refine st_y S rfl rfl rfl (y_remN S rfl rfl (by omega)) ?_ | refine st_y S rfl rfl rfl (y_remZ S rfl rfl (by omega)) ?_); clear S a; intro a S
          refine st_y S rfl rfl rfl (y_assign S rfl) ?_; clear S a; intro a S
          refine wpList_nil ?_
          replace S := S.sub [(0, _), (2, _), (3, _), (6, _), (17, _), (7, _), (8, _), (25, _), (39, _), (1, _)] rfl
          refine then_normal ?_
          refine wp_seq ?_
          -- region 9 law.go:86
          refine wp_region_lit ?_
          obtain ⟨N, hN⟩ : ∃ N : Nat, (N : Int) = (n.tmod ((r.enc x).length : Int) + ((r.enc x).length : Int)) % ((r.enc x).length : Int) := ⟨_, Int.toNat_of_nonneg (Int.emod_nonneg _ (by omega))⟩
          have hNl : N < (r.enc x).length := by have := Int.emod_lt_of_pos (n.tmod ((r.enc x).length : Int) + ((r.enc x).length : Int)) (show (0 : Int) < ((r.enc x).length : Int) by omega); omega
          rw [← hN] at S
          refine st_y S rfl rfl rfl (y_move S rfl) ?_; clear S a; intro a S
          refine st_y S rfl rfl rfl (y_move S rfl) ?_; clear S a; intro a S
          refine st_y S rfl rfl rfl (y_slice02R (e := 5) (sz := 1) S (by kernel_rfl) rfl ((M.readAll 0 rfl hlm)) rfl (by first | omega | (simp; done) | (simp; omega))) ?_; clear S a; intro a S
          rw [Int.toNat_natCast] at S
          refine st_call (xs := [(Operand.tmp 53)]) S (enters_of Try.func9 (by decide) rfl) rfl rfl rfl (read_any _ ((r.enc x).take N) _ ((M.readAll 0 rfl hlm).cut0 (by omega))) ?_
          rintro _ w8 hR
          obtain ⟨r1, x1, ad1, cp1, c1, rfl, hF1, -, -, hc⟩ := hR.form
          refine ⟨_, rfl, ?_⟩; clear S a; intro a S
          have hc40 : c1 = 40 := by
            rcases hc with ⟨-, hm', he⟩ | ⟨h, -⟩
            · exact absurd he (enc_pre hm hm' hNl)
            · exact h
          subst hc40
          replace M := M.grow hF1.below
          refine st_y S rfl rfl rfl (y_move S rfl) ?_; clear S a; intro a S
          refine st_y S rfl rfl rfl (y_extract S rfl rfl) ?_; clear S a; intro a S
          refine st_y S rfl rfl rfl (y_extract S rfl rfl) ?_; clear S a; intro a S
          refine st_alloc S M rfl rfl #[.int .i8 0, .int .i64 0, .int .i64 0, .int .i64 0, .bool false, .slice none 0 0, .int .i64 0, .int .i64 0, .int .i64 0, .int .i64 0, .int .i64 0, .int .i64 0] (by kernel_rfl) ?_; clear S M a; intro a w9 b2 S M hB
          refine st_store (sz := 12) (us := [_, _, _, _, _, _, _, _, _, _, _, _]) S M 0 rfl (by kernel_rfl) rfl rfl rfl rfl rfl rfl (by first | decide | (simp; done) | (simp; omega)) ?_; clear M; intro w10 M
          simp only [putL, List.set_cons_zero, List.set_cons_succ, Nat.reduceAdd] at M
          refine st_y S rfl rfl rfl (y_assign S rfl) ?_; clear S a; intro a S
          refine wpList_nil ?_
          replace S := S.sub [(0, _), (2, _), (3, _), (6, _), (17, _), (7, _), (8, _), (25, _), (39, _), (1, _), (10, _)] rfl
          refine then_normal ?_
          refine wp_seq ?_
          refine wp_seq ?_
          -- region 10 law.go:87
          refine wp_region_lit ?_
          refine st_y S rfl rfl rfl (y_move S rfl) ?_; clear S a; intro a S
          refine st_y S rfl rfl rfl (y_int S rfl rfl rfl) ?_; clear S a; intro a S
          refine wpList_nil ?_
          replace S := S.sub [(0, _), (2, _), (3, _), (6, _), (17, _), (7, _), (8, _), (25, _), (39, _), (1, _), (10, _), (58, _)] rfl
          refine then_normal ?_
          refine st_split (t := 58) S rfl ?_ ?_
          · clear S; intro h58 S
            first | replace h58 := nrmA h58 | replace h58 := nrmB h58 | skip
            first | replace h58 := nrm1 h58 | replace h58 := nrm2 h58 | replace h58 := nrm3 h58 | replace h58 := nrm4 h58 | replace h58 := nrm5 h58 | replace h58 := nrm6 h58 | replace h58 := of_decide_eq_true h58 | replace h58 := of_decide_eq_false h58 | skip
            simp at h58
          · clear S; intro h58 S
            first | replace h58 := nrmA h58 | replace h58 := nrmB h58 | skip
            first | replace h58 := nrm1 h58 | replace h58 := nrm2 h58 | replace h58 := nrm3 h58 | replace h58 := nrm4 h58 | replace h58 := nrm5 h58 | replace h58 := nrm6 h58 | replace h58 := of_decide_eq_true h58 | replace h58 := of_decide_eq_false h58 | skip
            refine st_condF S rfl ?_
            refine wp_skip ?_
            refine then_normal ?_
            refine wp_seq ?_
            -- region 12 law.go:90
            refine wp_region_lit ?_
            refine st_lit0 (e := 5) (sz := 1) (by_ := 1) (zc := [.int .u8 0]) S M rfl rfl (by kernel_rfl) ?_; clear S M a; intro a w11 bA S M hB
            replace M := M.toRow (sz := 1) (m := 0) (cap := 0) (xs := []) 0 rfl rfl (Nat.le_refl _) (Nat.zero_le _) rfl rfl
            refine st_y S rfl rfl rfl (y_move S rfl) ?_; clear S a; intro a S
            refine st_append (e := 5) (sz := 1) (by_ := 1) (zc := [.int .u8 0]) S M 0 rfl rfl (by kernel_rfl) rfl (by decide) rfl rfl rfl (M.readAll 2 rfl hlm) (allOne_bcells _) (by omega) (by unfold maxLen; omega) ?_; clear S M a; intro a w12 vA loA hiA S M
            rw [Nat.zero_add, List.nil_append] at M
            refine st_y S rfl rfl rfl (y_move S rfl) ?_; clear S a; intro a S
            refine st_append (e := 5) (sz := 1) (by_ := 1) (zc := [.int .u8 0]) S M 0 rfl rfl (by kernel_rfl) rfl (by decide) rfl rfl rfl (M.arg hb) (allOne_bcells _) (by omega) (by unfold maxLen; omega) ?_; clear S M a; intro a w13 vA loA hiA S M
            replace M := M.rowC (ys := bs) rfl
            refine st_call (xs := [(Operand.tmp 64)]) S (enters_of Try.func9 (by decide) rfl) rfl rfl rfl (read_any _ (r.enc x ++ bs) _ (M.readAll 0 rfl (by rw [List.length_append]; unfold maxLen; omega))) ?_
            rintro _ w14 hR
            obtain ⟨r2, x2, ad2, cp2, c2, rfl, hF2, -, -, hc⟩ := hR.form
            refine ⟨_, rfl, ?_⟩; clear S a; intro a S
            have hc0 : (c2 = 0) ↔ bs.length = 0 := by
              rcases hc with ⟨h0, hm', he⟩ | ⟨h0, -, -, hno⟩
              · have := (enc_inj hm' hm he).2.2
                simp [h0, this]
              · refine ⟨fun h => by omega, fun h => ?_⟩
                rw [List.eq_nil_of_length_eq_zero h, List.append_nil] at hno
                exact absurd rfl (hno r x hm)
            replace M := M.grow hF2.below
            refine st_y S rfl rfl rfl (y_move S rfl) ?_; clear S a; intro a S
            refine st_y S rfl rfl rfl (y_extract S rfl rfl) ?_; clear S a; intro a S
            refine st_y S rfl rfl rfl (y_extract S rfl rfl) ?_; clear S a; intro a S
            refine st_y S rfl rfl rfl (y_assign S rfl) ?_; clear S a; intro a S
            refine wpList_nil ?_
            replace S := S.sub [(0, _), (2, _), (3, _), (6, _), (17, _), (7, _), (8, _), (25, _), (39, _), (1, _), (58, _), (10, _)] rfl
            refine then_normal ?_
            refine wp_seq ?_
            -- region 13 law.go:91
            refine wp_region_lit ?_
            refine st_y S rfl rfl rfl (y_move S rfl) ?_; clear S a; intro a S
            refine st_y S rfl rfl rfl (y_int S rfl rfl rfl) ?_; clear S a; intro a S
            refine st_y S rfl rfl rfl (y_move S rfl) ?_; clear S a; intro a S
            refine st_y S rfl rfl rfl (y_lenR (E := 5) S rfl (M.arg hb) (by kernel_rfl)) ?_; clear S a; intro a S
            refine st_y S rfl rfl rfl (y_int S rfl rfl rfl) ?_; clear S a; intro a S
            refine st_y S rfl rfl rfl (y_eqlBool (by kernel_rfl) S rfl rfl) ?_; clear S a; intro a S
            refine st_y S rfl rfl rfl (y_move S rfl) ?_; clear S a; intro a S
            refine st_split (t := 74) S rfl ?_ ?_
            · clear S; intro h74 S
              refine st_call (xs := []) S (enters_of Try.func8 (by decide) rfl) rfl rfl rfl (wakes_any _) ?_
              rintro _ w15 ⟨rfl, hK⟩; refine ⟨_, rfl, ?_⟩; clear S a; intro a S; replace M := M.grow hK
              refine st_y S rfl rfl rfl (y_pickT S rfl rfl) ?_; clear S a; intro a S
              refine st_y S rfl rfl rfl (y_assign S rfl) ?_; clear S a; intro a S
              refine wpList_nil ?_
              replace S := S.sub [(0, _), (2, _), (3, _), (17, _), (7, _), (8, _), (25, _), (39, _), (1, _), (58, _), (10, _), (6, _)] rfl
              refine then_normal ?_
              refine wp_ret ?_
              refine end_one S rfl (res_tmp rfl) ?_
              exact ⟨rfl, M.below⟩
            · clear S; intro h74 S
              exfalso
              by_cases h0 : c2 = 0
              · have := hc0.1 h0; simp [h0, this] at h74
              · have h1 : ¬ (bs.length : Int) = 0 := fun h => h0 (hc0.2 (by omega))
                have e1 : (c2 == 0) = false := by simpa using h0
                have e2 : ((bs.length : Int) == 0) = false := by simpa using h1
                rw [e1, e2] at h74; simp at h74

end Go.Proofs.Ytbaoodlkcbiclaa
