/-
  Package cashboxlaw07: RecordTells.
-/
import Derived.Test.YtbaoodlkcbiclaaSb
namespace Go.Proofs.Ytbaoodlkcbiclaa
open Go.RowKit Go.Sort

theorem tells_any (r o : Rc) (va : Option Addr) (vn vc : Nat) (x : List Wr) (ua : Option Addr) (un uc : Nat) (y : List Wr) (w : World) (hs : r.shards ≤ 9223372036854775807) (hv : Ws 0 w.heap.size w (.slice va vn vc) x) (hu : Ws 0 w.heap.size w (.slice ua un uc) y) :
    Calls Try.prog 7 #[.agg (r.cells (.slice va vn vc)), .agg (o.cells (.slice ua un uc))] w fun e w' => e = .returned (.bool true) ∧ Below w.heap.size w w' := by
  have M := Mem.start w
  refine calls_enter Try.func7 rfl 110 rfl rfl ?_; intro a S
  refine wp_seq ?_
  -- region 0 law.go:19
  refine wp_region_lit ?_
  refine st_box S M rfl rfl rfl #[_, _, _, _, _, _, _, _, _, _, _, _] rfl ?_; clear S M a; intro a w1 b1 S M hB
  refine st_box S M rfl rfl rfl #[_, _, _, _, _, _, _, _, _, _, _, _] rfl ?_; clear S M a; intro a w2 b2 S M hB
  refine st_y S rfl rfl rfl (y_assign S rfl) ?_; clear S a; intro a S
  refine wpList_nil ?_
  replace S := S.sub [(0, _), (1, _), (2, _), (3, _), (4, _)] rfl
  refine then_normal ?_
  refine wp_seq ?_
  refine wp_seq ?_
  -- region 1 law.go:20
  refine wp_region_lit ?_
  refine st_y S rfl rfl rfl (y_loadAgg (cs := [_, _, _, _, _, _, _, _, _, _, _, _]) S (by kernel_rfl) rfl rfl (M.cellsAt (k := 12) 1 rfl rfl)) ?_; clear S a; intro a S
  refine st_call (xs := [(Operand.tmp 13)]) S (enters_of Try.func12 (by decide) rfl) rfl rfl rfl (great_any _ _ _ _ _) ?_
  rintro _ w3 ⟨rfl, hK⟩; refine ⟨_, rfl, ?_⟩; clear S a; intro a S; replace M := M.grow hK
  refine st_y S rfl rfl rfl (y_move S rfl) ?_; clear S a; intro a S
  refine st_split (t := 15) S rfl ?_ ?_
  · clear S; intro h15 S
    first | replace h15 := nrmA h15 | replace h15 := nrmB h15 | skip
    first | replace h15 := nrm1 h15 | replace h15 := nrm2 h15 | replace h15 := nrm3 h15 | replace h15 := nrm4 h15 | replace h15 := nrm5 h15 | replace h15 := nrm6 h15 | replace h15 := of_decide_eq_true h15 | replace h15 := of_decide_eq_false h15 | skip
    refine st_no S rfl rfl rfl ?_; clear S a; intro a S
    refine st_no S rfl rfl rfl ?_; clear S a; intro a S
    refine st_y S rfl rfl rfl (y_pickT S rfl rfl) ?_; clear S a; intro a S
    refine wpList_nil ?_
    replace S := S.sub [(0, _), (1, _), (2, _), (3, _), (4, _), (18, _)] rfl
    refine then_normal ?_
    refine st_condT S rfl ?_
    refine wp_seq ?_
    -- region 2 law.go:21
    refine wp_region_lit ?_
    refine st_call (xs := []) S (enters_of Try.func8 (by decide) rfl) rfl rfl rfl (wakes_any _) ?_
    rintro _ w4 ⟨rfl, hK⟩; refine ⟨_, rfl, ?_⟩; clear S a; intro a S; replace M := M.grow hK
    refine st_y S rfl rfl rfl (y_assign S rfl) ?_; clear S a; intro a S
    refine wpList_nil ?_
    replace S := S.sub [(0, _), (1, _), (2, _), (3, _), (18, _), (4, _)] rfl
    refine then_normal ?_
    refine wp_ret ?_
    refine then_ret ?_
    refine end_one S rfl (res_tmp rfl) ?_
    exact ⟨rfl, M.below⟩
  · clear S; intro h15 S
    first | replace h15 := nrmA h15 | replace h15 := nrmB h15 | skip
    first | replace h15 := nrm1 h15 | replace h15 := nrm2 h15 | replace h15 := nrm3 h15 | replace h15 := nrm4 h15 | replace h15 := nrm5 h15 | replace h15 := nrm6 h15 | replace h15 := of_decide_eq_true h15 | replace h15 := of_decide_eq_false h15 | skip
    refine st_y S rfl rfl rfl (y_loadAgg (cs := [_, _, _, _, _, _, _, _, _, _, _, _]) S (by kernel_rfl) rfl rfl (M.cellsAt (k := 12) 0 rfl rfl)) ?_; clear S a; intro a S
    refine st_call (xs := [(Operand.tmp 16)]) S (enters_of Try.func12 (by decide) rfl) rfl rfl rfl (great_any _ _ _ _ _) ?_
    rintro _ w5 ⟨rfl, hK⟩; refine ⟨_, rfl, ?_⟩; clear S a; intro a S; replace M := M.grow hK
    refine st_y S rfl rfl rfl (y_pickF S rfl rfl) ?_; clear S a; intro a S
    refine wpList_nil ?_
    replace S := S.sub [(0, _), (1, _), (2, _), (3, _), (4, _), (18, _)] rfl
    refine then_normal ?_
    refine st_split (t := 18) S rfl ?_ ?_
    · clear S; intro h18 S
      first | replace h18 := nrmA h18 | replace h18 := nrmB h18 | skip
      first | replace h18 := nrm1 h18 | replace h18 := nrm2 h18 | replace h18 := nrm3 h18 | replace h18 := nrm4 h18 | replace h18 := nrm5 h18 | replace h18 := nrm6 h18 | replace h18 := of_decide_eq_true h18 | replace h18 := of_decide_eq_false h18 | skip
      refine st_condT S rfl ?_
      refine wp_seq ?_
      -- region 2 law.go:21
      refine wp_region_lit ?_
      refine st_call (xs := []) S (enters_of Try.func8 (by decide) rfl) rfl rfl rfl (wakes_any _) ?_
      rintro _ w6 ⟨rfl, hK⟩; refine ⟨_, rfl, ?_⟩; clear S a; intro a S; replace M := M.grow hK
      refine st_y S rfl rfl rfl (y_assign S rfl) ?_; clear S a; intro a S
      refine wpList_nil ?_
      replace S := S.sub [(0, _), (1, _), (2, _), (3, _), (18, _), (4, _)] rfl
      refine then_normal ?_
      refine wp_ret ?_
      refine then_ret ?_
      refine end_one S rfl (res_tmp rfl) ?_
      exact ⟨rfl, M.below⟩
    · clear S; intro h18 S
      first | replace h18 := nrmA h18 | replace h18 := nrmB h18 | skip
      first | replace h18 := nrm1 h18 | replace h18 := nrm2 h18 | replace h18 := nrm3 h18 | replace h18 := nrm4 h18 | replace h18 := nrm5 h18 | replace h18 := nrm6 h18 | replace h18 := of_decide_eq_true h18 | replace h18 := of_decide_eq_false h18 | skip
      refine st_condF S rfl ?_
      refine wp_skip ?_
      refine then_normal ?_
      refine wp_seq ?_
      -- region 3 law.go:23
      refine wp_region_lit ?_
      refine st_y S rfl rfl rfl (y_loadAgg (cs := [_, _, _, _, _, _, _, _, _, _, _, _]) S (by kernel_rfl) rfl rfl (M.cellsAt (k := 12) 1 rfl rfl)) ?_; clear S a; intro a S
      refine st_call (xs := [(Operand.tmp 21)]) S (enters_of Try.func13 (by decide) rfl) rfl rfl rfl (bytes_any r va vn vc x _ hs (M.argW hv)) ?_
      rintro _ w7 ⟨v7, rfl, hK, h1, h2⟩; refine ⟨_, rfl, ?_⟩; clear S a; intro a S
      have hF := fresh_if hK h1 (fun h => h2 (by simpa using h))
      obtain ⟨lo2, hi2, -, M⟩ := M.pushFresh hF
      refine st_y S rfl rfl rfl (y_move S rfl) ?_; clear S a; intro a S
      refine st_y S rfl rfl rfl (y_extract S rfl rfl) ?_; clear S a; intro a S
      refine st_y S rfl rfl rfl (y_extract S rfl rfl) ?_; clear S a; intro a S
      refine st_y S rfl rfl rfl (y_assign S rfl) ?_; clear S a; intro a S
      refine st_y S rfl rfl rfl (y_assign S rfl) ?_; clear S a; intro a S
      refine wpList_nil ?_
      replace S := S.sub [(0, _), (1, _), (2, _), (3, _), (4, _), (18, _), (5, _), (6, _)] rfl
      refine then_normal ?_
      refine wp_seq ?_
      -- region 4 law.go:24
      refine wp_region_lit ?_
      refine st_y S rfl rfl rfl (y_loadAgg (cs := [_, _, _, _, _, _, _, _, _, _, _, _]) S (by kernel_rfl) rfl rfl (M.cellsAt (k := 12) 2 rfl rfl)) ?_; clear S a; intro a S
      refine st_call (xs := [(Operand.tmp 26)]) S (enters_of Try.func17 (by decide) rfl) rfl rfl rfl (rBytes_any r va vn vc x _ hs (M.argW hv)) ?_
      rintro _ w8 ⟨v8, rfl, hK, h3, h4⟩; refine ⟨_, rfl, ?_⟩; clear S a; intro a S
      have hF2 := fresh_if hK h3 (fun h => h4 (by simpa using h))
      obtain ⟨lo3, hi3, -, M⟩ := M.pushFresh hF2
      refine st_y S rfl rfl rfl (y_move S rfl) ?_; clear S a; intro a S
      refine st_y S rfl rfl rfl (y_extract S rfl rfl) ?_; clear S a; intro a S
      refine st_y S rfl rfl rfl (y_extract S rfl rfl) ?_; clear S a; intro a S
      refine st_y S rfl rfl rfl (y_assign S rfl) ?_; clear S a; intro a S
      refine st_y S rfl rfl rfl (y_assign S rfl) ?_; clear S a; intro a S
      refine wpList_nil ?_
      replace S := S.sub [(0, _), (1, _), (2, _), (3, _), (4, _), (18, _), (5, _), (6, _), (7, _), (8, _)] rfl
      refine then_normal ?_
      refine wp_seq ?_
      -- region 5 law.go:25
      refine wp_region_lit ?_
      refine st_y S rfl rfl rfl (y_loadAgg (cs := [_, _, _, _, _, _, _, _, _, _, _, _]) S (by kernel_rfl) rfl rfl (M.cellsAt (k := 12) 3 rfl rfl)) ?_; clear S a; intro a S
      refine st_call (xs := [(Operand.tmp 31)]) S (enters_of Try.func15 (by decide) rfl) rfl rfl rfl (sectors_any r va vn vc x _ hs (M.argW hv)) ?_
      rintro _ w9 ⟨rfl, hK⟩; refine ⟨_, rfl, ?_⟩; clear S a; intro a S; replace M := M.grow hK
      refine st_y S rfl rfl rfl (y_move S rfl) ?_; clear S a; intro a S
      refine st_y S rfl rfl rfl (y_extract S rfl rfl) ?_; clear S a; intro a S
      refine st_y S rfl rfl rfl (y_extract S rfl rfl) ?_; clear S a; intro a S
      refine st_y S rfl rfl rfl (y_assign S rfl) ?_; clear S a; intro a S
      refine st_y S rfl rfl rfl (y_assign S rfl) ?_; clear S a; intro a S
      refine wpList_nil ?_
      replace S := S.sub [(0, _), (1, _), (2, _), (3, _), (4, _), (18, _), (5, _), (6, _), (7, _), (8, _), (9, _), (10, _)] rfl
      refine then_normal ?_
      refine wp_seq ?_
      -- region 6 law.go:26
      refine wp_region_lit ?_
      refine st_y S rfl rfl rfl (y_loadAgg (cs := [_, _, _, _, _, _, _, _, _, _, _, _]) S (by kernel_rfl) rfl rfl (M.cellsAt (k := 12) 3 rfl rfl)) ?_; clear S a; intro a S
      refine st_call (xs := [(Operand.tmp 36)]) S (enters_of Try.func18 (by decide) rfl) rfl rfl rfl (rSectors_any r va vn vc x _ hs (M.argW hv)) ?_
      rintro _ w10 ⟨rfl, hK⟩; refine ⟨_, rfl, ?_⟩; clear S a; intro a S; replace M := M.grow hK
      refine st_y S rfl rfl rfl (y_move S rfl) ?_; clear S a; intro a S
      refine st_y S rfl rfl rfl (y_extract S rfl rfl) ?_; clear S a; intro a S
      refine st_y S rfl rfl rfl (y_extract S rfl rfl) ?_; clear S a; intro a S
      refine st_y S rfl rfl rfl (y_assign S rfl) ?_; clear S a; intro a S
      refine st_y S rfl rfl rfl (y_assign S rfl) ?_; clear S a; intro a S
      refine wpList_nil ?_
      replace S := S.sub [(0, _), (1, _), (2, _), (3, _), (4, _), (18, _), (5, _), (6, _), (7, _), (8, _), (9, _), (10, _), (11, _), (12, _)] rfl
      refine then_normal ?_
      refine wp_seq ?_
      -- region 7 law.go:27
      refine wp_quiet M (by kernel_rfl) (by kernel_rfl) ?_
      refine qt_y S rfl rfl rfl (fun w M => y_loadAgg (cs := [_, _, _, _, _, _, _, _, _, _, _, _]) S (by kernel_rfl) rfl rfl (M.cellsAt (k := 12) 3 rfl rfl)) ?_; clear S a; intro a S
      refine qt_call (xs := [(Operand.tmp 40)]) S (enters_of Try.func14 (by decide) rfl) rfl rfl rfl (quiet_of fun w M => may_any r va vn vc x _ hs (M.argW hv)) ?_; clear S a; intro a S
      refine qt_y S rfl rfl rfl (fun w M => y_loadAgg (cs := [_, _, _, _, _, _, _, _, _, _, _, _]) S (by kernel_rfl) rfl rfl (M.cellsAt (k := 12) 3 rfl rfl)) ?_; clear S a; intro a S
      refine qt_call (xs := [(Operand.tmp 42)]) S (enters_of Try.func19 (by decide) rfl) rfl rfl rfl (quiet_of fun w M => rMay_any r va vn vc x _ hs (M.argW hv)) ?_; clear S a; intro a S
      refine qt_y S rfl rfl rfl (fun w M => y_eqlBool (by kernel_rfl) S rfl rfl) ?_; clear S a; intro a S
      refine qt_y S rfl rfl rfl (fun w M => y_move S rfl) ?_; clear S a; intro a S
      refine st_split (t := 45) S rfl ?_ ?_
      · clear S; intro h45 S
        refine qt_y S rfl rfl rfl (fun w M => y_move S rfl) ?_; clear S a; intro a S
        refine qt_y S rfl rfl rfl (fun w M => y_bytesStr (e := 5) S rfl (by kernel_rfl) (by kernel_rfl) (by kernel_rfl) (M.readAll 1 rfl (encIf_len r x))) ?_; clear S a; intro a S
        refine qt_y S rfl rfl rfl (fun w M => y_move S rfl) ?_; clear S a; intro a S
        refine qt_y S rfl rfl rfl (fun w M => y_bytesStr (e := 5) S rfl (by kernel_rfl) (by kernel_rfl) (by kernel_rfl) (M.readAll 0 rfl (encIf_len r x))) ?_; clear S a; intro a S
        refine qt_y S rfl rfl rfl (fun w M => y_eqlStr S rfl rfl) ?_; clear S a; intro a S
        refine qt_y S rfl rfl rfl (fun w M => y_pickT S rfl rfl) ?_; clear S a; intro a S
        refine qt_y S rfl rfl rfl (fun w M => y_move S rfl) ?_; clear S a; intro a S
        refine st_split (t := 52) S rfl ?_ ?_
        · clear S; intro h52 S
          refine qt_y S rfl rfl rfl (fun w M => y_move S rfl) ?_; clear S a; intro a S
          refine qt_y S rfl rfl rfl (fun w M => y_move S rfl) ?_; clear S a; intro a S
          refine qt_y S rfl rfl rfl (fun w M => y_int S rfl rfl rfl) ?_; clear S a; intro a S
          refine qt_y S rfl rfl rfl (fun w M => y_pickT S rfl rfl) ?_; clear S a; intro a S
          refine qt_y S rfl rfl rfl (fun w M => y_move S rfl) ?_; clear S a; intro a S
          refine st_split (t := 57) S rfl ?_ ?_
          · clear S; intro h57 S
            refine qt_y S rfl rfl rfl (fun w M => y_move S rfl) ?_; clear S a; intro a S
            refine qt_y S rfl rfl rfl (fun w M => y_move S rfl) ?_; clear S a; intro a S
            refine qt_y S rfl rfl rfl (fun w M => y_int S rfl rfl rfl) ?_; clear S a; intro a S
            refine qt_y S rfl rfl rfl (fun w M => y_pickT S rfl rfl) ?_; clear S a; intro a S
            refine qt_y S rfl rfl rfl (fun w M => y_move S rfl) ?_; clear S a; intro a S
            refine st_split (t := 62) S rfl ?_ ?_
            · clear S; intro h62 S
              refine qt_y S rfl rfl rfl (fun w M => y_move S rfl) ?_; clear S a; intro a S
              refine qt_y S rfl rfl rfl (fun w M => y_move S rfl) ?_; clear S a; intro a S
              refine qt_y S rfl rfl rfl (fun w M => y_int S rfl rfl rfl) ?_; clear S a; intro a S
              refine qt_y S rfl rfl rfl (fun w M => y_pickT S rfl rfl) ?_; clear S a; intro a S
              refine qt_y S rfl rfl rfl (fun w M => y_move S rfl) ?_; clear S a; intro a S
              refine st_split (t := 67) S rfl ?_ ?_
              · clear S; intro h67 S
                refine qt_y S rfl rfl rfl (fun w M => y_fieldAddr (k := 1) S (by kernel_rfl) rfl) ?_; clear S a; intro a S
                refine qt_y S rfl rfl rfl (fun w M => y_loadAgg (cs := [_, _, _]) S (by kernel_rfl) rfl rfl (M.cellsAt (k := 3) 3 rfl rfl)) ?_; clear S a; intro a S
                refine qt_call (xs := [(Operand.tmp 69)]) S (enters_of Try.func20 (by decide) rfl) rfl rfl rfl (quiet_of fun w M => named_any r.name _) ?_; clear S a; intro a S
                refine qt_y S rfl rfl rfl (fun w M => y_fieldAddr (k := 1) S (by kernel_rfl) rfl) ?_; clear S a; intro a S
                refine qt_y S rfl rfl rfl (fun w M => y_loadAgg (cs := [_, _, _]) S (by kernel_rfl) rfl rfl (M.cellsAt (k := 3) 3 rfl rfl)) ?_; clear S a; intro a S
                refine qt_call (xs := [(Operand.tmp 72)]) S (enters_of Try.func21 (by decide) rfl) rfl rfl rfl (quiet_of fun w M => rNamed_any r.name _) ?_; clear S a; intro a S
                refine qt_y S rfl rfl rfl (fun w M => y_eqlBool (by kernel_rfl) S rfl rfl) ?_; clear S a; intro a S
                refine qt_y S rfl rfl rfl (fun w M => y_pickT S rfl rfl) ?_; clear S a; intro a S
                refine qt_y S rfl rfl rfl (fun w M => y_move S rfl) ?_; clear S a; intro a S
                refine st_split (t := 76) S rfl ?_ ?_
                · clear S; intro h76 S
                  refine qt_y S rfl rfl rfl (fun w M => y_fieldAddr (k := 5) S (by kernel_rfl) rfl) ?_; clear S a; intro a S
                  refine qt_y S rfl rfl rfl (fun w M => y_load S (by kernel_rfl) rfl (M.cell 3 rfl rfl)) ?_; clear S a; intro a S
                  refine qt_call (xs := [(Operand.tmp 78)]) S (enters_of Try.func22 (by decide) rfl) rfl rfl rfl (quiet_of fun w M => written_any _ x _ (M.argW hv)) ?_; clear S a; intro a S
                  refine qt_y S rfl rfl rfl (fun w M => y_fieldAddr (k := 5) S (by kernel_rfl) rfl) ?_; clear S a; intro a S
                  refine qt_y S rfl rfl rfl (fun w M => y_load S (by kernel_rfl) rfl (M.cell 3 rfl rfl)) ?_; clear S a; intro a S
                  refine qt_call (xs := [(Operand.tmp 81)]) S (enters_of Try.func23 (by decide) rfl) rfl rfl rfl (quiet_of fun w M => rWritten_any _ x _ (M.argW hv)) ?_; clear S a; intro a S
                  refine qt_y S rfl rfl rfl (fun w M => y_eqlBool (by kernel_rfl) S rfl rfl) ?_; clear S a; intro a S
                  refine qt_y S rfl rfl rfl (fun w M => y_pickT S rfl rfl) ?_; clear S a; intro a S
                  refine qt_y S rfl rfl rfl (fun w M => y_move S rfl) ?_; clear S a; intro a S
                  refine st_split (t := 85) S rfl ?_ ?_
                  · clear S; intro h85 S
                    refine qt_y S rfl rfl rfl (fun w M => y_loadAgg (cs := [_, _, _, _, _, _, _, _, _, _, _, _]) S (by kernel_rfl) rfl rfl (M.cellsAt (k := 12) 3 rfl rfl)) ?_; clear S a; intro a S
                    refine qt_y S rfl rfl rfl (fun w M => y_loadAgg (cs := [_, _, _, _, _, _, _, _, _, _, _, _]) S (by kernel_rfl) rfl rfl (M.cellsAt (k := 12) 2 rfl rfl)) ?_; clear S a; intro a S
                    refine qt_call (xs := [(Operand.tmp 86), (Operand.tmp 87)]) S (enters_of Try.func11 (by decide) rfl) rfl rfl rfl (quiet_of fun w M => same_any r o _ _ x y _ (M.argW hv) (M.argW hu)) ?_; clear S a; intro a S
                    refine qt_y S rfl rfl rfl (fun w M => y_loadAgg (cs := [_, _, _, _, _, _, _, _, _, _, _, _]) S (by kernel_rfl) rfl rfl (M.cellsAt (k := 12) 3 rfl rfl)) ?_; clear S a; intro a S
                    refine qt_y S rfl rfl rfl (fun w M => y_loadAgg (cs := [_, _, _, _, _, _, _, _, _, _, _, _]) S (by kernel_rfl) rfl rfl (M.cellsAt (k := 12) 2 rfl rfl)) ?_; clear S a; intro a S
                    refine qt_call (xs := [(Operand.tmp 89), (Operand.tmp 90)]) S (enters_of Try.func24 (by decide) rfl) rfl rfl rfl (quiet_of fun w M => rSame_any r o _ _ x y _ (M.argW hv) (M.argW hu)) ?_; clear S a; intro a S
                    refine qt_y S rfl rfl rfl (fun w M => y_eqlBool (by kernel_rfl) S rfl rfl) ?_; clear S a; intro a S
                    refine qt_y S rfl rfl rfl (fun w M => y_pickT S rfl rfl) ?_; clear S a; intro a S
                    refine qt_y S rfl rfl rfl (fun w M => y_move S rfl) ?_; clear S a; intro a S
                    refine st_split (t := 94) S rfl ?_ ?_
                    · clear S; intro h94 S
                      refine qt_y S rfl rfl rfl (fun w M => y_fieldAddr (k := 1) S (by kernel_rfl) rfl) ?_; clear S a; intro a S
                      refine qt_y S rfl rfl rfl (fun w M => y_loadAgg (cs := [_, _, _]) S (by kernel_rfl) rfl rfl (M.cellsAt (k := 3) 3 rfl rfl)) ?_; clear S a; intro a S
                      refine qt_y S rfl rfl rfl (fun w M => y_fieldAddr (k := 1) S (by kernel_rfl) rfl) ?_; clear S a; intro a S
                      refine qt_y S rfl rfl rfl (fun w M => y_loadAgg (cs := [_, _, _]) S (by kernel_rfl) rfl rfl (M.cellsAt (k := 3) 2 rfl rfl)) ?_; clear S a; intro a S
                      refine qt_call (xs := [(Operand.tmp 96), (Operand.tmp 98)]) S (enters_of Try.func16 (by decide) rfl) rfl rfl rfl (quiet_of fun w M => less_any r.name o.name _) ?_; clear S a; intro a S
                      refine qt_y S rfl rfl rfl (fun w M => y_fieldAddr (k := 1) S (by kernel_rfl) rfl) ?_; clear S a; intro a S
                      refine qt_y S rfl rfl rfl (fun w M => y_loadAgg (cs := [_, _, _]) S (by kernel_rfl) rfl rfl (M.cellsAt (k := 3) 3 rfl rfl)) ?_; clear S a; intro a S
                      refine qt_y S rfl rfl rfl (fun w M => y_fieldAddr (k := 1) S (by kernel_rfl) rfl) ?_; clear S a; intro a S
                      refine qt_y S rfl rfl rfl (fun w M => y_loadAgg (cs := [_, _, _]) S (by kernel_rfl) rfl rfl (M.cellsAt (k := 3) 2 rfl rfl)) ?_; clear S a; intro a S
                      refine qt_call (xs := [(Operand.tmp 101), (Operand.tmp 103)]) S (enters_of Try.func25 (by decide) rfl) rfl rfl rfl (quiet_of fun w M => rLess_any r.name o.name _) ?_; clear S a; intro a S
                      refine qt_y S rfl rfl rfl (fun w M => y_eqlBool (by kernel_rfl) S rfl rfl) ?_; clear S a; intro a S
                      refine qt_y S rfl rfl rfl (fun w M => y_pickT S rfl rfl) ?_; clear S a; intro a S
                      refine qt_y S rfl rfl rfl (fun w M => y_move S rfl) ?_; clear S a; intro a S
                      refine st_split (t := 107) S rfl ?_ ?_
                      · clear S; intro h107 S
                        refine qt_call (xs := []) S (enters_of Try.func8 (by decide) rfl) rfl rfl rfl (quiet_of fun w M => wakes_any _) ?_; clear S a; intro a S
                        refine qt_y S rfl rfl rfl (fun w M => y_pickT S rfl rfl) ?_; clear S a; intro a S
                        refine qt_y S rfl rfl rfl (fun w M => y_assign S rfl) ?_; clear S a; intro a S
                        refine wpQuiet_nil ?_; clear M; intro w22 M
                        replace S := S.sub [(0, _), (1, _), (2, _), (3, _), (18, _), (5, _), (6, _), (7, _), (8, _), (9, _), (10, _), (11, _), (12, _), (4, _)] rfl
                        refine then_normal ?_
                        refine wp_ret ?_
                        refine end_one S rfl (res_tmp rfl) ?_
                        exact ⟨rfl, M.below⟩
                      · clear S; intro h107 S
                        simp at h107
                    · clear S; intro h94 S
                      simp at h94
                  · clear S; intro h85 S
                    simp at h85
                · clear S; intro h76 S
                  simp at h76
              · clear S; intro h67 S
                simp at h67
            · clear S; intro h62 S
              simp at h62
          · clear S; intro h57 S
            simp at h57
        · clear S; intro h52 S
          rw [strEq] at h52; simp at h52
      · clear S; intro h45 S
        simp at h45

end Go.Proofs.Ytbaoodlkcbiclaa
