/-
  law25: MoveAsks' walk.
-/
import Derived.Test.YtgocjpcmjljeoaaMf
namespace Go.Proofs.Ytgocjpcmjljeoaa
open Go.RowKit Go.Sort

theorem CellsAt.tl {w : World} {b o : Nat} {c : Value} {cs : List Value} (h : CellsAt w b o (c :: cs)) : CellsAt w b (o + 1) cs := fun j hj => by
  have := h (j + 1) (by simpa using hj)
  rw [show o + 1 + j = o + (j + 1) by omega, this]
  rfl
set_option maxHeartbeats 1000000 in
theorem asks_any (s t f : Int) (n : Nm) (v : Value) (cs : List Value) (L : List (Msg × List Wr)) (w : World) (hv : MsC cs 0 w.heap.size w v L) (hw : wayB s t f n = true) :
    Calls Try.prog 3 #[.agg #[.int .i64 s, .int .i64 t], .int .i64 f, .agg n.cells, v] w fun e w' => e = .returned (.bool true) ∧ Below w.heap.size w w' := by
  have M := Mem.start w
  have hs : 0 ≤ s ∧ s < 8 := by
    unfold wayB at hw
    simp only [Bool.and_eq_true, decide_eq_true_eq] at hw; omega
  have hl := hv.1.2.1
  unfold maxLen at hl
  refine calls_enter Try.func3 rfl 254 rfl rfl ?_; intro a S
  refine wp_seq ?_
  -- region 0 law.go:72
  refine wp_region_lit ?_
  refine st_box S M rfl rfl rfl #[_, _] rfl ?_; clear S M a; intro a w1 bC S M hB
  refine st_box S M rfl rfl rfl #[_, _, _] rfl ?_; clear S M a; intro a w2 bN S M hB
  refine st_y S rfl rfl rfl (y_assign S rfl) ?_; clear S a; intro a S
  refine wpList_nil ?_
  replace S := S.sub [(0, _), (1, _), (2, _), (3, _), (4, _), (6, _), (8, _)] rfl
  refine then_normal ?_
  refine wp_seq ?_
  refine wp_seq ?_
  -- region 1 law.go:73
  refine wp_region_lit ?_
  refine st_y S rfl rfl rfl (y_move S rfl) ?_; clear S a; intro a S
  refine st_y S rfl rfl rfl (y_lenR (E := 39) S rfl ((M.ms hv).1) (by kernel_rfl)) ?_; clear S a; intro a S
  refine st_y S rfl rfl rfl (y_int S rfl rfl rfl) ?_; clear S a; intro a S
  refine wpList_nil ?_
  replace S := S.sub [(0, _), (1, _), (2, _), (3, _), (4, _), (6, _), (8, _), (30, _)] rfl
  refine then_normal ?_
  refine st_split (t := 30) S rfl ?_ ?_
  · clear S; intro h30 S
    first | replace h30 := nrmA h30 | replace h30 := nrmB h30 | skip
    first | replace h30 := nrm1 h30 | replace h30 := nrm2 h30 | replace h30 := nrm3 h30 | replace h30 := nrm4 h30 | replace h30 := nrm5 h30 | replace h30 := nrm6 h30 | replace h30 := of_decide_eq_true h30 | replace h30 := of_decide_eq_false h30 | skip
    refine st_condT S rfl ?_
    refine wp_seq ?_
    -- region 2 law.go:74
    refine wp_region_lit ?_
    refine st_call (xs := []) S (enters_of Try.func5 (by decide) rfl) rfl rfl rfl (wakes_any _) ?_
    rintro _ w3 ⟨rfl, hK⟩; refine ⟨_, rfl, ?_⟩; clear S a; intro a S; replace M := M.grow hK
    refine st_y S rfl rfl rfl (y_assign S rfl) ?_; clear S a; intro a S
    refine wpList_nil ?_
    replace S := S.sub [(0, _), (1, _), (2, _), (3, _), (4, _), (6, _), (30, _), (8, _)] rfl
    refine then_normal ?_
    refine wp_ret ?_
    refine then_ret ?_
    refine end_one S rfl (res_tmp rfl) ?_
    exact ⟨rfl, M.below⟩
  · clear S; intro h30 S
    first | replace h30 := nrmA h30 | replace h30 := nrmB h30 | skip
    first | replace h30 := nrm1 h30 | replace h30 := nrm2 h30 | replace h30 := nrm3 h30 | replace h30 := nrm4 h30 | replace h30 := nrm5 h30 | replace h30 := nrm6 h30 | replace h30 := of_decide_eq_true h30 | replace h30 := of_decide_eq_false h30 | skip
    refine st_condF S rfl ?_
    refine wp_skip ?_
    refine then_normal ?_
    refine wp_seq ?_
    -- region 3 law.go:76
    refine wp_region_lit ?_
    refine st_y S rfl rfl rfl (y_build (ps := []) (pl := [(0, 1), (1, 3), (4, 2), (6, 1), (7, 1), (8, 1)]) (z := [.int .i8 0, .int .i64 0, .int .i64 0, .int .i64 0, .int .i64 0, .int .i64 0, .int .i64 0, .int .i64 0, .slice none 0 0]) (cs := [_, _, _, _, _, _, _, _, _]) S (by kernel_rfl) rfl (rfl)) ?_; clear S a; intro a S
    refine st_y S rfl rfl rfl (y_loadAgg (cs := [_, _]) S (by kernel_rfl) rfl rfl (M.cellsAt (k := 2) 1 rfl rfl)) ?_; clear S a; intro a S
    refine st_y S rfl rfl rfl (y_move S rfl) ?_; clear S a; intro a S
    refine st_y S rfl rfl rfl (y_loadAgg (cs := [_, _, _]) S (by kernel_rfl) rfl rfl (M.cellsAt (k := 3) 0 rfl rfl)) ?_; clear S a; intro a S
    refine st_call (xs := [(Operand.tmp 33), (Operand.tmp 34), (Operand.tmp 35), (Operand.tmp 36)]) S (enters_of Try.func6 (by decide) rfl) rfl rfl rfl (begin_any s t f n _ hw) ?_
    rintro _ w4 ⟨lv, l1, h1, rfl, M1⟩; refine ⟨_, rfl, ?_⟩; clear S a; intro a S
    have hK := M1.below
    obtain ⟨oad, ocp, hE, -, -⟩ := (M1.readRow 0 rfl (by unfold maxLen; omega)).form
    subst hE
    replace M := M.join M1
    simp only [List.cons_append, List.nil_append] at M
    refine st_y S rfl rfl rfl (y_move S rfl) ?_; clear S a; intro a S
    refine st_y S rfl rfl rfl (y_extract S rfl rfl) ?_; clear S a; intro a S
    refine st_y S rfl rfl rfl (y_extract S rfl rfl) ?_; clear S a; intro a S
    refine st_y S rfl rfl rfl (y_extract S rfl rfl) ?_; clear S a; intro a S
    refine st_alloc S M rfl rfl #[.int .i8 0, .int .i64 0, .int .i64 0, .int .i64 0, .int .i64 0, .int .i64 0, .int .i64 0, .int .i64 0, .slice none 0 0] (by kernel_rfl) ?_; clear S M a; intro a w5 bK S M hB
    refine st_store (sz := 9) (us := [_, _, _, _, _, _, _, _, _]) S M 0 rfl (by kernel_rfl) rfl rfl rfl rfl rfl rfl (by first | decide | (simp; done) | (simp; omega)) ?_; clear M; intro w6 M
    simp only [putL, List.set_cons_zero, List.set_cons_succ, Nat.reduceAdd] at M
    refine st_y S rfl rfl rfl (y_assign S rfl) ?_; clear S a; intro a S
    refine st_y S rfl rfl rfl (y_assign S rfl) ?_; clear S a; intro a S
    refine wpList_nil ?_
    replace S := S.sub [(0, _), (1, _), (2, _), (3, _), (4, _), (6, _), (8, _), (30, _), (9, _), (10, _), (11, _)] rfl
    refine then_normal ?_
    refine wp_seq ?_
    refine wp_seq ?_
    -- region 4 law.go:77
    refine wp_region_lit ?_
    refine st_y S rfl rfl rfl (y_move S rfl) ?_; clear S a; intro a S
    refine st_y S rfl rfl rfl (y_int S rfl rfl rfl) ?_; clear S a; intro a S
    refine wpList_nil ?_
    replace S := S.sub [(0, _), (1, _), (2, _), (3, _), (4, _), (6, _), (8, _), (30, _), (9, _), (10, _), (11, _), (42, _)] rfl
    refine then_normal ?_
    refine st_split (t := 42) S rfl ?_ ?_
    · clear S; intro h42 S
      first | replace h42 := nrmA h42 | replace h42 := nrmB h42 | skip
      first | replace h42 := nrm1 h42 | replace h42 := nrm2 h42 | replace h42 := nrm3 h42 | replace h42 := nrm4 h42 | replace h42 := nrm5 h42 | replace h42 := nrm6 h42 | replace h42 := of_decide_eq_true h42 | replace h42 := of_decide_eq_false h42 | skip
      simp at h42
    · clear S; intro h42 S
      first | replace h42 := nrmA h42 | replace h42 := nrmB h42 | skip
      first | replace h42 := nrm1 h42 | replace h42 := nrm2 h42 | replace h42 := nrm3 h42 | replace h42 := nrm4 h42 | replace h42 := nrm5 h42 | replace h42 := nrm6 h42 | replace h42 := of_decide_eq_true h42 | replace h42 := of_decide_eq_false h42 | skip
      refine st_condF S rfl ?_
      refine wp_skip ?_
      refine then_normal ?_
      refine wp_seq ?_
      -- region 6 law.go:80
      refine wp_region_lit ?_
      refine st_y S rfl rfl rfl (y_assign S rfl) ?_; clear S a; intro a S
      refine wpList_nil ?_
      replace S := S.sub [(0, _), (1, _), (2, _), (3, _), (4, _), (6, _), (8, _), (30, _), (9, _), (10, _), (11, _), (42, _), (12, _)] rfl
      refine then_normal ?_
      refine wp_seq ?_
      -- region 7 law.go:81
      refine wp_region_lit ?_
      refine st_y S rfl rfl rfl (y_assign S rfl) ?_; clear S a; intro a S
      refine wpList_nil ?_
      replace S := S.sub [(0, _), (1, _), (2, _), (3, _), (4, _), (6, _), (8, _), (30, _), (9, _), (10, _), (11, _), (42, _), (12, _), (13, _)] rfl
      refine then_normal ?_
      refine wp_seq ?_
      refine wp_seq ?_
      -- region 8 law.go:82
      refine wp_region_lit ?_
      refine st_y S rfl rfl rfl (y_move S rfl) ?_; clear S a; intro a S
      refine st_y S rfl rfl rfl (y_lenR (E := 39) S rfl ((M.ms hv).1) (by kernel_rfl)) ?_; clear S a; intro a S
      refine st_y S rfl rfl rfl (y_move S rfl) ?_; clear S a; intro a S
      refine wpList_nil ?_
      replace S := S.sub [(0, _), (1, _), (2, _), (3, _), (4, _), (6, _), (8, _), (30, _), (9, _), (10, _), (11, _), (42, _), (12, _), (13, _), (48, _), (49, _), (50, _)] rfl
      refine then_normal ?_
      refine wp_block ?_
      refine wp_loop_g (fun q a w' => ∃ (j : Nat) (x : List V8) (ms : List Msg) (ad oad : Option Addr) (cp ocp lo hi l1 h1 l2 h2 : Nat) (tv : Value), (j ≤ L.length ∧ q = L.length - j ∧ x.length ≤ 3 ∧ ms.length ≤ 1) ∧ (∀ y, y ∈ ms → y = execM (mvA s t f n (x.length + 1))) ∧ Sees 254 a [(1, .int .i64 f), (4, .pointer (some ⟨bC, 0, none⟩)), (6, .pointer (some ⟨bN, 0, none⟩)), (9, .pointer (some ⟨bK, 0, none⟩)), (10, .slice oad ms.length ocp), (12, .int .i64 ((x.length + 1 : Nat) : Int)), (13, tv), (48, v), (49, .int .i64 (L.length : Int)), (50, .int .i64 (j : Int))] ∧ Mem w w' [.blk bK ((mvA s t f n (x.length + 1)).cells (.slice ad x.length cp)) 31, rowE lo hi 36 8 (.slice ad x.length cp) x.length (vcells x), rowE l1 h1 39 24 (.slice oad ms.length ocp) ms.length (msC ms), rowE l2 h2 36 8 tv x.length (vcells x), .blk bN n.cells 25, .blk bC #[.int .i64 s, .int .i64 t] 23]) (L.length) ?_ ?_
      · skip
        replace M := M.rowNil 36 8
        replace M := M.rowNil 36 8
        replace M := M.front 5 rfl
        simp only [List.eraseIdx_cons_succ, List.eraseIdx_cons_zero] at M
        replace M := M.front 5 rfl
        simp only [List.eraseIdx_cons_succ, List.eraseIdx_cons_zero] at M
        replace M := M.front 3 rfl
        simp only [List.eraseIdx_cons_succ, List.eraseIdx_cons_zero] at M
        replace M := M.front 5 rfl
        simp only [List.eraseIdx_cons_succ, List.eraseIdx_cons_zero] at M
        replace M := M.front 4 rfl
        simp only [List.eraseIdx_cons_succ, List.eraseIdx_cons_zero] at M
        replace M := M.front 5 rfl
        simp only [List.eraseIdx_cons_succ, List.eraseIdx_cons_zero] at M
        exact ⟨0, [], [execM (mvA s t f n 1)], none, oad, 0, ocp, _, _, l1, h1, _, _, _, ⟨by omega, rfl, by simp, by simp⟩, fun y hy => by simpa using hy, S.sub _ rfl, M⟩
      · clear S M a; intro m a wl
        rintro ⟨j, x, ms, ad, oad, cp, ocp, lo, hi, l1, h1, l2, h2, tv, ⟨hj, rfl, hx3, hms⟩, hall, S, M⟩
        refine wp_seq ?_
        -- region 9 law.go:82
        refine wp_region_lit ?_
        refine st_y S rfl rfl rfl (y_int S rfl rfl rfl) ?_; clear S a; intro a S
        refine wpList_nil ?_
        replace S := S.sub [(1, _), (4, _), (6, _), (9, _), (10, _), (12, _), (13, _), (48, _), (49, _), (50, _), (51, _)] rfl
        refine then_normal ?_
        refine wp_seq ?_
        refine st_split (t := 51) S rfl ?_ ?_
        · clear S; intro h51 S
          first | replace h51 := nrmA h51 | replace h51 := nrmB h51 | skip
          first | replace h51 := nrm1 h51 | replace h51 := nrm2 h51 | replace h51 := nrm3 h51 | replace h51 := nrm4 h51 | replace h51 := nrm5 h51 | replace h51 := nrm6 h51 | replace h51 := of_decide_eq_true h51 | replace h51 := of_decide_eq_false h51 | skip
          refine st_condT S rfl ?_
          refine wp_skip ?_
          refine then_normal ?_
          refine wp_seq ?_
          refine wp_block ?_
          refine wp_seq ?_
          -- region 10 law.go:82
          refine wp_region_lit ?_
          obtain ⟨⟨g, y⟩, hq⟩ : ∃ q, L[j]? = some q := ⟨_, List.getElem?_eq_getElem (by omega)⟩
          obtain ⟨glv, hrow, hlv⟩ := hv.2 j _ hq
          obtain ⟨gad, gcp, hE, -, -⟩ := hlv.form
          subst hE
          refine st_y S rfl rfl rfl (y_indexR (e := 39) (sz := 24) S (by kernel_rfl) rfl ((M.ms hv).1) rfl (by first | omega | (simp; done) | (simp; omega))) ?_; clear S a; intro a S
          try simp only [Int.toNat_natCast, Nat.mul_one, Nat.zero_add] at S
          refine st_y S rfl rfl rfl (y_loadAgg S (by kernel_rfl) rfl rfl ((M.ms hv).1.at_.row (i := j) hrow rfl)) ?_; clear S a; intro a S
          refine st_alloc S M rfl rfl #[.int .i8 0, .int .i64 0, .int .i64 0, .int .i64 0, .int .i64 0, .int .i64 0, .int .i64 0, .int .i64 0, .int .i64 0, .int .i8 0, .int .i64 0, .int .u8 0, .int .u8 0, .int .u8 0, .int .u8 0, .int .u8 0, .int .u8 0, .int .u8 0, .int .u8 0, .int .i64 0, .bool false, .int .i64 0, .int .i64 0, .slice none 0 0] (by kernel_rfl) ?_; clear S M a; intro a w7 bG S M hB
          refine st_store (sz := 24) (us := [_, _, _, _, _, _, _, _, _, _, _, _, _, _, _, _, _, _, _, _, _, _, _, _]) S M 0 rfl (by kernel_rfl) rfl rfl rfl rfl rfl rfl (by first | decide | (simp; done) | (simp; omega)) ?_; clear M; intro w8 M
          simp only [putL, List.set_cons_zero, List.set_cons_succ, Nat.reduceAdd] at M
          refine wpList_nil ?_
          replace S := S.sub [(1, _), (4, _), (6, _), (9, _), (10, _), (12, _), (13, _), (48, _), (49, _), (50, _), (51, _), (15, _)] rfl
          refine then_normal ?_
          refine wp_seq ?_
          refine wp_seq ?_
          -- region 11 law.go:83
          refine wp_region_lit ?_
          refine st_y S rfl rfl rfl (y_loadAgg (cs := [_, _, _, _, _, _, _, _, _, _, _, _, _, _, _, _, _, _, _, _, _, _, _, _]) S (by kernel_rfl) rfl rfl (M.cellsAt (k := 24) 0 rfl rfl)) ?_; clear S a; intro a S
          refine st_call (xs := [(Operand.tmp 54)]) S (enters_of Try.func7 (by decide) rfl) rfl rfl rfl (great25_any g _ _ _ _) ?_
          rintro _ w9 ⟨rfl, hK⟩; refine ⟨_, rfl, ?_⟩; clear S a; intro a S; replace M := M.grow hK
          refine wpList_nil ?_
          replace S := S.sub [(1, _), (4, _), (6, _), (9, _), (10, _), (12, _), (13, _), (48, _), (49, _), (50, _), (51, _), (15, _), (55, _)] rfl
          refine then_normal ?_
          refine st_split (t := 55) S rfl ?_ ?_
          · clear S; intro h55 S
            first | replace h55 := nrmA h55 | replace h55 := nrmB h55 | skip
            first | replace h55 := nrm1 h55 | replace h55 := nrm2 h55 | replace h55 := nrm3 h55 | replace h55 := nrm4 h55 | replace h55 := nrm5 h55 | replace h55 := nrm6 h55 | replace h55 := of_decide_eq_true h55 | replace h55 := of_decide_eq_false h55 | skip
            refine st_condT S rfl ?_
            refine wp_seq ?_
            -- region 12 law.go:84
            refine wp_region_lit ?_
            refine st_call (xs := []) S (enters_of Try.func5 (by decide) rfl) rfl rfl rfl (wakes_any _) ?_
            rintro _ w10 ⟨rfl, hK⟩; refine ⟨_, rfl, ?_⟩; clear S a; intro a S; replace M := M.grow hK
            refine st_y S rfl rfl rfl (y_assign S rfl) ?_; clear S a; intro a S
            refine wpList_nil ?_
            replace S := S.sub [(1, _), (4, _), (6, _), (9, _), (10, _), (12, _), (13, _), (48, _), (49, _), (50, _), (51, _), (15, _), (55, _), (8, _)] rfl
            refine then_normal ?_
            refine wp_ret ?_
            refine then_ret ?_
            refine block_ret ?_
            refine then_ret ?_
            refine then_ret ?_
            refine block_ret ?_
            refine then_ret ?_
            refine end_one S rfl (res_tmp rfl) ?_
            exact ⟨rfl, M.below⟩
          · clear S; intro h55 S
            first | replace h55 := nrmA h55 | replace h55 := nrmB h55 | skip
            first | replace h55 := nrm1 h55 | replace h55 := nrm2 h55 | replace h55 := nrm3 h55 | replace h55 := nrm4 h55 | replace h55 := nrm5 h55 | replace h55 := nrm6 h55 | replace h55 := of_decide_eq_true h55 | replace h55 := of_decide_eq_false h55 | skip
            refine st_condF S rfl ?_
            refine wp_skip ?_
            refine then_normal ?_
            refine wp_seq ?_
            refine wp_seq ?_
            -- region 13 law.go:86
            refine wp_region_lit ?_
            refine st_y S rfl rfl rfl (y_move S rfl) ?_; clear S a; intro a S
            refine st_y S rfl rfl rfl (y_lenS (E := 39) S rfl (by kernel_rfl)) ?_; clear S a; intro a S
            refine st_y S rfl rfl rfl (y_move S rfl) ?_; clear S a; intro a S
            refine wpList_nil ?_
            replace S := S.sub [(1, _), (4, _), (6, _), (9, _), (10, _), (12, _), (13, _), (48, _), (49, _), (50, _), (51, _), (15, _), (55, _), (57, _), (58, _), (59, _)] rfl
            refine then_normal ?_
            refine wp_block ?_
            refine wp_loop_g (fun q a w' => ∃ (i : Nat), (i ≤ ms.length ∧ q = ms.length - i) ∧ Sees 254 a [(1, .int .i64 f), (4, .pointer (some ⟨bC, 0, none⟩)), (6, .pointer (some ⟨bN, 0, none⟩)), (9, .pointer (some ⟨bK, 0, none⟩)), (10, .slice oad ms.length ocp), (12, .int .i64 ((x.length + 1 : Nat) : Int)), (13, tv), (48, v), (49, .int .i64 (L.length : Int)), (50, .int .i64 (j : Int)), (15, .pointer (some ⟨bG, 0, none⟩)), (57, .slice oad ms.length ocp), (58, .int .i64 (ms.length : Int)), (59, .int .i64 (i : Int))] ∧ Mem w w' [.blk bG (g.cells (.slice gad y.length gcp)) 39, .blk bK ((mvA s t f n (x.length + 1)).cells (.slice ad x.length cp)) 31, rowE lo hi 36 8 (.slice ad x.length cp) x.length (vcells x), rowE l1 h1 39 24 (.slice oad ms.length ocp) ms.length (msC ms), rowE l2 h2 36 8 tv x.length (vcells x), .blk bN n.cells 25, .blk bC #[.int .i64 s, .int .i64 t] 23]) (ms.length) ?_ ?_
            · skip
              exact ⟨0, ⟨Nat.zero_le _, rfl⟩, S.sub _ rfl, M⟩
            · clear S M a; intro m a wl
              rintro ⟨i, ⟨hi', rfl⟩, S, M⟩
              refine wp_seq ?_
              -- region 14 law.go:86
              refine wp_region_lit ?_
              refine st_y S rfl rfl rfl (y_int S rfl rfl rfl) ?_; clear S a; intro a S
              refine wpList_nil ?_
              replace S := S.sub [(1, _), (4, _), (6, _), (9, _), (10, _), (12, _), (13, _), (48, _), (49, _), (50, _), (15, _), (57, _), (58, _), (59, _), (60, _)] rfl
              refine then_normal ?_
              refine wp_seq ?_
              refine st_split (t := 60) S rfl ?_ ?_
              · clear S; intro h60 S
                first | replace h60 := nrmA h60 | replace h60 := nrmB h60 | skip
                first | replace h60 := nrm1 h60 | replace h60 := nrm2 h60 | replace h60 := nrm3 h60 | replace h60 := nrm4 h60 | replace h60 := nrm5 h60 | replace h60 := nrm6 h60 | replace h60 := of_decide_eq_true h60 | replace h60 := of_decide_eq_false h60 | skip
                refine st_condT S rfl ?_
                refine wp_skip ?_
                refine then_normal ?_
                refine wp_seq ?_
                refine wp_block ?_
                refine wp_seq ?_
                -- region 15 law.go:86
                obtain ⟨z, hz⟩ : ∃ z, ms[i]? = some z := ⟨_, List.getElem?_eq_getElem (by omega)⟩
                have hze := hall z (List.mem_of_getElem? hz)
                subst hze
                refine wp_region_lit ?_
                refine st_y S rfl rfl rfl (y_indexR (e := 39) (sz := 24) S (by kernel_rfl) rfl ((M.readRow 3 rfl (by unfold maxLen; omega))) rfl (by first | omega | (simp; done) | (simp; omega))) ?_; clear S a; intro a S
                try simp only [Int.toNat_natCast, Nat.mul_one, Nat.zero_add] at S
                refine st_y S rfl rfl rfl (y_loadAgg S (by kernel_rfl) rfl rfl ((M.readRow 3 rfl (by unfold maxLen; omega)).at_.row (i := i) (msC_get hz) rfl)) ?_; clear S a; intro a S
                refine st_alloc S M rfl rfl #[.int .i8 0, .int .i64 0, .int .i64 0, .int .i64 0, .int .i64 0, .int .i64 0, .int .i64 0, .int .i64 0, .int .i64 0, .int .i8 0, .int .i64 0, .int .u8 0, .int .u8 0, .int .u8 0, .int .u8 0, .int .u8 0, .int .u8 0, .int .u8 0, .int .u8 0, .int .i64 0, .bool false, .int .i64 0, .int .i64 0, .slice none 0 0] (by kernel_rfl) ?_; clear S M a; intro a w11 bY S M hB
                refine st_store (sz := 24) (us := [_, _, _, _, _, _, _, _, _, _, _, _, _, _, _, _, _, _, _, _, _, _, _, _]) S M 0 rfl (by kernel_rfl) rfl rfl rfl rfl rfl rfl (by first | decide | (simp; done) | (simp; omega)) ?_; clear M; intro w12 M
                simp only [putL, List.set_cons_zero, List.set_cons_succ, Nat.reduceAdd] at M
                refine wpList_nil ?_
                replace S := S.sub [(1, _), (4, _), (6, _), (9, _), (10, _), (12, _), (13, _), (48, _), (49, _), (50, _), (15, _), (57, _), (58, _), (59, _), (60, _), (17, _)] rfl
                refine then_normal ?_
                refine wp_seq ?_
                -- region 16 law.go:87
                refine wp_region_lit ?_
                refine st_y S rfl rfl rfl (y_fieldAddr (k := 0) S (by kernel_rfl) rfl) ?_; clear S a; intro a S
                refine st_y S rfl rfl rfl (y_load S (by kernel_rfl) rfl (M.cell 0 rfl rfl)) ?_; clear S a; intro a S
                refine st_y S rfl rfl rfl (y_int S rfl rfl rfl) ?_; clear S a; intro a S
                refine st_y S rfl rfl rfl (y_move S rfl) ?_; clear S a; intro a S
                refine st_split (t := 66) S rfl ?_ ?_
                · clear S; intro h66 S
                  first | replace h66 := nrmA h66 | replace h66 := nrmB h66 | skip
                  first | replace h66 := nrm1 h66 | replace h66 := nrm2 h66 | replace h66 := nrm3 h66 | replace h66 := nrm4 h66 | replace h66 := nrm5 h66 | replace h66 := nrm6 h66 | replace h66 := of_decide_eq_true h66 | replace h66 := of_decide_eq_false h66 | skip
                  exact absurd rfl h66
                · clear S; intro h66 S
                  first | replace h66 := nrmA h66 | replace h66 := nrmB h66 | skip
                  first | replace h66 := nrm1 h66 | replace h66 := nrm2 h66 | replace h66 := nrm3 h66 | replace h66 := nrm4 h66 | replace h66 := nrm5 h66 | replace h66 := nrm6 h66 | replace h66 := of_decide_eq_true h66 | replace h66 := of_decide_eq_false h66 | skip
                  refine st_y S rfl rfl rfl (y_fieldAddr (k := 2) S (by kernel_rfl) rfl) ?_; clear S a; intro a S
                  refine st_y S rfl rfl rfl (y_load S (by kernel_rfl) rfl (M.cell 0 rfl rfl)) ?_; clear S a; intro a S
                  refine st_y S rfl rfl rfl (y_move S rfl) ?_; clear S a; intro a S
                  refine st_y S rfl rfl rfl (y_int S rfl rfl rfl) ?_; clear S a; intro a S
                  refine st_y S rfl rfl rfl (y_pickF S rfl rfl) ?_; clear S a; intro a S
                  refine st_y S rfl rfl rfl (y_move S rfl) ?_; clear S a; intro a S
                  refine st_split (t := 72) S rfl ?_ ?_
                  · clear S; intro h72 S
                    first | replace h72 := nrmA h72 | replace h72 := nrmB h72 | skip
                    first | replace h72 := nrm1 h72 | replace h72 := nrm2 h72 | replace h72 := nrm3 h72 | replace h72 := nrm4 h72 | replace h72 := nrm5 h72 | replace h72 := nrm6 h72 | replace h72 := of_decide_eq_true h72 | replace h72 := of_decide_eq_false h72 | skip
                    exact absurd rfl h72
                  · clear S; intro h72 S
                    first | replace h72 := nrmA h72 | replace h72 := nrmB h72 | skip
                    first | replace h72 := nrm1 h72 | replace h72 := nrm2 h72 | replace h72 := nrm3 h72 | replace h72 := nrm4 h72 | replace h72 := nrm5 h72 | replace h72 := nrm6 h72 | replace h72 := of_decide_eq_true h72 | replace h72 := of_decide_eq_false h72 | skip
                    refine st_y S rfl rfl rfl (y_fieldAddr (k := 5) S (by kernel_rfl) rfl) ?_; clear S a; intro a S
                    refine st_y S rfl rfl rfl (y_loadAgg (cs := [_, _, _]) S (by kernel_rfl) rfl rfl (M.cellsAt (k := 3) 0 rfl rfl)) ?_; clear S a; intro a S
                    refine st_y S rfl rfl rfl (y_loadAgg (cs := [_, _, _]) S (by kernel_rfl) rfl rfl (M.cellsAt (k := 3) 6 rfl rfl)) ?_; clear S a; intro a S
                    refine st_y S rfl rfl rfl (y_neqG (by kernel_rfl) S rfl rfl (fun w => equalNm 9998 ⟨_, _, _⟩ ⟨_, _, _⟩ w)) ?_; clear S a; intro a S
                    refine st_y S rfl rfl rfl (y_pickF S rfl rfl) ?_; clear S a; intro a S
                    refine st_y S rfl rfl rfl (y_move S rfl) ?_; clear S a; intro a S
                    refine st_split (t := 78) S rfl ?_ ?_
                    · clear S; intro h78 S
                      exfalso; have e : (!n.eqb n) = true := h78; rw [Nm.eqb_iff.2 rfl] at e; simp at e
                    · clear S; intro h78 S
                      refine st_y S rfl rfl rfl (y_fieldAddr (k := 8) S (by kernel_rfl) rfl) ?_; clear S a; intro a S
                      refine st_y S rfl rfl rfl (y_load S (by kernel_rfl) rfl (M.cell 0 rfl rfl)) ?_; clear S a; intro a S
                      refine st_y S rfl rfl rfl (y_move S rfl) ?_; clear S a; intro a S
                      refine st_y S rfl rfl rfl (y_int S rfl rfl rfl) ?_; clear S a; intro a S
                      refine st_y S rfl rfl rfl (y_pickF S rfl rfl) ?_; clear S a; intro a S
                      refine st_y S rfl rfl rfl (y_move S rfl) ?_; clear S a; intro a S
                      refine st_split (t := 84) S rfl ?_ ?_
                      · clear S; intro h84 S
                        first | replace h84 := nrmA h84 | replace h84 := nrmB h84 | skip
                        first | replace h84 := nrm1 h84 | replace h84 := nrm2 h84 | replace h84 := nrm3 h84 | replace h84 := nrm4 h84 | replace h84 := nrm5 h84 | replace h84 := nrm6 h84 | replace h84 := of_decide_eq_true h84 | replace h84 := of_decide_eq_false h84 | skip
                        exact absurd rfl h84
                      · clear S; intro h84 S
                        first | replace h84 := nrmA h84 | replace h84 := nrmB h84 | skip
                        first | replace h84 := nrm1 h84 | replace h84 := nrm2 h84 | replace h84 := nrm3 h84 | replace h84 := nrm4 h84 | replace h84 := nrm5 h84 | replace h84 := nrm6 h84 | replace h84 := of_decide_eq_true h84 | replace h84 := of_decide_eq_false h84 | skip
                        refine st_y S rfl rfl rfl (y_fieldAddr (k := 9) S (by kernel_rfl) rfl) ?_; clear S a; intro a S
                        refine st_y S rfl rfl rfl (y_load S (by kernel_rfl) rfl (M.cell 0 rfl rfl)) ?_; clear S a; intro a S
                        refine st_y S rfl rfl rfl (y_int S rfl rfl rfl) ?_; clear S a; intro a S
                        refine st_y S rfl rfl rfl (y_pickF S rfl rfl) ?_; clear S a; intro a S
                        refine st_y S rfl rfl rfl (y_move S rfl) ?_; clear S a; intro a S
                        refine st_split (t := 89) S rfl ?_ ?_
                        · clear S; intro h89 S
                          first | replace h89 := nrmA h89 | replace h89 := nrmB h89 | skip
                          first | replace h89 := nrm1 h89 | replace h89 := nrm2 h89 | replace h89 := nrm3 h89 | replace h89 := nrm4 h89 | replace h89 := nrm5 h89 | replace h89 := nrm6 h89 | replace h89 := of_decide_eq_true h89 | replace h89 := of_decide_eq_false h89 | skip
                          exact absurd rfl h89
                        · clear S; intro h89 S
                          first | replace h89 := nrmA h89 | replace h89 := nrmB h89 | skip
                          first | replace h89 := nrm1 h89 | replace h89 := nrm2 h89 | replace h89 := nrm3 h89 | replace h89 := nrm4 h89 | replace h89 := nrm5 h89 | replace h89 := nrm6 h89 | replace h89 := of_decide_eq_true h89 | replace h89 := of_decide_eq_false h89 | skip
                          refine st_y S rfl rfl rfl (y_fieldAddr (k := 10) S (by kernel_rfl) rfl) ?_; clear S a; intro a S
                          refine st_y S rfl rfl rfl (y_load S (by kernel_rfl) rfl (M.cell 0 rfl rfl)) ?_; clear S a; intro a S
                          refine st_y S rfl rfl rfl (y_fieldAddr (k := 0) S (by kernel_rfl) rfl) ?_; clear S a; intro a S
                          refine st_y S rfl rfl rfl (y_load S (by kernel_rfl) rfl (M.cell 7 rfl rfl)) ?_; clear S a; intro a S
                          (first | refine st_y S rfl rfl rfl (y_mulN S rfl rfl (by omega)) ?_ | refine st_y S rfl rfl rfl (y_int S rfl rfl rfl) ?_); clear S a; intro a S
                          refine st_y S rfl rfl rfl (y_move S rfl) ?_; clear S a; intro a S
                          (first | refine st_y S rfl rfl rfl (y_addN S rfl rfl (by omega)) ?_ | refine st_y S rfl rfl rfl (y_int S rfl rfl rfl) ?_); clear S a; intro a S
                          (first | refine st_y S rfl rfl rfl (y_subN S rfl rfl (by omega)) ?_ | refine st_y S rfl rfl rfl (y_int S rfl rfl rfl) ?_); clear S a; intro a S
                          refine st_y S rfl rfl rfl (y_int S rfl rfl rfl) ?_; clear S a; intro a S
                          refine st_y S rfl rfl rfl (y_pickF S rfl rfl) ?_; clear S a; intro a S
                          refine wpList_nil ?_
                          replace S := S.sub [(1, _), (4, _), (6, _), (9, _), (10, _), (12, _), (13, _), (48, _), (49, _), (50, _), (15, _), (57, _), (58, _), (59, _), (60, _), (17, _), (99, _)] rfl
                          refine then_normal ?_
                          refine st_split (t := 99) S rfl ?_ ?_
                          · clear S; intro h99 S
                            first | replace h99 := nrmA h99 | replace h99 := nrmB h99 | skip
                            first | replace h99 := nrm1 h99 | replace h99 := nrm2 h99 | replace h99 := nrm3 h99 | replace h99 := nrm4 h99 | replace h99 := nrm5 h99 | replace h99 := nrm6 h99 | replace h99 := of_decide_eq_true h99 | replace h99 := of_decide_eq_false h99 | skip
                            exfalso; simp only [execM, mvA] at h99; omega
                          · clear S; intro h99 S
                            first | replace h99 := nrmA h99 | replace h99 := nrmB h99 | skip
                            first | replace h99 := nrm1 h99 | replace h99 := nrm2 h99 | replace h99 := nrm3 h99 | replace h99 := nrm4 h99 | replace h99 := nrm5 h99 | replace h99 := nrm6 h99 | replace h99 := of_decide_eq_true h99 | replace h99 := of_decide_eq_false h99 | skip
                            refine st_condF S rfl ?_
                            refine wp_skip ?_
                            refine block_normal ?_
                            refine then_normal ?_
                            -- region 18 law.go:86
                            refine wp_region_lit ?_
                            (first | refine st_y S rfl rfl rfl (y_addN S rfl rfl (by omega)) ?_ | refine st_y S rfl rfl rfl (y_int S rfl rfl rfl) ?_); clear S a; intro a S
                            refine st_y S rfl rfl rfl (y_move S rfl) ?_; clear S a; intro a S
                            refine wpList_nil ?_
                            replace S := S.sub [(1, _), (4, _), (6, _), (9, _), (10, _), (12, _), (13, _), (48, _), (49, _), (50, _), (15, _), (57, _), (58, _), (60, _), (17, _), (99, _), (59, _)] rfl
                            refine then_normal ?_
                            exact ⟨ms.length - (i + 1), by omega, i + 1, ⟨by omega, rfl⟩, S.sub _ rfl, M.drop 0⟩
              · clear S; intro h60 S
                first | replace h60 := nrmA h60 | replace h60 := nrmB h60 | skip
                first | replace h60 := nrm1 h60 | replace h60 := nrm2 h60 | replace h60 := nrm3 h60 | replace h60 := nrm4 h60 | replace h60 := nrm5 h60 | replace h60 := nrm6 h60 | replace h60 := of_decide_eq_true h60 | replace h60 := of_decide_eq_false h60 | skip
                refine st_condF S rfl ?_
                refine wp_exit ?_
                refine then_exit ?_
                refine then_exit ?_
                refine block_hit ?_
                refine then_normal ?_
                refine wp_seq ?_
                refine wp_seq ?_
                -- region 19 law.go:91
                refine wp_region_lit ?_
                refine st_y S rfl rfl rfl (y_fieldAddr (k := 0) S (by kernel_rfl) rfl) ?_; clear S a; intro a S
                refine st_y S rfl rfl rfl (y_load S (by kernel_rfl) rfl (M.cell 0 rfl rfl)) ?_; clear S a; intro a S
                refine st_y S rfl rfl rfl (y_int S rfl rfl rfl) ?_; clear S a; intro a S
                refine wpList_nil ?_
                replace S := S.sub [(1, _), (4, _), (6, _), (9, _), (10, _), (12, _), (13, _), (48, _), (49, _), (50, _), (15, _), (57, _), (58, _), (59, _), (60, _), (103, _)] rfl
                refine then_normal ?_
                refine st_split (t := 103) S rfl ?_ ?_
                · clear S; intro h103 S
                  first | replace h103 := nrmA h103 | replace h103 := nrmB h103 | skip
                  first | replace h103 := nrm1 h103 | replace h103 := nrm2 h103 | replace h103 := nrm3 h103 | replace h103 := nrm4 h103 | replace h103 := nrm5 h103 | replace h103 := nrm6 h103 | replace h103 := of_decide_eq_true h103 | replace h103 := of_decide_eq_false h103 | skip
                  refine st_condT S rfl ?_
                  refine wp_seq ?_
                  -- region 20 law.go:92
                  refine wp_region_lit ?_
                  refine st_y S rfl rfl rfl (y_loadAgg (cs := [_, _, _, _, _, _, _, _, _]) S (by kernel_rfl) rfl rfl (M.cellsAt (k := 9) 1 rfl rfl)) ?_; clear S a; intro a S
                  refine st_call (xs := [(Operand.tmp 105)]) S (enters_of Try.func8 (by decide) rfl) rfl rfl rfl (tick_any (mvA s t f n (x.length + 1)) ad x.length cp x _ (M.readAll 2 rfl (by unfold maxLen; omega)) (okA hw hx3)) ?_
                  rintro _ w13 ⟨ad3, cp3, lv3, l5, h5, l6, h6, rfl, M1⟩; refine ⟨_, rfl, ?_⟩; clear S a; intro a S
                  have hK := M1.below
                  rw [ask_one rfl] at M1
                  obtain ⟨oad3, ocp3, hE, -, -⟩ := (M1.readRow 0 rfl (by unfold maxLen; simp)).form
                  subst hE
                  replace M := M.join M1
                  simp only [List.cons_append, List.nil_append] at M
                  refine st_y S rfl rfl rfl (y_move S rfl) ?_; clear S a; intro a S
                  refine st_y S rfl rfl rfl (y_extract S rfl rfl) ?_; clear S a; intro a S
                  refine st_y S rfl rfl rfl (y_extract S rfl rfl) ?_; clear S a; intro a S
                  refine st_y S rfl rfl rfl (y_extract S rfl rfl) ?_; clear S a; intro a S
                  refine st_alloc S M rfl rfl #[.int .i8 0, .int .i64 0, .int .i64 0, .int .i64 0, .int .i64 0, .int .i64 0, .int .i64 0, .int .i64 0, .slice none 0 0] (by kernel_rfl) ?_; clear S M a; intro a w14 bP S M hB
                  refine st_store (sz := 9) (us := [_, _, _, _, _, _, _, _, _]) S M 0 rfl (by kernel_rfl) rfl rfl rfl rfl rfl rfl (by first | decide | (simp; done) | (simp; omega)) ?_; clear M; intro w15 M
                  simp only [putL, List.set_cons_zero, List.set_cons_succ, Nat.reduceAdd] at M
                  refine st_y S rfl rfl rfl (y_assign S rfl) ?_; clear S a; intro a S
                  refine st_y S rfl rfl rfl (y_assign S rfl) ?_; clear S a; intro a S
                  refine wpList_nil ?_
                  replace S := S.sub [(1, _), (4, _), (6, _), (9, _), (10, _), (12, _), (13, _), (48, _), (49, _), (50, _), (15, _), (57, _), (58, _), (59, _), (60, _), (103, _), (18, _), (19, _), (20, _)] rfl
                  refine then_normal ?_
                  refine wp_seq ?_
                  refine wp_seq ?_
                  -- region 21 law.go:93
                  refine wp_region_lit ?_
                  refine st_y S rfl rfl rfl (y_move S rfl) ?_; clear S a; intro a S
                  refine st_y S rfl rfl rfl (y_int S rfl rfl rfl) ?_; clear S a; intro a S
                  refine st_y S rfl rfl rfl (y_move S rfl) ?_; clear S a; intro a S
                  refine st_split (t := 112) S rfl ?_ ?_
                  · clear S; intro h112 S
                    first | replace h112 := nrmA h112 | replace h112 := nrmB h112 | skip
                    first | replace h112 := nrm1 h112 | replace h112 := nrm2 h112 | replace h112 := nrm3 h112 | replace h112 := nrm4 h112 | replace h112 := nrm5 h112 | replace h112 := nrm6 h112 | replace h112 := of_decide_eq_true h112 | replace h112 := of_decide_eq_false h112 | skip
                    simp at h112
                  · clear S; intro h112 S
                    first | replace h112 := nrmA h112 | replace h112 := nrmB h112 | skip
                    first | replace h112 := nrm1 h112 | replace h112 := nrm2 h112 | replace h112 := nrm3 h112 | replace h112 := nrm4 h112 | replace h112 := nrm5 h112 | replace h112 := nrm6 h112 | replace h112 := of_decide_eq_true h112 | replace h112 := of_decide_eq_false h112 | skip
                    refine st_y S rfl rfl rfl (y_loadAgg (cs := [_, _, _, _, _, _, _, _, _]) S (by kernel_rfl) rfl rfl (M.cellsAt (k := 9) 0 rfl rfl)) ?_; clear S a; intro a S
                    refine st_y S rfl rfl rfl (y_loadAgg (cs := [_, _, _, _, _, _, _, _, _]) S (by kernel_rfl) rfl rfl (M.cellsAt (k := 9) 4 rfl rfl)) ?_; clear S a; intro a S
                    refine st_call (xs := [(Operand.tmp 113), (Operand.tmp 114)]) S (enters_of Try.func9 (by decide) rfl) rfl rfl rfl (sameV_any (mvA s t f n (x.length + 1)) (mvA s t f n (x.length + 1)) _ _ x x _ (M.readAll 2 rfl (by unfold maxLen; omega)) (M.readAll 5 rfl (by unfold maxLen; omega))) ?_
                    rintro _ w16 ⟨rfl, hK⟩; refine ⟨_, rfl, ?_⟩; clear S a; intro a S; replace M := M.grow hK
                    rw [Mv.same_iff.2 ⟨rfl, rfl⟩] at S
                    refine st_y S rfl rfl rfl (y_not S rfl) ?_; clear S a; intro a S
                    refine st_y S rfl rfl rfl (y_pickF S rfl rfl) ?_; clear S a; intro a S
                    refine st_y S rfl rfl rfl (y_move S rfl) ?_; clear S a; intro a S
                    refine st_split (t := 118) S rfl ?_ ?_
                    · clear S; intro h118 S
                      first | replace h118 := nrmA h118 | replace h118 := nrmB h118 | skip
                      first | replace h118 := nrm1 h118 | replace h118 := nrm2 h118 | replace h118 := nrm3 h118 | replace h118 := nrm4 h118 | replace h118 := nrm5 h118 | replace h118 := nrm6 h118 | replace h118 := of_decide_eq_true h118 | replace h118 := of_decide_eq_false h118 | skip
                      simp at h118
                    · clear S; intro h118 S
                      first | replace h118 := nrmA h118 | replace h118 := nrmB h118 | skip
                      first | replace h118 := nrm1 h118 | replace h118 := nrm2 h118 | replace h118 := nrm3 h118 | replace h118 := nrm4 h118 | replace h118 := nrm5 h118 | replace h118 := nrm6 h118 | replace h118 := of_decide_eq_true h118 | replace h118 := of_decide_eq_false h118 | skip
                      refine st_y S rfl rfl rfl (y_move S rfl) ?_; clear S a; intro a S
                      refine st_y S rfl rfl rfl (y_lenS (E := 39) S rfl (by kernel_rfl)) ?_; clear S a; intro a S
                      refine st_y S rfl rfl rfl (y_int S rfl rfl rfl) ?_; clear S a; intro a S
                      refine st_y S rfl rfl rfl (y_pickF S rfl rfl) ?_; clear S a; intro a S
                      refine wpList_nil ?_
                      replace S := S.sub [(1, _), (4, _), (6, _), (9, _), (10, _), (12, _), (13, _), (48, _), (49, _), (50, _), (15, _), (57, _), (58, _), (59, _), (60, _), (103, _), (18, _), (19, _), (20, _), (122, _)] rfl
                      refine then_normal ?_
                      refine st_split (t := 122) S rfl ?_ ?_
                      · clear S; intro h122 S
                        first | replace h122 := nrmA h122 | replace h122 := nrmB h122 | skip
                        first | replace h122 := nrm1 h122 | replace h122 := nrm2 h122 | replace h122 := nrm3 h122 | replace h122 := nrm4 h122 | replace h122 := nrm5 h122 | replace h122 := nrm6 h122 | replace h122 := of_decide_eq_true h122 | replace h122 := of_decide_eq_false h122 | skip
                        simp at h122
                      · clear S; intro h122 S
                        first | replace h122 := nrmA h122 | replace h122 := nrmB h122 | skip
                        first | replace h122 := nrm1 h122 | replace h122 := nrm2 h122 | replace h122 := nrm3 h122 | replace h122 := nrm4 h122 | replace h122 := nrm5 h122 | replace h122 := nrm6 h122 | replace h122 := of_decide_eq_true h122 | replace h122 := of_decide_eq_false h122 | skip
                        refine st_condF S rfl ?_
                        refine wp_skip ?_
                        refine then_normal ?_
                        refine wp_seq ?_
                        -- region 23 law.go:96
                        skip
                        refine wp_region_lit ?_
                        refine st_y S rfl rfl rfl (y_move S rfl) ?_; clear S a; intro a S
                        refine st_y S rfl rfl rfl (y_assign S rfl) ?_; clear S a; intro a S
                        refine wpList_nil ?_
                        replace S := S.sub [(1, _), (4, _), (6, _), (9, _), (12, _), (13, _), (48, _), (49, _), (50, _), (15, _), (57, _), (58, _), (59, _), (60, _), (103, _), (18, _), (19, _), (20, _), (122, _), (10, _)] rfl
                        refine then_normal ?_
                        refine wp_exit ?_
                        refine then_exit ?_
                        refine block_hit ?_
                        refine then_normal ?_
                        -- region 49 law.go:82
                        refine wp_region_lit ?_
                        (first | refine st_y S rfl rfl rfl (y_addN S rfl rfl (by omega)) ?_ | refine st_y S rfl rfl rfl (y_int S rfl rfl rfl) ?_); clear S a; intro a S
                        refine st_y S rfl rfl rfl (y_move S rfl) ?_; clear S a; intro a S
                        refine wpList_nil ?_
                        replace S := S.sub [(1, _), (4, _), (6, _), (9, _), (12, _), (13, _), (48, _), (49, _), (15, _), (57, _), (58, _), (59, _), (60, _), (103, _), (18, _), (19, _), (20, _), (122, _), (10, _), (50, _)] rfl
                        refine then_normal ?_
                        replace M := M.front 9 rfl
                        simp only [List.eraseIdx_cons_succ, List.eraseIdx_cons_zero] at M
                        replace M := M.front 9 rfl
                        simp only [List.eraseIdx_cons_succ, List.eraseIdx_cons_zero] at M
                        replace M := M.front 9 rfl
                        simp only [List.eraseIdx_cons_succ, List.eraseIdx_cons_zero] at M
                        replace M := M.front 4 rfl
                        simp only [List.eraseIdx_cons_succ, List.eraseIdx_cons_zero] at M
                        replace M := M.front 8 rfl
                        simp only [List.eraseIdx_cons_succ, List.eraseIdx_cons_zero] at M
                        replace M := M.front 8 rfl
                        simp only [List.eraseIdx_cons_succ, List.eraseIdx_cons_zero] at M
                        first
                          | exact ⟨L.length - (j + 1), by omega, j + 1, x, [execM (mvA s t f n (x.length + 1))], _, _, _, _, _, _, _, _, _, _, _, ⟨by omega, rfl, hx3, by simp⟩, fun y hy => by simpa using hy, S.sub _ rfl, M.six⟩
                          | exact ⟨L.length - (j + 1), by omega, j + 1, x, ms, _, _, _, _, _, _, _, _, _, _, _, ⟨by omega, rfl, hx3, hms⟩, hall, S.sub _ rfl, M.six⟩
                          | (obtain ⟨q1, q2, q3, -⟩ := G1 h186
                             rw [q1, q2, q3] at M
                             rw [q3] at S
                             exact ⟨L.length - (j + 1), by omega, j + 1, x, [], _, _, _, _, _, _, _, _, _, _, _, ⟨by omega, rfl, hx3, by simp⟩, fun y hy => by simp at hy, S.sub _ rfl, M.six⟩)
                          | (have hee : g.e = 0 := by
                               by_cases h : g.e = 0
                               · exact h
                               · have := ((G2 h186).1 h).2.2; omega
                             have hk2 := (G2 h186).2 hee
                             rcases hk2.2 with ⟨-, q, -⟩ | ⟨q0, -, q1, q3⟩
                             · exact absurd q h208
                             · rw [q1, hk2.1, q3, ← vcells_append] at M
                               rw [q3] at S
                               have el : x.length + 1 = (x ++ [g.val]).length := by simp
                               rw [el] at M S
                               exact ⟨L.length - (j + 1), by omega, j + 1, x ++ [g.val], [execM (mvA s t f n ((x ++ [g.val]).length + 1))], _, _, _, _, _, _, _, _, _, _, _, ⟨by omega, rfl, by simp; omega, by simp⟩, fun y hy => by simpa using hy, S.sub _ rfl, M.six⟩)
                · clear S; intro h103 S
                  first | replace h103 := nrmA h103 | replace h103 := nrmB h103 | skip
                  first | replace h103 := nrm1 h103 | replace h103 := nrm2 h103 | replace h103 := nrm3 h103 | replace h103 := nrm4 h103 | replace h103 := nrm5 h103 | replace h103 := nrm6 h103 | replace h103 := of_decide_eq_true h103 | replace h103 := of_decide_eq_false h103 | skip
                  refine st_condF S rfl ?_
                  refine wp_skip ?_
                  refine then_normal ?_
                  refine wp_seq ?_
                  -- region 24 law.go:99
                  refine wp_region_lit ?_
                  refine st_y S rfl rfl rfl (y_loadAgg (cs := [_, _, _, _, _, _, _, _, _]) S (by kernel_rfl) rfl rfl (M.cellsAt (k := 9) 1 rfl rfl)) ?_; clear S a; intro a S
                  refine st_y S rfl rfl rfl (y_loadAgg (cs := [_, _, _, _, _, _, _, _, _, _, _, _, _, _, _, _, _, _, _, _, _, _, _, _]) S (by kernel_rfl) rfl rfl (M.cellsAt (k := 24) 0 rfl rfl)) ?_; clear S a; intro a S
                  refine st_call (xs := [(Operand.tmp 125), (Operand.tmp 126)]) S (enters_of Try.func10 (by decide) rfl) rfl rfl rfl (hearM_any (mvA s t f n (x.length + 1)) ad x.length cp x g gad y.length gcp y _ (M.readAll 2 rfl (by unfold maxLen; omega)) (M.argW hlv)) ?_
                  rintro _ w17 hP
                  obtain ⟨m', x', ms', how, er, hqq, hx4, hm1, F⟩ := hear_asks (t := t) (f := f) (g := g) (y := y) hw hx3
                  rw [hqq] at hP
                  obtain ⟨ad2, cp2, lv2, l3, h3, l4, h4, rfl, M1⟩ := hP; refine ⟨_, rfl, ?_⟩; clear S a; intro a S
                  have hK := M1.below
                  obtain ⟨oad2, ocp2, hE, -, -⟩ := (M1.readRow 0 rfl (by unfold maxLen; simp only; omega)).form
                  subst hE
                  replace M := M.join M1
                  simp only [List.cons_append, List.nil_append] at M
                  refine st_y S rfl rfl rfl (y_move S rfl) ?_; clear S a; intro a S
                  refine st_y S rfl rfl rfl (y_extract S rfl rfl) ?_; clear S a; intro a S
                  refine st_y S rfl rfl rfl (y_extract S rfl rfl) ?_; clear S a; intro a S
                  refine st_y S rfl rfl rfl (y_extract S rfl rfl) ?_; clear S a; intro a S
                  refine st_y S rfl rfl rfl (y_extract S rfl rfl) ?_; clear S a; intro a S
                  refine st_alloc S M rfl rfl #[.int .i8 0, .int .i64 0, .int .i64 0, .int .i64 0, .int .i64 0, .int .i64 0, .int .i64 0, .int .i64 0, .slice none 0 0] (by kernel_rfl) ?_; clear S M a; intro a w18 bO S M hB
                  refine st_store (sz := 9) (us := [_, _, _, _, _, _, _, _, _]) S M 0 rfl (by kernel_rfl) rfl rfl rfl rfl rfl rfl (by first | decide | (simp; done) | (simp; omega)) ?_; clear M; intro w19 M
                  simp only [putL, List.set_cons_zero, List.set_cons_succ, Nat.reduceAdd] at M
                  refine st_y S rfl rfl rfl (y_assign S rfl) ?_; clear S a; intro a S
                  refine st_y S rfl rfl rfl (y_assign S rfl) ?_; clear S a; intro a S
                  refine st_y S rfl rfl rfl (y_assign S rfl) ?_; clear S a; intro a S
                  refine wpList_nil ?_
                  replace S := S.sub [(1, _), (4, _), (6, _), (9, _), (10, _), (12, _), (13, _), (48, _), (49, _), (50, _), (15, _), (57, _), (58, _), (59, _), (60, _), (103, _), (21, _), (22, _), (23, _), (24, _)] rfl
                  refine then_normal ?_
                  refine wp_seq ?_
                  refine wp_seq ?_
                  -- region 25 law.go:100
                  refine wp_region_lit ?_
                  refine st_y S rfl rfl rfl (y_move S rfl) ?_; clear S a; intro a S
                  refine st_y S rfl rfl rfl (y_int S rfl rfl rfl) ?_; clear S a; intro a S
                  refine wpList_nil ?_
                  replace S := S.sub [(1, _), (4, _), (6, _), (9, _), (10, _), (12, _), (13, _), (48, _), (49, _), (50, _), (15, _), (57, _), (58, _), (59, _), (60, _), (103, _), (21, _), (22, _), (23, _), (24, _), (133, _)] rfl
                  refine then_normal ?_
                  refine st_split (t := 133) S rfl ?_ ?_
                  · clear S; intro h133 S
                    first | replace h133 := nrmA h133 | replace h133 := nrmB h133 | skip
                    first | replace h133 := nrm1 h133 | replace h133 := nrm2 h133 | replace h133 := nrm3 h133 | replace h133 := nrm4 h133 | replace h133 := nrm5 h133 | replace h133 := nrm6 h133 | replace h133 := of_decide_eq_true h133 | replace h133 := of_decide_eq_false h133 | skip
                    refine st_condT S rfl ?_
                    refine wp_exit ?_
                    refine then_exit ?_
                    refine block_hit ?_
                    refine then_normal ?_
                    -- region 49 law.go:82
                    refine wp_region_lit ?_
                    (first | refine st_y S rfl rfl rfl (y_addN S rfl rfl (by omega)) ?_ | refine st_y S rfl rfl rfl (y_int S rfl rfl rfl) ?_); clear S a; intro a S
                    refine st_y S rfl rfl rfl (y_move S rfl) ?_; clear S a; intro a S
                    refine wpList_nil ?_
                    replace S := S.sub [(1, _), (4, _), (6, _), (9, _), (10, _), (12, _), (13, _), (48, _), (49, _), (15, _), (57, _), (58, _), (59, _), (60, _), (103, _), (21, _), (22, _), (23, _), (24, _), (133, _), (50, _)] rfl
                    refine then_normal ?_
                    replace M := M.front 9 rfl
                    simp only [List.eraseIdx_cons_succ, List.eraseIdx_cons_zero] at M
                    replace M := M.front 9 rfl
                    simp only [List.eraseIdx_cons_succ, List.eraseIdx_cons_zero] at M
                    replace M := M.front 9 rfl
                    simp only [List.eraseIdx_cons_succ, List.eraseIdx_cons_zero] at M
                    replace M := M.front 9 rfl
                    simp only [List.eraseIdx_cons_succ, List.eraseIdx_cons_zero] at M
                    replace M := M.front 9 rfl
                    simp only [List.eraseIdx_cons_succ, List.eraseIdx_cons_zero] at M
                    replace M := M.front 9 rfl
                    simp only [List.eraseIdx_cons_succ, List.eraseIdx_cons_zero] at M
                    first
                      | exact ⟨L.length - (j + 1), by omega, j + 1, x, [execM (mvA s t f n (x.length + 1))], _, _, _, _, _, _, _, _, _, _, _, ⟨by omega, rfl, hx3, by simp⟩, fun y hy => by simpa using hy, S.sub _ rfl, M.six⟩
                      | exact ⟨L.length - (j + 1), by omega, j + 1, x, ms, _, _, _, _, _, _, _, _, _, _, _, ⟨by omega, rfl, hx3, hms⟩, hall, S.sub _ rfl, M.six⟩
                      | (obtain ⟨q1, q2, q3, -⟩ := G1 h186
                         rw [q1, q2, q3] at M
                         rw [q3] at S
                         exact ⟨L.length - (j + 1), by omega, j + 1, x, [], _, _, _, _, _, _, _, _, _, _, _, ⟨by omega, rfl, hx3, by simp⟩, fun y hy => by simp at hy, S.sub _ rfl, M.six⟩)
                      | (have hee : g.e = 0 := by
                           by_cases h : g.e = 0
                           · exact h
                           · have := ((G2 h186).1 h).2.2; omega
                         have hk2 := (G2 h186).2 hee
                         rcases hk2.2 with ⟨-, q, -⟩ | ⟨q0, -, q1, q3⟩
                         · exact absurd q h208
                         · rw [q1, hk2.1, q3, ← vcells_append] at M
                           rw [q3] at S
                           have el : x.length + 1 = (x ++ [g.val]).length := by simp
                           rw [el] at M S
                           exact ⟨L.length - (j + 1), by omega, j + 1, x ++ [g.val], [execM (mvA s t f n ((x ++ [g.val]).length + 1))], _, _, _, _, _, _, _, _, _, _, _, ⟨by omega, rfl, by simp; omega, by simp⟩, fun y hy => by simpa using hy, S.sub _ rfl, M.six⟩)
                  · clear S; intro h133 S
                    first | replace h133 := nrmA h133 | replace h133 := nrmB h133 | skip
                    first | replace h133 := nrm1 h133 | replace h133 := nrm2 h133 | replace h133 := nrm3 h133 | replace h133 := nrm4 h133 | replace h133 := nrm5 h133 | replace h133 := nrm6 h133 | replace h133 := of_decide_eq_true h133 | replace h133 := of_decide_eq_false h133 | skip
                    refine st_condF S rfl ?_
                    refine wp_skip ?_
                    refine then_normal ?_
                    refine wp_cut (fun a w' => ∃ bb : Bool, (bb = true ↔ (g.name = n ∧ g.n = ((x.length + 1 : Nat) : Int) ∧ g.frm = f)) ∧ er = 0 ∧ Sees 254 a [(1, .int .i64 f), (4, .pointer (some ⟨bC, 0, none⟩)), (6, .pointer (some ⟨bN, 0, none⟩)), (9, .pointer (some ⟨bK, 0, none⟩)), (12, .int .i64 ((x.length + 1 : Nat) : Int)), (13, tv), (48, v), (49, .int .i64 (L.length : Int)), (50, .int .i64 (j : Int)), (15, .pointer (some ⟨bG, 0, none⟩)), (21, .pointer (some ⟨bO, 0, none⟩)), (22, .slice oad2 ms'.length ocp2), (23, .int .i8 how), (25, .bool bb)] ∧ Mem w w' [.blk bO (m'.cells (.slice ad2 x'.length cp2)) 31, rowE l3 h3 39 24 (.slice oad2 ms'.length ocp2) ms'.length (msC ms'), rowE l4 h4 36 8 (.slice ad2 x'.length cp2) x'.length (vcells x'), .blk bG (g.cells (.slice gad y.length gcp)) 39, .blk bK ((mvA s t f n (x.length + 1)).cells (.slice ad x.length cp)) 31, rowE lo hi 36 8 (.slice ad x.length cp) x.length (vcells x), rowE l1 h1 39 24 (.slice oad ms.length ocp) ms.length (msC ms), rowE l2 h2 36 8 tv x.length (vcells x), .blk bN n.cells 25, .blk bC #[.int .i64 s, .int .i64 t] 23]) ?_ ?_
                    · skip
                      -- region 26 law.go:103
                      refine wp_region_lit ?_
                      refine st_y S rfl rfl rfl (y_fieldAddr (k := 5) S (by kernel_rfl) rfl) ?_; clear S a; intro a S
                      refine st_y S rfl rfl rfl (y_loadAgg (cs := [_, _, _]) S (by kernel_rfl) rfl rfl (M.cellsAt (k := 3) 3 rfl rfl)) ?_; clear S a; intro a S
                      refine st_y S rfl rfl rfl (y_loadAgg (cs := [_, _, _]) S (by kernel_rfl) rfl rfl (M.cellsAt (k := 3) 8 rfl rfl)) ?_; clear S a; intro a S
                      refine st_y S rfl rfl rfl (y_eqlG (by kernel_rfl) S rfl rfl (fun w => equalNm 9998 ⟨_, _, _⟩ ⟨_, _, _⟩ w)) ?_; clear S a; intro a S
                      refine st_y S rfl rfl rfl (y_move S rfl) ?_; clear S a; intro a S
                      refine st_split (t := 138) S rfl ?_ ?_
                      · clear S; intro h138 S
                        refine st_y S rfl rfl rfl (y_fieldAddr (k := 8) S (by kernel_rfl) rfl) ?_; clear S a; intro a S
                        refine st_y S rfl rfl rfl (y_load S (by kernel_rfl) rfl (M.cell 3 rfl rfl)) ?_; clear S a; intro a S
                        refine st_y S rfl rfl rfl (y_move S rfl) ?_; clear S a; intro a S
                        refine st_y S rfl rfl rfl (y_int S rfl rfl rfl) ?_; clear S a; intro a S
                        refine st_y S rfl rfl rfl (y_pickT S rfl rfl) ?_; clear S a; intro a S
                        refine st_y S rfl rfl rfl (y_move S rfl) ?_; clear S a; intro a S
                        refine st_split (t := 144) S rfl ?_ ?_
                        · clear S; intro h144 S
                          first | replace h144 := nrmA h144 | replace h144 := nrmB h144 | skip
                          first | replace h144 := nrm1 h144 | replace h144 := nrm2 h144 | replace h144 := nrm3 h144 | replace h144 := nrm4 h144 | replace h144 := nrm5 h144 | replace h144 := nrm6 h144 | replace h144 := of_decide_eq_true h144 | replace h144 := of_decide_eq_false h144 | skip
                          refine st_y S rfl rfl rfl (y_fieldAddr (k := 1) S (by kernel_rfl) rfl) ?_; clear S a; intro a S
                          refine st_y S rfl rfl rfl (y_load S (by kernel_rfl) rfl (M.cell 3 rfl rfl)) ?_; clear S a; intro a S
                          refine st_y S rfl rfl rfl (y_move S rfl) ?_; clear S a; intro a S
                          refine st_y S rfl rfl rfl (y_int S rfl rfl rfl) ?_; clear S a; intro a S
                          refine st_y S rfl rfl rfl (y_pickT S rfl rfl) ?_; clear S a; intro a S
                          refine st_y S rfl rfl rfl (y_assign S rfl) ?_; clear S a; intro a S
                          refine wpList_nil ?_
                          replace S := S.sub [(1, _), (4, _), (6, _), (9, _), (10, _), (12, _), (13, _), (48, _), (49, _), (50, _), (15, _), (57, _), (58, _), (59, _), (60, _), (103, _), (21, _), (22, _), (23, _), (24, _), (133, _), (25, _)] rfl
                          refine then_normal ?_
                          refine ⟨_, ?_, by omega, S.sub _ rfl, M⟩
                          clear S M F
                          have hnm : ∀ b, g.name.eqb n = b → (b = true ↔ g.name = n) := fun b h => by rw [← h]; exact Nm.eqb_iff
                          have hnn := hnm _ h138
                          first
                            | (simp at hnn; simp [hnn, h144]; done)
                            | (simp at hnn; simp [h144]; done)
                            | (simp at hnn; simp [hnn]; done)
                            | (simp at hnn; simp [hnn]; intro q; exfalso; omega)
                        · clear S; intro h144 S
                          first | replace h144 := nrmA h144 | replace h144 := nrmB h144 | skip
                          first | replace h144 := nrm1 h144 | replace h144 := nrm2 h144 | replace h144 := nrm3 h144 | replace h144 := nrm4 h144 | replace h144 := nrm5 h144 | replace h144 := nrm6 h144 | replace h144 := of_decide_eq_true h144 | replace h144 := of_decide_eq_false h144 | skip
                          refine st_skip 4 S rfl ?_; clear S a; intro a S
                          refine st_y S rfl rfl rfl (y_pickF S rfl rfl) ?_; clear S a; intro a S
                          refine st_y S rfl rfl rfl (y_assign S rfl) ?_; clear S a; intro a S
                          refine wpList_nil ?_
                          replace S := S.sub [(1, _), (4, _), (6, _), (9, _), (10, _), (12, _), (13, _), (48, _), (49, _), (50, _), (15, _), (57, _), (58, _), (59, _), (60, _), (103, _), (21, _), (22, _), (23, _), (24, _), (133, _), (25, _)] rfl
                          refine then_normal ?_
                          refine ⟨_, ?_, by omega, S.sub _ rfl, M⟩
                          clear S M F
                          have hnm : ∀ b, g.name.eqb n = b → (b = true ↔ g.name = n) := fun b h => by rw [← h]; exact Nm.eqb_iff
                          have hnn := hnm _ h138
                          first
                            | (simp at hnn; simp [hnn, h144]; done)
                            | (simp at hnn; simp [h144]; done)
                            | (simp at hnn; simp [hnn]; done)
                            | (simp at hnn; simp [hnn]; intro q; exfalso; omega)
                      · clear S; intro h138 S
                        refine st_skip 4 S rfl ?_; clear S a; intro a S
                        refine st_y S rfl rfl rfl (y_pickF S rfl rfl) ?_; clear S a; intro a S
                        refine st_y S rfl rfl rfl (y_move S rfl) ?_; clear S a; intro a S
                        refine st_skip 4 S rfl ?_; clear S a; intro a S
                        refine st_y S rfl rfl rfl (y_pickF S rfl rfl) ?_; clear S a; intro a S
                        refine st_y S rfl rfl rfl (y_assign S rfl) ?_; clear S a; intro a S
                        refine wpList_nil ?_
                        replace S := S.sub [(1, _), (4, _), (6, _), (9, _), (10, _), (12, _), (13, _), (48, _), (49, _), (50, _), (15, _), (57, _), (58, _), (59, _), (60, _), (103, _), (21, _), (22, _), (23, _), (24, _), (133, _), (25, _)] rfl
                        refine then_normal ?_
                        refine ⟨_, ?_, by omega, S.sub _ rfl, M⟩
                        clear S M F
                        have hnm : ∀ b, g.name.eqb n = b → (b = true ↔ g.name = n) := fun b h => by rw [← h]; exact Nm.eqb_iff
                        have hnn := hnm _ h138
                        first
                          | (simp at hnn; simp [hnn, h144]; done)
                          | (simp at hnn; simp [h144]; done)
                          | (simp at hnn; simp [hnn]; done)
                          | (simp at hnn; simp [hnn]; intro q; exfalso; omega)
                    · clear S a M; intro a wc
                      rintro ⟨bb, hbb, he0, S, M⟩
                      obtain ⟨F1, F2⟩ := F he0
                      have G1 := fun h : bb = false => F1 (fun q => by rw [hbb.2 q] at h; cases h)
                      have G2 := fun h : bb = true => F2 (hbb.1 h)
                      refine wp_seq ?_
                      refine wp_seq ?_
                      -- region 27 law.go:104
                      refine wp_region_lit ?_
                      refine st_y S rfl rfl rfl (y_move S rfl) ?_; clear S a; intro a S
                      refine st_y S rfl rfl rfl (y_not S rfl) ?_; clear S a; intro a S
                      refine st_y S rfl rfl rfl (y_move S rfl) ?_; clear S a; intro a S
                      refine st_split (t := 152) S rfl ?_ ?_
                      · clear S; intro h152 S
                        refine st_y S rfl rfl rfl (y_move S rfl) ?_; clear S a; intro a S
                        refine st_y S rfl rfl rfl (y_int S rfl rfl rfl) ?_; clear S a; intro a S
                        refine st_y S rfl rfl rfl (y_move S rfl) ?_; clear S a; intro a S
                        refine st_split (t := 155) S rfl ?_ ?_
                        · clear S; intro h155 S
                          first | replace h155 := nrmA h155 | replace h155 := nrmB h155 | skip
                          first | replace h155 := nrm1 h155 | replace h155 := nrm2 h155 | replace h155 := nrm3 h155 | replace h155 := nrm4 h155 | replace h155 := nrm5 h155 | replace h155 := nrm6 h155 | replace h155 := of_decide_eq_true h155 | replace h155 := of_decide_eq_false h155 | skip
                          exfalso; exact absurd (G1 (by simpa using h152)).2.2.2 h155
                        · clear S; intro h155 S
                          first | replace h155 := nrmA h155 | replace h155 := nrmB h155 | skip
                          first | replace h155 := nrm1 h155 | replace h155 := nrm2 h155 | replace h155 := nrm3 h155 | replace h155 := nrm4 h155 | replace h155 := nrm5 h155 | replace h155 := nrm6 h155 | replace h155 := of_decide_eq_true h155 | replace h155 := of_decide_eq_false h155 | skip
                          refine st_y S rfl rfl rfl (y_move S rfl) ?_; clear S a; intro a S
                          refine st_y S rfl rfl rfl (y_lenS (E := 39) S rfl (by kernel_rfl)) ?_; clear S a; intro a S
                          refine st_y S rfl rfl rfl (y_int S rfl rfl rfl) ?_; clear S a; intro a S
                          refine st_y S rfl rfl rfl (y_pickF S rfl rfl) ?_; clear S a; intro a S
                          refine st_y S rfl rfl rfl (y_move S rfl) ?_; clear S a; intro a S
                          refine st_split (t := 160) S rfl ?_ ?_
                          · clear S; intro h160 S
                            first | replace h160 := nrmA h160 | replace h160 := nrmB h160 | skip
                            first | replace h160 := nrm1 h160 | replace h160 := nrm2 h160 | replace h160 := nrm3 h160 | replace h160 := nrm4 h160 | replace h160 := nrm5 h160 | replace h160 := nrm6 h160 | replace h160 := of_decide_eq_true h160 | replace h160 := of_decide_eq_false h160 | skip
                            exfalso; rw [(G1 (by simpa using h152)).2.2.1] at h160; simp at h160
                          · clear S; intro h160 S
                            first | replace h160 := nrmA h160 | replace h160 := nrmB h160 | skip
                            first | replace h160 := nrm1 h160 | replace h160 := nrm2 h160 | replace h160 := nrm3 h160 | replace h160 := nrm4 h160 | replace h160 := nrm5 h160 | replace h160 := nrm6 h160 | replace h160 := of_decide_eq_true h160 | replace h160 := of_decide_eq_false h160 | skip
                            refine st_y S rfl rfl rfl (y_loadAgg (cs := [_, _, _, _, _, _, _, _, _]) S (by kernel_rfl) rfl rfl (M.cellsAt (k := 9) 0 rfl rfl)) ?_; clear S a; intro a S
                            refine st_y S rfl rfl rfl (y_loadAgg (cs := [_, _, _, _, _, _, _, _, _]) S (by kernel_rfl) rfl rfl (M.cellsAt (k := 9) 4 rfl rfl)) ?_; clear S a; intro a S
                            refine st_call (xs := [(Operand.tmp 161), (Operand.tmp 162)]) S (enters_of Try.func9 (by decide) rfl) rfl rfl rfl (sameV_any m' (mvA s t f n (x.length + 1)) _ _ x' x _ (M.readAll 2 rfl (by unfold maxLen; omega)) (M.readAll 5 rfl (by unfold maxLen; omega))) ?_
                            rintro _ w20 ⟨rfl, hK⟩; refine ⟨_, rfl, ?_⟩; clear S a; intro a S; replace M := M.grow hK
                            have q := G1 (by simpa using h152)
                            rw [show m'.same (mvA s t f n (x.length + 1)) x' x = true from Mv.same_iff.2 ⟨q.1, q.2.1⟩] at S
                            refine st_y S rfl rfl rfl (y_not S rfl) ?_; clear S a; intro a S
                            refine st_y S rfl rfl rfl (y_pickF S rfl rfl) ?_; clear S a; intro a S
                            refine st_y S rfl rfl rfl (y_pickT S rfl rfl) ?_; clear S a; intro a S
                            refine st_y S rfl rfl rfl (y_move S rfl) ?_; clear S a; intro a S
                            refine st_split (t := 167) S rfl ?_ ?_
                            · clear S; intro h167 S
                              simp at h167
                            · clear S; intro h167 S
                              refine st_y S rfl rfl rfl (y_move S rfl) ?_; clear S a; intro a S
                              refine st_y S rfl rfl rfl (y_move S rfl) ?_; clear S a; intro a S
                              refine st_split (t := 169) S rfl ?_ ?_
                              · clear S; intro h169 S
                                exfalso; rw [h169] at h152; simp at h152
                              · clear S; intro h169 S
                                refine st_skip 6 S rfl ?_; clear S a; intro a S
                                refine st_y S rfl rfl rfl (y_pickF S rfl rfl) ?_; clear S a; intro a S
                                refine st_y S rfl rfl rfl (y_pickF S rfl rfl) ?_; clear S a; intro a S
                                refine wpList_nil ?_
                                replace S := S.sub [(1, _), (4, _), (6, _), (9, _), (12, _), (13, _), (48, _), (49, _), (50, _), (15, _), (21, _), (22, _), (23, _), (25, _), (177, _)] rfl
                                refine then_normal ?_
                                refine st_condF S rfl ?_
                                refine wp_skip ?_
                                refine then_normal ?_
                                refine wp_seq ?_
                                refine wp_seq ?_
                                -- region 29 law.go:107
                                refine wp_region_lit ?_
                                refine st_y S rfl rfl rfl (y_move S rfl) ?_; clear S a; intro a S
                                refine st_y S rfl rfl rfl (y_int S rfl rfl rfl) ?_; clear S a; intro a S
                                refine wpList_nil ?_
                                replace S := S.sub [(1, _), (4, _), (6, _), (9, _), (12, _), (13, _), (48, _), (49, _), (50, _), (15, _), (21, _), (22, _), (23, _), (25, _), (177, _), (179, _)] rfl
                                refine then_normal ?_
                                refine st_split (t := 179) S rfl ?_ ?_
                                · clear S; intro h179 S
                                  first | replace h179 := nrmA h179 | replace h179 := nrmB h179 | skip
                                  first | replace h179 := nrm1 h179 | replace h179 := nrm2 h179 | replace h179 := nrm3 h179 | replace h179 := nrm4 h179 | replace h179 := nrm5 h179 | replace h179 := nrm6 h179 | replace h179 := of_decide_eq_true h179 | replace h179 := of_decide_eq_false h179 | skip
                                  refine st_condT S rfl ?_
                                  refine wp_seq ?_
                                  -- region 30 law.go:108
                                  refine wp_region_lit ?_
                                  refine st_y S rfl rfl rfl (y_loadAgg (cs := [_, _, _, _, _, _, _, _, _]) S (by kernel_rfl) rfl rfl (M.cellsAt (k := 9) 0 rfl rfl)) ?_; clear S a; intro a S
                                  refine st_y S rfl rfl rfl (y_build (ps := []) (pl := [(0, 1), (1, 3), (4, 2), (6, 1), (7, 1), (8, 1)]) (z := [.int .i8 0, .int .i64 0, .int .i64 0, .int .i64 0, .int .i64 0, .int .i64 0, .int .i64 0, .int .i64 0, .slice none 0 0]) (cs := [_, _, _, _, _, _, _, _, _]) S (by kernel_rfl) rfl (rfl)) ?_; clear S a; intro a S
                                  refine st_call (xs := [(Operand.tmp 180), (Operand.tmp 181)]) S (enters_of Try.func9 (by decide) rfl) rfl rfl rfl (sameV_any m' Mv.zero _ _ x' [] _ (M.readAll 2 rfl (by unfold maxLen; omega)) (Rd.nil _ _ _ _)) ?_
                                  rintro _ w21 ⟨rfl, hK⟩; refine ⟨_, rfl, ?_⟩; clear S a; intro a S; replace M := M.grow hK
                                  refine st_y S rfl rfl rfl (y_move S rfl) ?_; clear S a; intro a S
                                  refine st_split (t := 183) S rfl ?_ ?_
                                  · clear S; intro h183 S
                                    refine st_call (xs := []) S (enters_of Try.func5 (by decide) rfl) rfl rfl rfl (wakes_any _) ?_
                                    rintro _ w22 ⟨rfl, hK⟩; refine ⟨_, rfl, ?_⟩; clear S a; intro a S; replace M := M.grow hK
                                    refine st_y S rfl rfl rfl (y_pickT S rfl rfl) ?_; clear S a; intro a S
                                    refine st_y S rfl rfl rfl (y_assign S rfl) ?_; clear S a; intro a S
                                    refine wpList_nil ?_
                                    replace S := S.sub [(1, _), (4, _), (6, _), (9, _), (12, _), (13, _), (48, _), (49, _), (50, _), (15, _), (21, _), (22, _), (23, _), (25, _), (177, _), (179, _), (8, _)] rfl
                                    refine then_normal ?_
                                    refine wp_ret ?_
                                    refine then_ret ?_
                                    refine block_ret ?_
                                    refine then_ret ?_
                                    refine then_ret ?_
                                    refine block_ret ?_
                                    refine then_ret ?_
                                    refine end_one S rfl (res_tmp rfl) ?_
                                    exact ⟨rfl, M.below⟩
                                  · clear S; intro h183 S
                                    exfalso
                                    have hb : bb = true := by
                                      cases e : bb with
                                      | true => rfl
                                      | false => have := (G1 e).2.2.2; omega
                                    have hee : g.e ≠ 0 := fun h => by rcases ((G2 hb).2 h).2 with ⟨-, q, -⟩ | ⟨-, q, -⟩ <;> omega
                                    have q := (G2 hb).1 hee
                                    rw [q.1, q.2.1, Mv.same_iff.2 ⟨rfl, rfl⟩] at h183; cases h183
                                · clear S; intro h179 S
                                  first | replace h179 := nrmA h179 | replace h179 := nrmB h179 | skip
                                  first | replace h179 := nrm1 h179 | replace h179 := nrm2 h179 | replace h179 := nrm3 h179 | replace h179 := nrm4 h179 | replace h179 := nrm5 h179 | replace h179 := nrm6 h179 | replace h179 := of_decide_eq_true h179 | replace h179 := of_decide_eq_false h179 | skip
                                  refine st_condF S rfl ?_
                                  refine wp_skip ?_
                                  refine then_normal ?_
                                  refine wp_seq ?_
                                  refine wp_seq ?_
                                  -- region 31 law.go:110
                                  refine wp_region_lit ?_
                                  refine st_y S rfl rfl rfl (y_move S rfl) ?_; clear S a; intro a S
                                  refine wpList_nil ?_
                                  replace S := S.sub [(1, _), (4, _), (6, _), (9, _), (12, _), (13, _), (48, _), (49, _), (50, _), (15, _), (21, _), (22, _), (23, _), (25, _), (177, _), (179, _), (186, _)] rfl
                                  refine then_normal ?_
                                  refine st_split (t := 186) S rfl ?_ ?_
                                  · clear S; intro h186 S
                                    exfalso; rw [h186] at h152; simp at h152
                                  · clear S; intro h186 S
                                    refine st_condF S rfl ?_
                                    refine wp_skip ?_
                                    refine then_normal ?_
                                    refine wp_seq ?_
                                    refine wp_seq ?_
                                    -- region 34 law.go:114
                                    refine wp_region_lit ?_
                                    refine st_y S rfl rfl rfl (y_move S rfl) ?_; clear S a; intro a S
                                    refine st_y S rfl rfl rfl (y_int S rfl rfl rfl) ?_; clear S a; intro a S
                                    refine st_y S rfl rfl rfl (y_move S rfl) ?_; clear S a; intro a S
                                    refine st_y S rfl rfl rfl (y_move S rfl) ?_; clear S a; intro a S
                                    refine st_split (t := 197) S rfl ?_ ?_
                                    · clear S; intro h197 S
                                      exfalso; rw [h197] at h152; simp at h152
                                    · clear S; intro h197 S
                                      refine st_skip 2 S rfl ?_; clear S a; intro a S
                                      refine st_y S rfl rfl rfl (y_pickF S rfl rfl) ?_; clear S a; intro a S
                                      refine st_y S rfl rfl rfl (y_neqBool (by kernel_rfl) S rfl rfl) ?_; clear S a; intro a S
                                      refine st_y S rfl rfl rfl (y_move S rfl) ?_; clear S a; intro a S
                                      refine st_split (t := 202) S rfl ?_ ?_
                                      · clear S; intro h202 S
                                        exfalso
                                        first
                                          | (have hb : bb = false := h186
                                             rw [(G1 hb).2.2.2] at h202; simp at h202; done)
                                          | (have hb : bb = true := h186
                                             have hee : g.e = 0 := by
                                               by_cases h : g.e = 0
                                               · exact h
                                               · have := ((G2 hb).1 h).2.2; omega
                                             rcases ((G2 hb).2 hee).2 with ⟨q1, q2, -⟩ | ⟨q1, q2, -⟩
                                             · rw [q2] at h202; simp at h202; omega
                                             · rw [q2] at h202; simp at h202; omega)
                                      · clear S; intro h202 S
                                        refine st_y S rfl rfl rfl (y_loadAgg (cs := [_, _, _, _, _, _, _, _, _]) S (by kernel_rfl) rfl rfl (M.cellsAt (k := 9) 0 rfl rfl)) ?_; clear S a; intro a S
                                        refine st_call (xs := [(Operand.tmp 203)]) S (enters_of Try.func11 (by decide) rfl) rfl rfl rfl (check_any m' ad2 x'.length cp2 x' _ (M.readAll 2 rfl (by unfold maxLen; omega))) ?_
                                        rintro _ w23 ⟨rfl, hK⟩; refine ⟨_, rfl, ?_⟩; clear S a; intro a S; replace M := M.grow hK
                                        refine st_y S rfl rfl rfl (y_int S rfl rfl rfl) ?_; clear S a; intro a S
                                        refine st_y S rfl rfl rfl (y_pickF S rfl rfl) ?_; clear S a; intro a S
                                        refine wpList_nil ?_
                                        replace S := S.sub [(1, _), (4, _), (6, _), (9, _), (12, _), (13, _), (48, _), (49, _), (50, _), (15, _), (21, _), (22, _), (23, _), (25, _), (177, _), (179, _), (186, _), (206, _)] rfl
                                        refine then_normal ?_
                                        refine st_split (t := 206) S rfl ?_ ?_
                                        · clear S; intro h206 S
                                          first | replace h206 := nrmA h206 | replace h206 := nrmB h206 | skip
                                          first | replace h206 := nrm1 h206 | replace h206 := nrm2 h206 | replace h206 := nrm3 h206 | replace h206 := nrm4 h206 | replace h206 := nrm5 h206 | replace h206 := nrm6 h206 | replace h206 := of_decide_eq_true h206 | replace h206 := of_decide_eq_false h206 | skip
                                          exfalso
                                          have hok : m'.ok x' = true := by
                                            first
                                              | (have hb : bb = false := h186
                                                 rw [(G1 hb).1, (G1 hb).2.1]; exact okA hw hx3)
                                              | (have hb : bb = true := h186
                                                 have hee : g.e = 0 := by
                                                   by_cases h : g.e = 0
                                                   · exact h
                                                   · have := ((G2 hb).1 h).2.2; omega
                                                 have hq := (G2 hb).2 hee
                                                 rcases hq.2 with ⟨q1, -, q2, -⟩ | ⟨q1, -, q2, -⟩
                                                 · rw [q2, hq.1]; exact okC hw (by simp; omega)
                                                 · rw [q2, hq.1]
                                                   have := okA (s := s) (t := t) (f := f) (n := n) (x := x ++ [g.val]) hw (by simp; omega)
                                                   simpa using this)
                                          rw [chk_ok hok] at h206; exact absurd rfl h206
                                        · clear S; intro h206 S
                                          first | replace h206 := nrmA h206 | replace h206 := nrmB h206 | skip
                                          first | replace h206 := nrm1 h206 | replace h206 := nrm2 h206 | replace h206 := nrm3 h206 | replace h206 := nrm4 h206 | replace h206 := nrm5 h206 | replace h206 := nrm6 h206 | replace h206 := of_decide_eq_true h206 | replace h206 := of_decide_eq_false h206 | skip
                                          refine st_condF S rfl ?_
                                          refine wp_skip ?_
                                          refine then_normal ?_
                                          refine wp_seq ?_
                                          refine wp_seq ?_
                                          -- region 36 law.go:117
                                          refine wp_region_lit ?_
                                          refine st_y S rfl rfl rfl (y_move S rfl) ?_; clear S a; intro a S
                                          refine st_y S rfl rfl rfl (y_int S rfl rfl rfl) ?_; clear S a; intro a S
                                          refine wpList_nil ?_
                                          replace S := S.sub [(1, _), (4, _), (6, _), (9, _), (12, _), (13, _), (48, _), (49, _), (50, _), (15, _), (21, _), (22, _), (23, _), (25, _), (177, _), (179, _), (186, _), (206, _), (208, _)] rfl
                                          refine then_normal ?_
                                          refine st_split (t := 208) S rfl ?_ ?_
                                          · clear S; intro h208 S
                                            first | replace h208 := nrmA h208 | replace h208 := nrmB h208 | skip
                                            first | replace h208 := nrm1 h208 | replace h208 := nrm2 h208 | replace h208 := nrm3 h208 | replace h208 := nrm4 h208 | replace h208 := nrm5 h208 | replace h208 := nrm6 h208 | replace h208 := of_decide_eq_true h208 | replace h208 := of_decide_eq_false h208 | skip
                                            exfalso; have := (G1 h186).2.2.2; omega
                                          · clear S; intro h208 S
                                            first | replace h208 := nrmA h208 | replace h208 := nrmB h208 | skip
                                            first | replace h208 := nrm1 h208 | replace h208 := nrm2 h208 | replace h208 := nrm3 h208 | replace h208 := nrm4 h208 | replace h208 := nrm5 h208 | replace h208 := nrm6 h208 | replace h208 := of_decide_eq_true h208 | replace h208 := of_decide_eq_false h208 | skip
                                            refine st_condF S rfl ?_
                                            refine wp_skip ?_
                                            refine then_normal ?_
                                            refine wp_seq ?_
                                            -- region 47 law.go:129
                                            refine wp_region_lit ?_
                                            refine st_y S rfl rfl rfl (y_loadAgg (cs := [_, _, _, _, _, _, _, _, _]) S (by kernel_rfl) rfl rfl (M.cellsAt (k := 9) 0 rfl rfl)) ?_; clear S a; intro a S
                                            refine st_store (sz := 9) (us := [_, _, _, _, _, _, _, _, _]) S M 4 rfl (by kernel_rfl) rfl rfl rfl rfl rfl rfl (by first | decide | (simp; done) | (simp; omega)) ?_; clear M; intro w24 M
                                            simp only [putL, List.set_cons_zero, List.set_cons_succ, Nat.reduceAdd] at M
                                            refine wpList_nil ?_
                                            replace S := S.sub [(1, _), (4, _), (6, _), (9, _), (12, _), (13, _), (48, _), (49, _), (50, _), (15, _), (21, _), (22, _), (23, _), (25, _), (177, _), (179, _), (186, _), (206, _), (208, _)] rfl
                                            refine then_normal ?_
                                            -- region 48 law.go:130
                                            skip
                                            refine wp_region_lit ?_
                                            refine st_y S rfl rfl rfl (y_move S rfl) ?_; clear S a; intro a S
                                            refine st_y S rfl rfl rfl (y_assign S rfl) ?_; clear S a; intro a S
                                            refine wpList_nil ?_
                                            replace S := S.sub [(1, _), (4, _), (6, _), (9, _), (12, _), (13, _), (48, _), (49, _), (50, _), (15, _), (21, _), (22, _), (23, _), (25, _), (177, _), (179, _), (186, _), (206, _), (208, _), (10, _)] rfl
                                            refine block_normal ?_
                                            refine then_normal ?_
                                            -- region 49 law.go:82
                                            refine wp_region_lit ?_
                                            (first | refine st_y S rfl rfl rfl (y_addN S rfl rfl (by omega)) ?_ | refine st_y S rfl rfl rfl (y_int S rfl rfl rfl) ?_); clear S a; intro a S
                                            refine st_y S rfl rfl rfl (y_move S rfl) ?_; clear S a; intro a S
                                            refine wpList_nil ?_
                                            replace S := S.sub [(1, _), (4, _), (6, _), (9, _), (12, _), (13, _), (48, _), (49, _), (15, _), (21, _), (22, _), (23, _), (25, _), (177, _), (179, _), (186, _), (206, _), (208, _), (10, _), (50, _)] rfl
                                            refine then_normal ?_
                                            replace M := M.front 9 rfl
                                            simp only [List.eraseIdx_cons_succ, List.eraseIdx_cons_zero] at M
                                            replace M := M.front 9 rfl
                                            simp only [List.eraseIdx_cons_succ, List.eraseIdx_cons_zero] at M
                                            replace M := M.front 9 rfl
                                            simp only [List.eraseIdx_cons_succ, List.eraseIdx_cons_zero] at M
                                            replace M := M.front 4 rfl
                                            simp only [List.eraseIdx_cons_succ, List.eraseIdx_cons_zero] at M
                                            replace M := M.front 5 rfl
                                            simp only [List.eraseIdx_cons_succ, List.eraseIdx_cons_zero] at M
                                            replace M := M.front 7 rfl
                                            simp only [List.eraseIdx_cons_succ, List.eraseIdx_cons_zero] at M
                                            first
                                              | exact ⟨L.length - (j + 1), by omega, j + 1, x, [execM (mvA s t f n (x.length + 1))], _, _, _, _, _, _, _, _, _, _, _, ⟨by omega, rfl, hx3, by simp⟩, fun y hy => by simpa using hy, S.sub _ rfl, M.six⟩
                                              | exact ⟨L.length - (j + 1), by omega, j + 1, x, ms, _, _, _, _, _, _, _, _, _, _, _, ⟨by omega, rfl, hx3, hms⟩, hall, S.sub _ rfl, M.six⟩
                                              | (obtain ⟨q1, q2, q3, -⟩ := G1 h186
                                                 rw [q1, q2, q3] at M
                                                 rw [q3] at S
                                                 exact ⟨L.length - (j + 1), by omega, j + 1, x, [], _, _, _, _, _, _, _, _, _, _, _, ⟨by omega, rfl, hx3, by simp⟩, fun y hy => by simp at hy, S.sub _ rfl, M.six⟩)
                                              | (have hee : g.e = 0 := by
                                                   by_cases h : g.e = 0
                                                   · exact h
                                                   · have := ((G2 h186).1 h).2.2; omega
                                                 have hk2 := (G2 h186).2 hee
                                                 rcases hk2.2 with ⟨-, q, -⟩ | ⟨q0, -, q1, q3⟩
                                                 · exact absurd q h208
                                                 · rw [q1, hk2.1, q3, ← vcells_append] at M
                                                   rw [q3] at S
                                                   have el : x.length + 1 = (x ++ [g.val]).length := by simp
                                                   rw [el] at M S
                                                   exact ⟨L.length - (j + 1), by omega, j + 1, x ++ [g.val], [execM (mvA s t f n ((x ++ [g.val]).length + 1))], _, _, _, _, _, _, _, _, _, _, _, ⟨by omega, rfl, by simp; omega, by simp⟩, fun y hy => by simpa using hy, S.sub _ rfl, M.six⟩)
                      · clear S; intro h152 S
                        refine st_skip 2 S rfl ?_; clear S a; intro a S
                        refine st_no S rfl rfl rfl ?_; clear S a; intro a S
                        refine st_skip 4 S rfl ?_; clear S a; intro a S
                        refine st_no S rfl rfl rfl ?_; clear S a; intro a S
                        refine st_skip 5 S rfl ?_; clear S a; intro a S
                        refine st_y S rfl rfl rfl (y_pickF S rfl rfl) ?_; clear S a; intro a S
                        refine st_y S rfl rfl rfl (y_move S rfl) ?_; clear S a; intro a S
                        refine st_y S rfl rfl rfl (y_move S rfl) ?_; clear S a; intro a S
                        refine st_y S rfl rfl rfl (y_move S rfl) ?_; clear S a; intro a S
                        refine st_split (t := 169) S rfl ?_ ?_
                        · clear S; intro h169 S
                          refine st_y S rfl rfl rfl (y_move S rfl) ?_; clear S a; intro a S
                          refine st_y S rfl rfl rfl (y_int S rfl rfl rfl) ?_; clear S a; intro a S
                          refine st_y S rfl rfl rfl (y_fieldAddr (k := 19) S (by kernel_rfl) rfl) ?_; clear S a; intro a S
                          refine st_y S rfl rfl rfl (y_load S (by kernel_rfl) rfl (M.cell 3 rfl rfl)) ?_; clear S a; intro a S
                          refine st_y S rfl rfl rfl (y_int S rfl rfl rfl) ?_; clear S a; intro a S
                          refine st_y S rfl rfl rfl (y_neqBool (by kernel_rfl) S rfl rfl) ?_; clear S a; intro a S
                          refine st_y S rfl rfl rfl (y_pickT S rfl rfl) ?_; clear S a; intro a S
                          refine st_y S rfl rfl rfl (y_pickF S rfl rfl) ?_; clear S a; intro a S
                          refine wpList_nil ?_
                          replace S := S.sub [(1, _), (4, _), (6, _), (9, _), (12, _), (13, _), (48, _), (49, _), (50, _), (15, _), (21, _), (22, _), (23, _), (25, _), (177, _)] rfl
                          refine then_normal ?_
                          refine st_split (t := 177) S rfl ?_ ?_
                          · clear S; intro h177 S
                            exfalso
                            first
                              | (simp at h177; done)
                              | (have q := G2 h169
                                 by_cases he : g.e = 0
                                 · rcases (q.2 he).2 with ⟨-, h, -⟩ | ⟨-, h, -⟩ <;> (rw [h, he] at h177; simp at h177)
                                 · rw [(q.1 he).2.2] at h177; simp [he] at h177)
                          · clear S; intro h177 S
                            refine st_condF S rfl ?_
                            refine wp_skip ?_
                            refine then_normal ?_
                            refine wp_seq ?_
                            refine wp_seq ?_
                            -- region 29 law.go:107
                            refine wp_region_lit ?_
                            refine st_y S rfl rfl rfl (y_move S rfl) ?_; clear S a; intro a S
                            refine st_y S rfl rfl rfl (y_int S rfl rfl rfl) ?_; clear S a; intro a S
                            refine wpList_nil ?_
                            replace S := S.sub [(1, _), (4, _), (6, _), (9, _), (12, _), (13, _), (48, _), (49, _), (50, _), (15, _), (21, _), (22, _), (23, _), (25, _), (177, _), (179, _)] rfl
                            refine then_normal ?_
                            refine st_split (t := 179) S rfl ?_ ?_
                            · clear S; intro h179 S
                              first | replace h179 := nrmA h179 | replace h179 := nrmB h179 | skip
                              first | replace h179 := nrm1 h179 | replace h179 := nrm2 h179 | replace h179 := nrm3 h179 | replace h179 := nrm4 h179 | replace h179 := nrm5 h179 | replace h179 := nrm6 h179 | replace h179 := of_decide_eq_true h179 | replace h179 := of_decide_eq_false h179 | skip
                              refine st_condT S rfl ?_
                              refine wp_seq ?_
                              -- region 30 law.go:108
                              refine wp_region_lit ?_
                              refine st_y S rfl rfl rfl (y_loadAgg (cs := [_, _, _, _, _, _, _, _, _]) S (by kernel_rfl) rfl rfl (M.cellsAt (k := 9) 0 rfl rfl)) ?_; clear S a; intro a S
                              refine st_y S rfl rfl rfl (y_build (ps := []) (pl := [(0, 1), (1, 3), (4, 2), (6, 1), (7, 1), (8, 1)]) (z := [.int .i8 0, .int .i64 0, .int .i64 0, .int .i64 0, .int .i64 0, .int .i64 0, .int .i64 0, .int .i64 0, .slice none 0 0]) (cs := [_, _, _, _, _, _, _, _, _]) S (by kernel_rfl) rfl (rfl)) ?_; clear S a; intro a S
                              refine st_call (xs := [(Operand.tmp 180), (Operand.tmp 181)]) S (enters_of Try.func9 (by decide) rfl) rfl rfl rfl (sameV_any m' Mv.zero _ _ x' [] _ (M.readAll 2 rfl (by unfold maxLen; omega)) (Rd.nil _ _ _ _)) ?_
                              rintro _ w25 ⟨rfl, hK⟩; refine ⟨_, rfl, ?_⟩; clear S a; intro a S; replace M := M.grow hK
                              refine st_y S rfl rfl rfl (y_move S rfl) ?_; clear S a; intro a S
                              refine st_split (t := 183) S rfl ?_ ?_
                              · clear S; intro h183 S
                                refine st_call (xs := []) S (enters_of Try.func5 (by decide) rfl) rfl rfl rfl (wakes_any _) ?_
                                rintro _ w26 ⟨rfl, hK⟩; refine ⟨_, rfl, ?_⟩; clear S a; intro a S; replace M := M.grow hK
                                refine st_y S rfl rfl rfl (y_pickT S rfl rfl) ?_; clear S a; intro a S
                                refine st_y S rfl rfl rfl (y_assign S rfl) ?_; clear S a; intro a S
                                refine wpList_nil ?_
                                replace S := S.sub [(1, _), (4, _), (6, _), (9, _), (12, _), (13, _), (48, _), (49, _), (50, _), (15, _), (21, _), (22, _), (23, _), (25, _), (177, _), (179, _), (8, _)] rfl
                                refine then_normal ?_
                                refine wp_ret ?_
                                refine then_ret ?_
                                refine block_ret ?_
                                refine then_ret ?_
                                refine then_ret ?_
                                refine block_ret ?_
                                refine then_ret ?_
                                refine end_one S rfl (res_tmp rfl) ?_
                                exact ⟨rfl, M.below⟩
                              · clear S; intro h183 S
                                exfalso
                                have hb : bb = true := by
                                  cases e : bb with
                                  | true => rfl
                                  | false => have := (G1 e).2.2.2; omega
                                have hee : g.e ≠ 0 := fun h => by rcases ((G2 hb).2 h).2 with ⟨-, q, -⟩ | ⟨-, q, -⟩ <;> omega
                                have q := (G2 hb).1 hee
                                rw [q.1, q.2.1, Mv.same_iff.2 ⟨rfl, rfl⟩] at h183; cases h183
                            · clear S; intro h179 S
                              first | replace h179 := nrmA h179 | replace h179 := nrmB h179 | skip
                              first | replace h179 := nrm1 h179 | replace h179 := nrm2 h179 | replace h179 := nrm3 h179 | replace h179 := nrm4 h179 | replace h179 := nrm5 h179 | replace h179 := nrm6 h179 | replace h179 := of_decide_eq_true h179 | replace h179 := of_decide_eq_false h179 | skip
                              refine st_condF S rfl ?_
                              refine wp_skip ?_
                              refine then_normal ?_
                              refine wp_seq ?_
                              refine wp_seq ?_
                              -- region 31 law.go:110
                              refine wp_region_lit ?_
                              refine st_y S rfl rfl rfl (y_move S rfl) ?_; clear S a; intro a S
                              refine wpList_nil ?_
                              replace S := S.sub [(1, _), (4, _), (6, _), (9, _), (12, _), (13, _), (48, _), (49, _), (50, _), (15, _), (21, _), (22, _), (23, _), (25, _), (177, _), (179, _), (186, _)] rfl
                              refine then_normal ?_
                              refine st_split (t := 186) S rfl ?_ ?_
                              · clear S; intro h186 S
                                refine st_condT S rfl ?_
                                refine wp_seq ?_
                                -- region 32 law.go:111
                                refine wp_region_lit ?_
                                refine st_y S rfl rfl rfl (y_move S rfl) ?_; clear S a; intro a S
                                refine st_y S rfl rfl rfl (y_fieldAddr (k := 11) S (by kernel_rfl) rfl) ?_; clear S a; intro a S
                                refine st_y S rfl rfl rfl (y_loadAgg (cs := [_, _, _, _, _, _, _, _]) S (by kernel_rfl) rfl rfl (M.cellsAt (k := 8) 3 rfl rfl)) ?_; clear S a; intro a S
                                refine st_lit (ps := [(0, (Operand.tmp 189))]) (e := 36) (sz := 8) (zl := [.int .u8 0, .int .u8 0, .int .u8 0, .int .u8 0, .int .u8 0, .int .u8 0, .int .u8 0, .int .u8 0]) (cs := [_, _, _, _, _, _, _, _]) S M rfl rfl (by kernel_rfl) rfl (rfl) ?_; clear S M a; intro a w27 bZ S M hB
                                refine st_append (e := 36) (sz := 8) (by_ := 8) (zc := [.int .u8 0, .int .u8 0, .int .u8 0, .int .u8 0, .int .u8 0, .int .u8 0, .int .u8 0, .int .u8 0]) S M 8 rfl rfl (by kernel_rfl) rfl (by decide) rfl rfl rfl (show Rd _ _ _ 8 _ 1 (vcells [g.val]) from M.sliceAt 0 rfl (M.cellsAt (k := 8) 0 rfl rfl) rfl (Nat.le_refl _) (by unfold maxLen; omega)) (allOne_vcells _) (by omega) (by unfold maxLen; omega) ?_; clear S M a; intro a w28 vA loA hiA S M
                                refine st_y S rfl rfl rfl (y_assign S rfl) ?_; clear S a; intro a S
                                refine wpList_nil ?_
                                replace S := S.sub [(1, _), (4, _), (6, _), (9, _), (12, _), (48, _), (49, _), (50, _), (15, _), (21, _), (22, _), (23, _), (25, _), (177, _), (179, _), (186, _), (13, _)] rfl
                                refine then_normal ?_
                                -- region 33 law.go:112
                                refine wp_region_lit ?_
                                refine st_y S rfl rfl rfl (y_move S rfl) ?_; clear S a; intro a S
                                (first | refine st_y S rfl rfl rfl (y_addN S rfl rfl (by omega)) ?_ | refine st_y S rfl rfl rfl (y_int S rfl rfl rfl) ?_); clear S a; intro a S
                                refine st_y S rfl rfl rfl (y_assign S rfl) ?_; clear S a; intro a S
                                refine wpList_nil ?_
                                replace S := S.sub [(1, _), (4, _), (6, _), (9, _), (48, _), (49, _), (50, _), (15, _), (21, _), (22, _), (23, _), (25, _), (177, _), (179, _), (186, _), (13, _), (12, _)] rfl
                                refine then_normal ?_
                                refine wp_seq ?_
                                refine wp_seq ?_
                                -- region 34 law.go:114
                                refine wp_region_lit ?_
                                refine st_y S rfl rfl rfl (y_move S rfl) ?_; clear S a; intro a S
                                refine st_y S rfl rfl rfl (y_int S rfl rfl rfl) ?_; clear S a; intro a S
                                refine st_y S rfl rfl rfl (y_move S rfl) ?_; clear S a; intro a S
                                refine st_y S rfl rfl rfl (y_move S rfl) ?_; clear S a; intro a S
                                refine st_split (t := 197) S rfl ?_ ?_
                                · clear S; intro h197 S
                                  refine st_y S rfl rfl rfl (y_move S rfl) ?_; clear S a; intro a S
                                  refine st_y S rfl rfl rfl (y_int S rfl rfl rfl) ?_; clear S a; intro a S
                                  refine st_y S rfl rfl rfl (y_pickT S rfl rfl) ?_; clear S a; intro a S
                                  refine st_y S rfl rfl rfl (y_neqBool (by kernel_rfl) S rfl rfl) ?_; clear S a; intro a S
                                  refine st_y S rfl rfl rfl (y_move S rfl) ?_; clear S a; intro a S
                                  refine st_split (t := 202) S rfl ?_ ?_
                                  · clear S; intro h202 S
                                    exfalso
                                    first
                                      | (have hb : bb = false := h186
                                         rw [(G1 hb).2.2.2] at h202; simp at h202; done)
                                      | (have hb : bb = true := h186
                                         have hee : g.e = 0 := by
                                           by_cases h : g.e = 0
                                           · exact h
                                           · have := ((G2 hb).1 h).2.2; omega
                                         rcases ((G2 hb).2 hee).2 with ⟨q1, q2, -⟩ | ⟨q1, q2, -⟩
                                         · rw [q2] at h202; simp at h202; omega
                                         · rw [q2] at h202; simp at h202; omega)
                                  · clear S; intro h202 S
                                    refine st_y S rfl rfl rfl (y_loadAgg (cs := [_, _, _, _, _, _, _, _, _]) S (by kernel_rfl) rfl rfl (M.cellsAt (k := 9) 2 rfl rfl)) ?_; clear S a; intro a S
                                    refine st_call (xs := [(Operand.tmp 203)]) S (enters_of Try.func11 (by decide) rfl) rfl rfl rfl (check_any m' ad2 x'.length cp2 x' _ (M.readAll 4 rfl (by unfold maxLen; omega))) ?_
                                    rintro _ w29 ⟨rfl, hK⟩; refine ⟨_, rfl, ?_⟩; clear S a; intro a S; replace M := M.grow hK
                                    refine st_y S rfl rfl rfl (y_int S rfl rfl rfl) ?_; clear S a; intro a S
                                    refine st_y S rfl rfl rfl (y_pickF S rfl rfl) ?_; clear S a; intro a S
                                    refine wpList_nil ?_
                                    replace S := S.sub [(1, _), (4, _), (6, _), (9, _), (48, _), (49, _), (50, _), (15, _), (21, _), (22, _), (23, _), (25, _), (177, _), (179, _), (186, _), (13, _), (12, _), (206, _)] rfl
                                    refine then_normal ?_
                                    refine st_split (t := 206) S rfl ?_ ?_
                                    · clear S; intro h206 S
                                      first | replace h206 := nrmA h206 | replace h206 := nrmB h206 | skip
                                      first | replace h206 := nrm1 h206 | replace h206 := nrm2 h206 | replace h206 := nrm3 h206 | replace h206 := nrm4 h206 | replace h206 := nrm5 h206 | replace h206 := nrm6 h206 | replace h206 := of_decide_eq_true h206 | replace h206 := of_decide_eq_false h206 | skip
                                      exfalso
                                      have hok : m'.ok x' = true := by
                                        first
                                          | (have hb : bb = false := h186
                                             rw [(G1 hb).1, (G1 hb).2.1]; exact okA hw hx3)
                                          | (have hb : bb = true := h186
                                             have hee : g.e = 0 := by
                                               by_cases h : g.e = 0
                                               · exact h
                                               · have := ((G2 hb).1 h).2.2; omega
                                             have hq := (G2 hb).2 hee
                                             rcases hq.2 with ⟨q1, -, q2, -⟩ | ⟨q1, -, q2, -⟩
                                             · rw [q2, hq.1]; exact okC hw (by simp; omega)
                                             · rw [q2, hq.1]
                                               have := okA (s := s) (t := t) (f := f) (n := n) (x := x ++ [g.val]) hw (by simp; omega)
                                               simpa using this)
                                      rw [chk_ok hok] at h206; exact absurd rfl h206
                                    · clear S; intro h206 S
                                      first | replace h206 := nrmA h206 | replace h206 := nrmB h206 | skip
                                      first | replace h206 := nrm1 h206 | replace h206 := nrm2 h206 | replace h206 := nrm3 h206 | replace h206 := nrm4 h206 | replace h206 := nrm5 h206 | replace h206 := nrm6 h206 | replace h206 := of_decide_eq_true h206 | replace h206 := of_decide_eq_false h206 | skip
                                      refine st_condF S rfl ?_
                                      refine wp_skip ?_
                                      refine then_normal ?_
                                      refine wp_seq ?_
                                      refine wp_seq ?_
                                      -- region 36 law.go:117
                                      refine wp_region_lit ?_
                                      refine st_y S rfl rfl rfl (y_move S rfl) ?_; clear S a; intro a S
                                      refine st_y S rfl rfl rfl (y_int S rfl rfl rfl) ?_; clear S a; intro a S
                                      refine wpList_nil ?_
                                      replace S := S.sub [(1, _), (4, _), (6, _), (9, _), (48, _), (49, _), (50, _), (15, _), (21, _), (22, _), (23, _), (25, _), (177, _), (179, _), (186, _), (13, _), (12, _), (206, _), (208, _)] rfl
                                      refine then_normal ?_
                                      refine st_split (t := 208) S rfl ?_ ?_
                                      · clear S; intro h208 S
                                        first | replace h208 := nrmA h208 | replace h208 := nrmB h208 | skip
                                        first | replace h208 := nrm1 h208 | replace h208 := nrm2 h208 | replace h208 := nrm3 h208 | replace h208 := nrm4 h208 | replace h208 := nrm5 h208 | replace h208 := nrm6 h208 | replace h208 := of_decide_eq_true h208 | replace h208 := of_decide_eq_false h208 | skip
                                        refine st_condT S rfl ?_
                                        refine wp_seq ?_
                                        -- region 37 law.go:118
                                        have hee : g.e = 0 := by
                                          by_cases h : g.e = 0
                                          · exact h
                                          · have := ((G2 h186).1 h).2.2; omega
                                        have hk2 := (G2 h186).2 hee
                                        have hmc : m' = mvC s t f n ∧ x.length = 3 := by
                                          rcases hk2.2 with ⟨q1, -, q3, -⟩ | ⟨-, q2, -⟩
                                          · exact ⟨q3, q1⟩
                                          · omega
                                        have hx'l : x'.length = 4 := by rw [hk2.1]; simp; omega
                                        have hwr : wrM m' x' = wrsF s 0 x' := by
                                          unfold wrM; rw [hmc.1, if_pos ⟨rfl, okC hw hx'l⟩]; rfl
                                        have hwl : (wrsF s 0 x').length = 4 := by rw [wrsF_len, hx'l]
                                        refine wp_region_lit ?_
                                        refine st_y S rfl rfl rfl (y_loadAgg (cs := [_, _, _, _, _, _, _, _, _]) S (by kernel_rfl) rfl rfl (M.cellsAt (k := 9) 2 rfl rfl)) ?_; clear S a; intro a S
                                        refine st_call (xs := [(Operand.tmp 209)]) S (enters_of Try.func12 (by decide) rfl) rfl rfl rfl (writesM_any m' ad2 x'.length cp2 x' _ (M.readAll 4 rfl (by unfold maxLen; omega))) ?_
                                        rintro _ w30 ⟨v', rfl, hF⟩; refine ⟨_, rfl, ?_⟩; clear S a; intro a S
                                        have hK := hF.below
                                        rw [hwr] at hF
                                        obtain ⟨wad, wcp, hE, -, -⟩ := (hF.rd (by rw [hwl]; unfold maxLen; omega)).form
                                        subst hE
                                        obtain ⟨lo7, hi7, -, M⟩ := M.pushFresh hF
                                        refine st_y S rfl rfl rfl (y_assign S rfl) ?_; clear S a; intro a S
                                        refine wpList_nil ?_
                                        replace S := S.sub [(1, _), (4, _), (6, _), (9, _), (48, _), (49, _), (50, _), (15, _), (21, _), (22, _), (23, _), (25, _), (177, _), (179, _), (186, _), (13, _), (12, _), (206, _), (208, _), (26, _)] rfl
                                        refine then_normal ?_
                                        refine wp_seq ?_
                                        refine wp_seq ?_
                                        -- region 38 law.go:119
                                        refine wp_region_lit ?_
                                        refine st_y S rfl rfl rfl (y_move S rfl) ?_; clear S a; intro a S
                                        refine st_y S rfl rfl rfl (y_lenS (E := 48) S rfl (by kernel_rfl)) ?_; clear S a; intro a S
                                        refine st_y S rfl rfl rfl (y_int S rfl rfl rfl) ?_; clear S a; intro a S
                                        refine wpList_nil ?_
                                        replace S := S.sub [(1, _), (4, _), (6, _), (9, _), (48, _), (49, _), (50, _), (15, _), (21, _), (22, _), (23, _), (25, _), (177, _), (179, _), (186, _), (13, _), (12, _), (206, _), (208, _), (26, _), (213, _)] rfl
                                        refine then_normal ?_
                                        refine st_split (t := 213) S rfl ?_ ?_
                                        · clear S; intro h213 S
                                          first | replace h213 := nrmA h213 | replace h213 := nrmB h213 | skip
                                          first | replace h213 := nrm1 h213 | replace h213 := nrm2 h213 | replace h213 := nrm3 h213 | replace h213 := nrm4 h213 | replace h213 := nrm5 h213 | replace h213 := nrm6 h213 | replace h213 := of_decide_eq_true h213 | replace h213 := of_decide_eq_false h213 | skip
                                          exfalso; rw [hwl] at h213; exact absurd rfl h213
                                        · clear S; intro h213 S
                                          first | replace h213 := nrmA h213 | replace h213 := nrmB h213 | skip
                                          first | replace h213 := nrm1 h213 | replace h213 := nrm2 h213 | replace h213 := nrm3 h213 | replace h213 := nrm4 h213 | replace h213 := nrm5 h213 | replace h213 := nrm6 h213 | replace h213 := of_decide_eq_true h213 | replace h213 := of_decide_eq_false h213 | skip
                                          refine st_condF S rfl ?_
                                          refine wp_skip ?_
                                          refine then_normal ?_
                                          refine wp_seq ?_
                                          refine wp_seq ?_
                                          -- region 40 law.go:122
                                          refine wp_region_lit ?_
                                          refine st_y S rfl rfl rfl (y_move S rfl) ?_; clear S a; intro a S
                                          refine st_y S rfl rfl rfl (y_lenS (E := 48) S rfl (by kernel_rfl)) ?_; clear S a; intro a S
                                          refine st_y S rfl rfl rfl (y_move S rfl) ?_; clear S a; intro a S
                                          refine wpList_nil ?_
                                          replace S := S.sub [(1, _), (4, _), (6, _), (9, _), (48, _), (49, _), (50, _), (15, _), (21, _), (22, _), (23, _), (25, _), (177, _), (179, _), (186, _), (13, _), (12, _), (206, _), (208, _), (26, _), (213, _), (215, _), (216, _)] rfl
                                          refine then_normal ?_
                                          refine wp_block ?_
                                          refine wp_loop_g (fun q a w' => ∃ (i : Nat), (i ≤ 4 ∧ q = 4 - i) ∧ Sees 254 a [(4, .pointer (some ⟨bC, 0, none⟩)), (13, vA), (26, .slice wad (wrsF s 0 x').length wcp), (215, .int .i64 ((wrsF s 0 x').length : Int)), (216, .int .i64 (i : Int))] ∧ Mem w w' [rowE lo7 hi7 48 9 (.slice wad (wrsF s 0 x').length wcp) (wrsF s 0 x').length (wcells (wrsF s 0 x')), rowE loA hiA 36 8 vA (x.length + 1) (vcells x ++ vcells [g.val]), .blk bC #[.int .i64 s, .int .i64 t] 23]) (4) ?_ ?_
                                          · skip
                                            replace M := M.front 11 rfl
                                            simp only [List.eraseIdx_cons_succ, List.eraseIdx_cons_zero] at M
                                            replace M := M.front 2 rfl
                                            simp only [List.eraseIdx_cons_succ, List.eraseIdx_cons_zero] at M
                                            replace M := M.front 2 rfl
                                            simp only [List.eraseIdx_cons_succ, List.eraseIdx_cons_zero] at M
                                            exact ⟨0, ⟨by omega, rfl⟩, S.sub _ rfl, M.sub (by simp)⟩
                                          · clear S M a; intro m a wl
                                            rintro ⟨i, ⟨hi', rfl⟩, S, M⟩
                                            refine wp_seq ?_
                                            -- region 41 law.go:122
                                            refine wp_region_lit ?_
                                            refine st_y S rfl rfl rfl (y_int S rfl rfl rfl) ?_; clear S a; intro a S
                                            refine wpList_nil ?_
                                            replace S := S.sub [(4, _), (13, _), (26, _), (215, _), (216, _), (217, _)] rfl
                                            refine then_normal ?_
                                            refine wp_seq ?_
                                            refine st_split (t := 217) S rfl ?_ ?_
                                            · clear S; intro h217 S
                                              first | replace h217 := nrmA h217 | replace h217 := nrmB h217 | skip
                                              first | replace h217 := nrm1 h217 | replace h217 := nrm2 h217 | replace h217 := nrm3 h217 | replace h217 := nrm4 h217 | replace h217 := nrm5 h217 | replace h217 := nrm6 h217 | replace h217 := of_decide_eq_true h217 | replace h217 := of_decide_eq_false h217 | skip
                                              refine st_condT S rfl ?_
                                              refine wp_skip ?_
                                              refine then_normal ?_
                                              refine wp_seq ?_
                                              refine wp_block ?_
                                              refine wp_seq ?_
                                              -- region 42 law.go:122
                                              refine wp_region_lit ?_
                                              refine st_y S rfl rfl rfl (y_move S rfl) ?_; clear S a; intro a S
                                              refine st_y S rfl rfl rfl (y_assign S rfl) ?_; clear S a; intro a S
                                              refine wpList_nil ?_
                                              replace S := S.sub [(4, _), (13, _), (26, _), (215, _), (216, _), (217, _), (27, _)] rfl
                                              refine then_normal ?_
                                              refine wp_seq ?_
                                              -- region 43 law.go:123
                                              obtain ⟨z, hz⟩ : ∃ z, x'[i]? = some z := ⟨_, List.getElem?_eq_getElem (by omega)⟩
                                              have hzw := wrsF_get s (b := 0) hz
                                              rw [Nat.zero_add] at hzw
                                              have hzx : (x ++ [g.val])[i]? = some z := by rw [← hk2.1]; exact hz
                                              refine wp_quiet M (by kernel_rfl) (by kernel_rfl) ?_
                                              refine qt_y S rfl rfl rfl (fun w M => y_move S rfl) ?_; clear S a; intro a S
                                              refine qt_y S rfl rfl rfl (fun w M => y_move S rfl) ?_; clear S a; intro a S
                                              refine qt_y S rfl rfl rfl (fun w M => y_indexR (e := 48) (sz := 9) S (by kernel_rfl) rfl ((M.readRow 0 rfl (by rw [hwl]; unfold maxLen; omega))) rfl (by first | omega | (simp; done) | (simp; omega))) ?_; clear S a; intro a S
                                              try simp only [Int.toNat_natCast, Nat.mul_one, Nat.zero_add] at S
                                              refine qt_y S rfl rfl rfl (fun w M => y_fieldAddr (k := 0) S (by kernel_rfl) rfl) ?_; clear S a; intro a S
                                              refine qt_y S rfl rfl rfl (fun w M => y_load S (by kernel_rfl) rfl ((M.readRow 0 rfl (by rw [hwl]; unfold maxLen; omega)).at_.row (i := i) (wcells_get hzw) rfl 0 (by simp))) ?_; clear S a; intro a S
                                              refine qt_y S rfl rfl rfl (fun w M => y_fieldAddr (k := 0) S (by kernel_rfl) rfl) ?_; clear S a; intro a S
                                              refine qt_y S rfl rfl rfl (fun w M => y_load S (by kernel_rfl) rfl (M.cell 2 rfl rfl)) ?_; clear S a; intro a S
                                              (first | refine qt_y S rfl rfl rfl (fun w M => y_mulN S rfl rfl (by omega)) ?_ | refine qt_y S rfl rfl rfl (fun w M => y_int S rfl rfl rfl) ?_); clear S a; intro a S
                                              refine qt_y S rfl rfl rfl (fun w M => y_move S rfl) ?_; clear S a; intro a S
                                              (first | refine qt_y S rfl rfl rfl (fun w M => y_addN S rfl rfl (by omega)) ?_ | refine qt_y S rfl rfl rfl (fun w M => y_int S rfl rfl rfl) ?_); clear S a; intro a S
                                              refine qt_y S rfl rfl rfl (fun w M => y_int S rfl rfl rfl) ?_; clear S a; intro a S
                                              refine qt_y S rfl rfl rfl (fun w M => y_move S rfl) ?_; clear S a; intro a S
                                              refine st_split (t := 230) S rfl ?_ ?_
                                              · clear S; intro h230 S
                                                first | replace h230 := nrmA h230 | replace h230 := nrmB h230 | skip
                                                first | replace h230 := nrm1 h230 | replace h230 := nrm2 h230 | replace h230 := nrm3 h230 | replace h230 := nrm4 h230 | replace h230 := nrm5 h230 | replace h230 := nrm6 h230 | replace h230 := of_decide_eq_true h230 | replace h230 := of_decide_eq_false h230 | skip
                                                exfalso; first | exact absurd rfl h230 | (simp only at h230; omega)
                                              · clear S; intro h230 S
                                                first | replace h230 := nrmA h230 | replace h230 := nrmB h230 | skip
                                                first | replace h230 := nrm1 h230 | replace h230 := nrm2 h230 | replace h230 := nrm3 h230 | replace h230 := nrm4 h230 | replace h230 := nrm5 h230 | replace h230 := nrm6 h230 | replace h230 := of_decide_eq_true h230 | replace h230 := of_decide_eq_false h230 | skip
                                                refine qt_y S rfl rfl rfl (fun w M => y_move S rfl) ?_; clear S a; intro a S
                                                refine qt_y S rfl rfl rfl (fun w M => y_move S rfl) ?_; clear S a; intro a S
                                                refine qt_y S rfl rfl rfl (fun w M => y_indexR (e := 48) (sz := 9) S (by kernel_rfl) rfl ((M.readRow 0 rfl (by rw [hwl]; unfold maxLen; omega))) rfl (by first | omega | (simp; done) | (simp; omega))) ?_; clear S a; intro a S
                                                try simp only [Int.toNat_natCast, Nat.mul_one, Nat.zero_add] at S
                                                refine qt_y S rfl rfl rfl (fun w M => y_fieldAddr (k := 1) S (by kernel_rfl) rfl) ?_; clear S a; intro a S
                                                refine qt_y S rfl rfl rfl (fun w M => y_loadAgg S (by kernel_rfl) rfl rfl (((M.readRow 0 rfl (by rw [hwl]; unfold maxLen; omega)).at_.row (i := i) (wcells_get hzw) rfl).tl)) ?_; clear S a; intro a S
                                                refine qt_y S rfl rfl rfl (fun w M => y_move S rfl) ?_; clear S a; intro a S
                                                refine qt_y S rfl rfl rfl (fun w M => y_move S rfl) ?_; clear S a; intro a S
                                                refine qt_y S rfl rfl rfl (fun w M => y_indexR (e := 36) (sz := 8) S (by kernel_rfl) rfl ((M.readRow 1 rfl (by unfold maxLen; omega))) rfl (by first | omega | (simp; done) | (simp; omega))) ?_; clear S a; intro a S
                                                try simp only [Int.toNat_natCast, Nat.mul_one, Nat.zero_add] at S
                                                refine qt_y S rfl rfl rfl (fun w M => y_loadAgg S (by kernel_rfl) rfl rfl ((M.readRow 1 rfl (by unfold maxLen; omega)).at_.row (i := i) (es := z.cellsL) (by rw [← vcells_append]; exact vcells_get hzx) rfl)) ?_; clear S a; intro a S
                                                refine qt_y S rfl rfl rfl (fun w M => y_neqG (by kernel_rfl) S rfl rfl (fun w => equalV8 9998 ⟨_, _, _, _, _, _, _, _⟩ ⟨_, _, _, _, _, _, _, _⟩ w)) ?_; clear S a; intro a S
                                                refine qt_y S rfl rfl rfl (fun w M => y_pickF S rfl rfl) ?_; clear S a; intro a S
                                                refine wpQuiet_nil ?_; clear M; intro w31 M
                                                replace S := S.sub [(4, _), (13, _), (26, _), (215, _), (216, _), (217, _), (27, _), (241, _)] rfl
                                                refine then_normal ?_
                                                refine st_split (t := 241) S rfl ?_ ?_
                                                · clear S; intro h241 S
                                                  exfalso; have e : (!z.eqb z) = true := h241; rw [V8.eqb_iff.2 rfl] at e; simp at e
                                                · clear S; intro h241 S
                                                  refine st_condF S rfl ?_
                                                  refine wp_skip ?_
                                                  refine block_normal ?_
                                                  refine then_normal ?_
                                                  -- region 45 law.go:122
                                                  refine wp_region_lit ?_
                                                  (first | refine st_y S rfl rfl rfl (y_addN S rfl rfl (by omega)) ?_ | refine st_y S rfl rfl rfl (y_int S rfl rfl rfl) ?_); clear S a; intro a S
                                                  refine st_y S rfl rfl rfl (y_move S rfl) ?_; clear S a; intro a S
                                                  refine wpList_nil ?_
                                                  replace S := S.sub [(4, _), (13, _), (26, _), (215, _), (217, _), (27, _), (241, _), (216, _)] rfl
                                                  refine then_normal ?_
                                                  exact ⟨4 - (i + 1), by omega, i + 1, ⟨by omega, rfl⟩, S.sub _ rfl, M⟩
                                            · clear S; intro h217 S
                                              first | replace h217 := nrmA h217 | replace h217 := nrmB h217 | skip
                                              first | replace h217 := nrm1 h217 | replace h217 := nrm2 h217 | replace h217 := nrm3 h217 | replace h217 := nrm4 h217 | replace h217 := nrm5 h217 | replace h217 := nrm6 h217 | replace h217 := of_decide_eq_true h217 | replace h217 := of_decide_eq_false h217 | skip
                                              refine st_condF S rfl ?_
                                              refine wp_exit ?_
                                              refine then_exit ?_
                                              refine then_exit ?_
                                              refine block_hit ?_
                                              refine then_normal ?_
                                              refine wp_seq ?_
                                              -- region 46 law.go:127
                                              refine wp_region_lit ?_
                                              refine st_call (xs := []) S (enters_of Try.func5 (by decide) rfl) rfl rfl rfl (wakes_any _) ?_
                                              rintro _ w32 ⟨rfl, hK⟩; refine ⟨_, rfl, ?_⟩; clear S a; intro a S; replace M := M.grow hK
                                              refine st_y S rfl rfl rfl (y_assign S rfl) ?_; clear S a; intro a S
                                              refine wpList_nil ?_
                                              replace S := S.sub [(4, _), (13, _), (26, _), (215, _), (216, _), (217, _), (8, _)] rfl
                                              refine then_normal ?_
                                              refine wp_ret ?_
                                              refine then_ret ?_
                                              refine block_ret ?_
                                              refine then_ret ?_
                                              refine then_ret ?_
                                              refine block_ret ?_
                                              refine then_ret ?_
                                              refine end_one S rfl (res_tmp rfl) ?_
                                              exact ⟨rfl, M.below⟩
                                      · clear S; intro h208 S
                                        first | replace h208 := nrmA h208 | replace h208 := nrmB h208 | skip
                                        first | replace h208 := nrm1 h208 | replace h208 := nrm2 h208 | replace h208 := nrm3 h208 | replace h208 := nrm4 h208 | replace h208 := nrm5 h208 | replace h208 := nrm6 h208 | replace h208 := of_decide_eq_true h208 | replace h208 := of_decide_eq_false h208 | skip
                                        refine st_condF S rfl ?_
                                        refine wp_skip ?_
                                        refine then_normal ?_
                                        refine wp_seq ?_
                                        -- region 47 law.go:129
                                        refine wp_region_lit ?_
                                        refine st_y S rfl rfl rfl (y_loadAgg (cs := [_, _, _, _, _, _, _, _, _]) S (by kernel_rfl) rfl rfl (M.cellsAt (k := 9) 2 rfl rfl)) ?_; clear S a; intro a S
                                        refine st_store (sz := 9) (us := [_, _, _, _, _, _, _, _, _]) S M 6 rfl (by kernel_rfl) rfl rfl rfl rfl rfl rfl (by first | decide | (simp; done) | (simp; omega)) ?_; clear M; intro w33 M
                                        simp only [putL, List.set_cons_zero, List.set_cons_succ, Nat.reduceAdd] at M
                                        refine wpList_nil ?_
                                        replace S := S.sub [(1, _), (4, _), (6, _), (9, _), (48, _), (49, _), (50, _), (15, _), (21, _), (22, _), (23, _), (25, _), (177, _), (179, _), (186, _), (13, _), (12, _), (206, _), (208, _)] rfl
                                        refine then_normal ?_
                                        -- region 48 law.go:130
                                        skip
                                        refine wp_region_lit ?_
                                        refine st_y S rfl rfl rfl (y_move S rfl) ?_; clear S a; intro a S
                                        refine st_y S rfl rfl rfl (y_assign S rfl) ?_; clear S a; intro a S
                                        refine wpList_nil ?_
                                        replace S := S.sub [(1, _), (4, _), (6, _), (9, _), (48, _), (49, _), (50, _), (15, _), (21, _), (22, _), (23, _), (25, _), (177, _), (179, _), (186, _), (13, _), (12, _), (206, _), (208, _), (10, _)] rfl
                                        refine block_normal ?_
                                        refine then_normal ?_
                                        -- region 49 law.go:82
                                        refine wp_region_lit ?_
                                        (first | refine st_y S rfl rfl rfl (y_addN S rfl rfl (by omega)) ?_ | refine st_y S rfl rfl rfl (y_int S rfl rfl rfl) ?_); clear S a; intro a S
                                        refine st_y S rfl rfl rfl (y_move S rfl) ?_; clear S a; intro a S
                                        refine wpList_nil ?_
                                        replace S := S.sub [(1, _), (4, _), (6, _), (9, _), (48, _), (49, _), (15, _), (21, _), (22, _), (23, _), (25, _), (177, _), (179, _), (186, _), (13, _), (12, _), (206, _), (208, _), (10, _), (50, _)] rfl
                                        refine then_normal ?_
                                        replace M := M.front 10 rfl
                                        simp only [List.eraseIdx_cons_succ, List.eraseIdx_cons_zero] at M
                                        replace M := M.front 10 rfl
                                        simp only [List.eraseIdx_cons_succ, List.eraseIdx_cons_zero] at M
                                        replace M := M.front 2 rfl
                                        simp only [List.eraseIdx_cons_succ, List.eraseIdx_cons_zero] at M
                                        replace M := M.front 5 rfl
                                        simp only [List.eraseIdx_cons_succ, List.eraseIdx_cons_zero] at M
                                        replace M := M.front 6 rfl
                                        simp only [List.eraseIdx_cons_succ, List.eraseIdx_cons_zero] at M
                                        replace M := M.front 8 rfl
                                        simp only [List.eraseIdx_cons_succ, List.eraseIdx_cons_zero] at M
                                        first
                                          | exact ⟨L.length - (j + 1), by omega, j + 1, x, [execM (mvA s t f n (x.length + 1))], _, _, _, _, _, _, _, _, _, _, _, ⟨by omega, rfl, hx3, by simp⟩, fun y hy => by simpa using hy, S.sub _ rfl, M.six⟩
                                          | exact ⟨L.length - (j + 1), by omega, j + 1, x, ms, _, _, _, _, _, _, _, _, _, _, _, ⟨by omega, rfl, hx3, hms⟩, hall, S.sub _ rfl, M.six⟩
                                          | (obtain ⟨q1, q2, q3, -⟩ := G1 h186
                                             rw [q1, q2, q3] at M
                                             rw [q3] at S
                                             exact ⟨L.length - (j + 1), by omega, j + 1, x, [], _, _, _, _, _, _, _, _, _, _, _, ⟨by omega, rfl, hx3, by simp⟩, fun y hy => by simp at hy, S.sub _ rfl, M.six⟩)
                                          | (have hee : g.e = 0 := by
                                               by_cases h : g.e = 0
                                               · exact h
                                               · have := ((G2 h186).1 h).2.2; omega
                                             have hk2 := (G2 h186).2 hee
                                             rcases hk2.2 with ⟨-, q, -⟩ | ⟨q0, -, q1, q3⟩
                                             · exact absurd q h208
                                             · rw [q1, hk2.1, q3, ← vcells_append] at M
                                               rw [q3] at S
                                               have el : x.length + 1 = (x ++ [g.val]).length := by simp
                                               rw [el] at M S
                                               exact ⟨L.length - (j + 1), by omega, j + 1, x ++ [g.val], [execM (mvA s t f n ((x ++ [g.val]).length + 1))], _, _, _, _, _, _, _, _, _, _, _, ⟨by omega, rfl, by simp; omega, by simp⟩, fun y hy => by simpa using hy, S.sub _ rfl, M.six⟩)
                                · clear S; intro h197 S
                                  exfalso; rw [h197] at h152; simp at h152
                              · clear S; intro h186 S
                                exfalso; rw [h186] at h152; simp at h152
                        · clear S; intro h169 S
                          exfalso; rw [h169] at h152; simp at h152
        · clear S; intro h51 S
          first | replace h51 := nrmA h51 | replace h51 := nrmB h51 | skip
          first | replace h51 := nrm1 h51 | replace h51 := nrm2 h51 | replace h51 := nrm3 h51 | replace h51 := nrm4 h51 | replace h51 := nrm5 h51 | replace h51 := nrm6 h51 | replace h51 := of_decide_eq_true h51 | replace h51 := of_decide_eq_false h51 | skip
          refine st_condF S rfl ?_
          refine wp_exit ?_
          refine then_exit ?_
          refine then_exit ?_
          refine block_hit ?_
          refine then_normal ?_
          refine wp_seq ?_
          -- region 50 law.go:132
          refine wp_region_lit ?_
          refine st_y S rfl rfl rfl (y_loadAgg (cs := [_, _, _, _, _, _, _, _, _]) S (by kernel_rfl) rfl rfl (M.cellsAt (k := 9) 0 rfl rfl)) ?_; clear S a; intro a S
          refine st_call (xs := [(Operand.tmp 247)]) S (enters_of Try.func12 (by decide) rfl) rfl rfl rfl (writesM_any (mvA s t f n (x.length + 1)) ad x.length cp x _ (M.readAll 1 rfl (by unfold maxLen; omega))) ?_
          rintro _ w34 ⟨v', rfl, hF⟩; refine ⟨_, rfl, ?_⟩; clear S a; intro a S
          have hK := hF.below
          rw [show wrM (mvA s t f n (x.length + 1)) x = [] by unfold wrM; rw [if_neg (fun h => absurd h.1 (by simp [mvA]))]] at hF
          obtain ⟨wad, wcp, hE, -, -⟩ := (hF.rd (by unfold maxLen; simp)).form
          subst hE
          replace M := M.grow hK
          refine st_y S rfl rfl rfl (y_lenS (E := 48) S rfl (by kernel_rfl)) ?_; clear S a; intro a S
          refine st_y S rfl rfl rfl (y_int S rfl rfl rfl) ?_; clear S a; intro a S
          refine st_y S rfl rfl rfl (y_move S rfl) ?_; clear S a; intro a S
          refine st_split (t := 251) S rfl ?_ ?_
          · clear S; intro h251 S
            first | replace h251 := nrmA h251 | replace h251 := nrmB h251 | skip
            first | replace h251 := nrm1 h251 | replace h251 := nrm2 h251 | replace h251 := nrm3 h251 | replace h251 := nrm4 h251 | replace h251 := nrm5 h251 | replace h251 := nrm6 h251 | replace h251 := of_decide_eq_true h251 | replace h251 := of_decide_eq_false h251 | skip
            refine st_call (xs := []) S (enters_of Try.func5 (by decide) rfl) rfl rfl rfl (wakes_any _) ?_
            rintro _ w35 ⟨rfl, hK⟩; refine ⟨_, rfl, ?_⟩; clear S a; intro a S; replace M := M.grow hK
            refine st_y S rfl rfl rfl (y_pickT S rfl rfl) ?_; clear S a; intro a S
            refine st_y S rfl rfl rfl (y_assign S rfl) ?_; clear S a; intro a S
            refine wpList_nil ?_
            replace S := S.sub [(1, _), (4, _), (6, _), (9, _), (10, _), (12, _), (13, _), (48, _), (49, _), (50, _), (51, _), (8, _)] rfl
            refine then_normal ?_
            refine wp_ret ?_
            refine end_one S rfl (res_tmp rfl) ?_
            exact ⟨rfl, M.below⟩
          · clear S; intro h251 S
            first | replace h251 := nrmA h251 | replace h251 := nrmB h251 | skip
            first | replace h251 := nrm1 h251 | replace h251 := nrm2 h251 | replace h251 := nrm3 h251 | replace h251 := nrm4 h251 | replace h251 := nrm5 h251 | replace h251 := nrm6 h251 | replace h251 := of_decide_eq_true h251 | replace h251 := of_decide_eq_false h251 | skip
            simp at h251

theorem asksL_any (s t f : Int) (n : Nm) (v : Value) (cs : List Value) (L : List (Msg × List Wr)) (w : World) (hv : MsC cs 0 w.heap.size w v L) :
    Calls Try.prog 3 #[.agg #[.int .i64 s, .int .i64 t], .int .i64 f, .agg n.cells, v] w fun e w' => e = .returned (.bool true) ∧ Below w.heap.size w w' := by
  cases h : wayB s t f n with
  | true => exact asks_any s t f n v cs L w hv h
  | false => exact asksNo_any s t f n v cs L w hv h

end Go.Proofs.Ytgocjpcmjljeoaa
