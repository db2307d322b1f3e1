/-
  Package cashboxlaw17: EpochOld, EpochMeets; epoch.Stamp.
-/
import Derived.Test.YtdcihmdchabcnaaEb
import Derived.Test.YtdcihmdchabcnaaFb
import Derived.Test.YtdcihmdchabcnaaClw
namespace Go.Proofs.Ytdcihmdchabcnaa
open Go.RowKit Go.Sort

/-- what is heard, where it is heard -/
theorem hear_ok {k : Kn} {m : Msg} {x : List Wr} (hk : k.may = true) (hm : m.may x = true) (ht : m.to = k.node) :
    ∃ (F : Nat) (o : Kn) (how : Int), m.frm = (F : Int) ∧ F < 5 ∧ hearK k m x = (o, how, 0) ∧ ((m.inc < k.of F ∨ (m.your ≠ 0 ∧ m.your ≠ k.inc)) → how = 0 ∧ o = k) ∧ (¬ (m.inc < k.of F ∨ (m.your ≠ 0 ∧ m.your ≠ k.inc)) → 0 < how ∧ o.of F = m.inc) := by
  have hf := may_frm hm
  obtain ⟨F, hF⟩ := Int.eq_ofNat_of_zero_le hf.1.1
  have hF5 : F < 5 := by omega
  have hFt : m.frm.toNat = F := by rw [hF]; rfl
  by_cases ho : m.inc < k.of F ∨ (m.your ≠ 0 ∧ m.your ≠ k.inc)
  · refine ⟨F, k, 0, hF, hF5, ?_, fun _ => ⟨rfl, rfl⟩, fun h => absurd ho h⟩
    unfold hearK; rw [if_pos ⟨hk, hm, ht⟩, hFt, if_pos ho]
  · refine ⟨F, k.set F m.inc, if m.inc = k.of F then 1 else if k.of F = 0 then 2 else 3, hF, hF5, ?_, fun h => absurd h ho, fun _ => ⟨?_, ?_⟩⟩
    · unfold hearK; rw [if_pos ⟨hk, hm, ht⟩, hFt, if_neg ho]
    · split <;> (try split) <;> omega
    · rw [Kn.of_set hF5 hF5, if_pos rfl]

theorem old_any (k : Kn) (m : Msg) (va : Option Addr) (vn vc : Nat) (x : List Wr) (w : World) (hv : Ws 0 w.heap.size w (.slice va vn vc) x) :
    Calls Try.prog 4 #[.agg k.cells, .agg (m.cells (.slice va vn vc))] w fun e w' => e = .returned (.bool true) ∧ Below w.heap.size w w' := by
  have M := Mem.start w
  refine calls_enter Try.func4 rfl 89 rfl rfl ?_; intro a S
  refine wp_seq ?_
  -- region 0 law.go:81
  refine wp_region_lit ?_
  refine st_box S M rfl rfl rfl #[_, _, _, _, _, _, _] rfl ?_; clear S M a; intro a w1 bK S M hB
  refine st_box S M rfl rfl rfl #[_, _, _, _, _, _, _, _, _, _, _, _, _, _, _, _, _, _, _, _, _, _, _, _] rfl ?_; clear S M a; intro a w2 bG S M hB
  refine st_y S rfl rfl rfl (y_assign S rfl) ?_; clear S a; intro a S
  refine wpList_nil ?_
  replace S := S.sub [(0, _), (1, _), (2, _), (3, _), (4, _)] rfl
  refine then_normal ?_
  refine wp_seq ?_
  refine wp_seq ?_
  -- region 1 law.go:82
  refine wp_region_lit ?_
  refine st_y S rfl rfl rfl (y_loadAgg (cs := [_, _, _, _, _, _, _, _, _, _, _, _, _, _, _, _, _, _, _, _, _, _, _, _]) S (by kernel_rfl) rfl rfl (M.cellsAt (k := 24) 0 rfl rfl)) ?_; clear S a; intro a S
  refine st_call (xs := [(Operand.tmp 9)]) S (enters_of Try.func8 (by decide) rfl) rfl rfl rfl (great15_any m _ _ _ _) ?_
  rintro _ w3 ⟨rfl, hK⟩; refine ⟨_, rfl, ?_⟩; clear S a; intro a S; replace M := M.grow hK
  refine st_y S rfl rfl rfl (y_move S rfl) ?_; clear S a; intro a S
  refine st_split (t := 11) S rfl ?_ ?_
  · clear S; intro h11 S
    first | replace h11 := nrmA h11 | replace h11 := nrmB h11 | skip
    first | replace h11 := nrm1 h11 | replace h11 := nrm2 h11 | replace h11 := nrm3 h11 | replace h11 := nrm4 h11 | replace h11 := nrm5 h11 | replace h11 := nrm6 h11 | replace h11 := of_decide_eq_true h11 | replace h11 := of_decide_eq_false h11 | skip
    refine st_skip 3 S rfl ?_; clear S a; intro a S
    refine st_y S rfl rfl rfl (y_pickT S rfl rfl) ?_; clear S a; intro a S
    refine st_y S rfl rfl rfl (y_move S rfl) ?_; clear S a; intro a S
    refine st_skip 3 S rfl ?_; clear S a; intro a S
    refine st_y S rfl rfl rfl (y_pickT S rfl rfl) ?_; clear S a; intro a S
    refine st_y S rfl rfl rfl (y_move S rfl) ?_; clear S a; intro a S
    refine st_skip 5 S rfl ?_; clear S a; intro a S
    refine st_y S rfl rfl rfl (y_pickT S rfl rfl) ?_; clear S a; intro a S
    refine wpList_nil ?_
    replace S := S.sub [(0, _), (1, _), (2, _), (3, _), (4, _), (27, _)] rfl
    refine then_normal ?_
    refine st_condT S rfl ?_
    refine wp_seq ?_
    -- region 2 law.go:83
    refine wp_region_lit ?_
    refine st_call (xs := []) S (enters_of Try.func7 (by decide) rfl) rfl rfl rfl (wakes_any _) ?_
    rintro _ w4 ⟨rfl, hK⟩; refine ⟨_, rfl, ?_⟩; clear S a; intro a S; replace M := M.grow hK
    refine st_y S rfl rfl rfl (y_assign S rfl) ?_; clear S a; intro a S
    refine wpList_nil ?_
    replace S := S.sub [(0, _), (1, _), (2, _), (3, _), (27, _), (4, _)] rfl
    refine then_normal ?_
    refine wp_ret ?_
    refine then_ret ?_
    refine end_one S rfl (res_tmp rfl) ?_
    exact ⟨rfl, M.below⟩
  · clear S; intro h11 S
    first | replace h11 := nrmA h11 | replace h11 := nrmB h11 | skip
    first | replace h11 := nrm1 h11 | replace h11 := nrm2 h11 | replace h11 := nrm3 h11 | replace h11 := nrm4 h11 | replace h11 := nrm5 h11 | replace h11 := nrm6 h11 | replace h11 := of_decide_eq_true h11 | replace h11 := of_decide_eq_false h11 | skip
    refine st_y S rfl rfl rfl (y_loadAgg (cs := [_, _, _, _, _, _, _]) S (by kernel_rfl) rfl rfl (M.cellsAt (k := 7) 1 rfl rfl)) ?_; clear S a; intro a S
    refine st_call (xs := [(Operand.tmp 12)]) S (enters_of Try.func6 (by decide) rfl) rfl rfl rfl (mayK_any k _) ?_
    rintro _ w5 ⟨rfl, hK⟩; refine ⟨_, rfl, ?_⟩; clear S a; intro a S; replace M := M.grow hK
    refine st_y S rfl rfl rfl (y_not S rfl) ?_; clear S a; intro a S
    refine st_y S rfl rfl rfl (y_pickF S rfl rfl) ?_; clear S a; intro a S
    refine st_y S rfl rfl rfl (y_move S rfl) ?_; clear S a; intro a S
    refine st_split (t := 16) S rfl ?_ ?_
    · clear S; intro h16 S
      refine st_skip 3 S rfl ?_; clear S a; intro a S
      refine st_y S rfl rfl rfl (y_pickT S rfl rfl) ?_; clear S a; intro a S
      refine st_y S rfl rfl rfl (y_move S rfl) ?_; clear S a; intro a S
      refine st_skip 5 S rfl ?_; clear S a; intro a S
      refine st_y S rfl rfl rfl (y_pickT S rfl rfl) ?_; clear S a; intro a S
      refine wpList_nil ?_
      replace S := S.sub [(0, _), (1, _), (2, _), (3, _), (4, _), (27, _)] rfl
      refine then_normal ?_
      refine st_condT S rfl ?_
      refine wp_seq ?_
      -- region 2 law.go:83
      refine wp_region_lit ?_
      refine st_call (xs := []) S (enters_of Try.func7 (by decide) rfl) rfl rfl rfl (wakes_any _) ?_
      rintro _ w6 ⟨rfl, hK⟩; refine ⟨_, rfl, ?_⟩; clear S a; intro a S; replace M := M.grow hK
      refine st_y S rfl rfl rfl (y_assign S rfl) ?_; clear S a; intro a S
      refine wpList_nil ?_
      replace S := S.sub [(0, _), (1, _), (2, _), (3, _), (27, _), (4, _)] rfl
      refine then_normal ?_
      refine wp_ret ?_
      refine then_ret ?_
      refine end_one S rfl (res_tmp rfl) ?_
      exact ⟨rfl, M.below⟩
    · clear S; intro h16 S
      refine st_y S rfl rfl rfl (y_loadAgg (cs := [_, _, _, _, _, _, _, _, _, _, _, _, _, _, _, _, _, _, _, _, _, _, _, _]) S (by kernel_rfl) rfl rfl (M.cellsAt (k := 24) 0 rfl rfl)) ?_; clear S a; intro a S
      refine st_call (xs := [(Operand.tmp 17)]) S (enters_of Try.func10 (by decide) rfl) rfl rfl rfl (fMay_any m va vn vc x _ (M.argW hv)) ?_
      rintro _ w7 ⟨rfl, hK⟩; refine ⟨_, rfl, ?_⟩; clear S a; intro a S; replace M := M.grow hK
      refine st_y S rfl rfl rfl (y_not S rfl) ?_; clear S a; intro a S
      refine st_y S rfl rfl rfl (y_pickF S rfl rfl) ?_; clear S a; intro a S
      refine st_y S rfl rfl rfl (y_move S rfl) ?_; clear S a; intro a S
      refine st_split (t := 21) S rfl ?_ ?_
      · clear S; intro h21 S
        refine st_skip 5 S rfl ?_; clear S a; intro a S
        refine st_y S rfl rfl rfl (y_pickT S rfl rfl) ?_; clear S a; intro a S
        refine wpList_nil ?_
        replace S := S.sub [(0, _), (1, _), (2, _), (3, _), (4, _), (27, _)] rfl
        refine then_normal ?_
        refine st_condT S rfl ?_
        refine wp_seq ?_
        -- region 2 law.go:83
        refine wp_region_lit ?_
        refine st_call (xs := []) S (enters_of Try.func7 (by decide) rfl) rfl rfl rfl (wakes_any _) ?_
        rintro _ w8 ⟨rfl, hK⟩; refine ⟨_, rfl, ?_⟩; clear S a; intro a S; replace M := M.grow hK
        refine st_y S rfl rfl rfl (y_assign S rfl) ?_; clear S a; intro a S
        refine wpList_nil ?_
        replace S := S.sub [(0, _), (1, _), (2, _), (3, _), (27, _), (4, _)] rfl
        refine then_normal ?_
        refine wp_ret ?_
        refine then_ret ?_
        refine end_one S rfl (res_tmp rfl) ?_
        exact ⟨rfl, M.below⟩
      · clear S; intro h21 S
        refine st_y S rfl rfl rfl (y_fieldAddr (k := 2) S (by kernel_rfl) rfl) ?_; clear S a; intro a S
        refine st_y S rfl rfl rfl (y_load S (by kernel_rfl) rfl (M.cell 0 rfl rfl)) ?_; clear S a; intro a S
        refine st_y S rfl rfl rfl (y_fieldAddr (k := 0) S (by kernel_rfl) rfl) ?_; clear S a; intro a S
        refine st_y S rfl rfl rfl (y_load S (by kernel_rfl) rfl (M.cell 1 rfl rfl)) ?_; clear S a; intro a S
        refine st_y S rfl rfl rfl (y_int S rfl rfl rfl) ?_; clear S a; intro a S
        refine st_y S rfl rfl rfl (y_pickF S rfl rfl) ?_; clear S a; intro a S
        refine wpList_nil ?_
        replace S := S.sub [(0, _), (1, _), (2, _), (3, _), (4, _), (27, _)] rfl
        refine then_normal ?_
        refine st_split (t := 27) S rfl ?_ ?_
        · clear S; intro h27 S
          first | replace h27 := nrmA h27 | replace h27 := nrmB h27 | skip
          first | replace h27 := nrm1 h27 | replace h27 := nrm2 h27 | replace h27 := nrm3 h27 | replace h27 := nrm4 h27 | replace h27 := nrm5 h27 | replace h27 := nrm6 h27 | replace h27 := of_decide_eq_true h27 | replace h27 := of_decide_eq_false h27 | skip
          refine st_condT S rfl ?_
          refine wp_seq ?_
          -- region 2 law.go:83
          refine wp_region_lit ?_
          refine st_call (xs := []) S (enters_of Try.func7 (by decide) rfl) rfl rfl rfl (wakes_any _) ?_
          rintro _ w9 ⟨rfl, hK⟩; refine ⟨_, rfl, ?_⟩; clear S a; intro a S; replace M := M.grow hK
          refine st_y S rfl rfl rfl (y_assign S rfl) ?_; clear S a; intro a S
          refine wpList_nil ?_
          replace S := S.sub [(0, _), (1, _), (2, _), (3, _), (27, _), (4, _)] rfl
          refine then_normal ?_
          refine wp_ret ?_
          refine then_ret ?_
          refine end_one S rfl (res_tmp rfl) ?_
          exact ⟨rfl, M.below⟩
        · clear S; intro h27 S
          first | replace h27 := nrmA h27 | replace h27 := nrmB h27 | skip
          first | replace h27 := nrm1 h27 | replace h27 := nrm2 h27 | replace h27 := nrm3 h27 | replace h27 := nrm4 h27 | replace h27 := nrm5 h27 | replace h27 := nrm6 h27 | replace h27 := of_decide_eq_true h27 | replace h27 := of_decide_eq_false h27 | skip
          refine st_condF S rfl ?_
          refine wp_skip ?_
          refine then_normal ?_
          refine wp_seq ?_
          -- region 3 law.go:85
          have hk : k.may = true := by simpa using h16
          have hm : m.may x = true := by simpa using h21
          obtain ⟨F, o, how, hF, hF5, hq, Q1, Q2⟩ := hear_ok hk hm (by omega)
          refine wp_region_lit ?_
          refine st_y S rfl rfl rfl (y_loadAgg (cs := [_, _, _, _, _, _, _]) S (by kernel_rfl) rfl rfl (M.cellsAt (k := 7) 1 rfl rfl)) ?_; clear S a; intro a S
          refine st_y S rfl rfl rfl (y_loadAgg (cs := [_, _, _, _, _, _, _, _, _, _, _, _, _, _, _, _, _, _, _, _, _, _, _, _]) S (by kernel_rfl) rfl rfl (M.cellsAt (k := 24) 0 rfl rfl)) ?_; clear S a; intro a S
          refine st_call (xs := [(Operand.tmp 30), (Operand.tmp 31)]) S (enters_of Try.func9 (by decide) rfl) rfl rfl rfl (hear_any k m va vn vc x _ (M.argW hv)) ?_
          rintro _ w10 ⟨rfl, hK⟩; refine ⟨_, rfl, ?_⟩; clear S a; intro a S; replace M := M.grow hK
          rw [hq] at S
          refine st_y S rfl rfl rfl (y_move S rfl) ?_; clear S a; intro a S
          refine st_y S rfl rfl rfl (y_extract S rfl rfl) ?_; clear S a; intro a S
          refine st_y S rfl rfl rfl (y_extract S rfl rfl) ?_; clear S a; intro a S
          refine st_y S rfl rfl rfl (y_extract S rfl rfl) ?_; clear S a; intro a S
          refine st_alloc S M rfl rfl #[.int .i64 0, .int .i64 0, .int .i64 0, .int .i64 0, .int .i64 0, .int .i64 0, .int .i64 0] (by kernel_rfl) ?_; clear S M a; intro a w11 bO S M hB
          refine st_store (sz := 7) (us := [_, _, _, _, _, _, _]) S M 0 rfl (by kernel_rfl) rfl rfl rfl rfl rfl rfl (by first | decide | (simp; done) | (simp; omega)) ?_; clear M; intro w12 M
          simp only [putL, List.set_cons_zero, List.set_cons_succ, Nat.reduceAdd] at M
          refine st_y S rfl rfl rfl (y_assign S rfl) ?_; clear S a; intro a S
          refine st_y S rfl rfl rfl (y_assign S rfl) ?_; clear S a; intro a S
          refine wpList_nil ?_
          replace S := S.sub [(0, _), (1, _), (2, _), (3, _), (4, _), (27, _), (5, _), (6, _), (7, _)] rfl
          refine then_normal ?_
          refine wp_seq ?_
          -- region 4 law.go:86
          obtain ⟨mk, fr, mt, mi, my, mn, mnn, mop, mb, mv, me, mye, mg, mtk⟩ := m
          simp only at hF Q1 Q2
          subst hF
          refine wp_quiet M (by kernel_rfl) (by kernel_rfl) ?_
          refine qt_y S rfl rfl rfl (fun w M => y_fieldAddr (k := 3) S (by kernel_rfl) rfl) ?_; clear S a; intro a S
          refine qt_y S rfl rfl rfl (fun w M => y_load S (by kernel_rfl) rfl (M.cell 1 rfl rfl)) ?_; clear S a; intro a S
          refine qt_y S rfl rfl rfl (fun w M => y_fieldAddr (k := 1) S (by kernel_rfl) rfl) ?_; clear S a; intro a S
          refine qt_y S rfl rfl rfl (fun w M => y_load S (by kernel_rfl) rfl (M.cell 1 rfl rfl)) ?_; clear S a; intro a S
          refine qt_y S rfl rfl rfl (fun w M => y_fieldAddr (k := 2) S (by kernel_rfl) rfl) ?_; clear S a; intro a S
          refine qt_y S rfl rfl rfl (fun w M => y_indexA (m := 5) (sz := 1) S (by kernel_rfl) rfl rfl (by first | omega | (simp; done) | (simp; omega))) ?_; clear S a; intro a S
          try simp only [Int.toNat_natCast, Nat.mul_one, Nat.zero_add] at S
          refine qt_y S rfl rfl rfl (fun w M => y_load S (by kernel_rfl) rfl (M.cell 2 rfl (kn_get (k := k) (by omega)))) ?_; clear S a; intro a S
          refine qt_y S rfl rfl rfl (fun w M => y_int S rfl rfl rfl) ?_; clear S a; intro a S
          refine qt_y S rfl rfl rfl (fun w M => y_move S rfl) ?_; clear S a; intro a S
          refine st_split (t := 44) S rfl ?_ ?_
          · clear S; intro h44 S
            first | replace h44 := nrmA h44 | replace h44 := nrmB h44 | skip
            first | replace h44 := nrm1 h44 | replace h44 := nrm2 h44 | replace h44 := nrm3 h44 | replace h44 := nrm4 h44 | replace h44 := nrm5 h44 | replace h44 := nrm6 h44 | replace h44 := of_decide_eq_true h44 | replace h44 := of_decide_eq_false h44 | skip
            refine qt_skip 3 S rfl ?_; clear S a; intro a S
            refine qt_no S rfl rfl rfl ?_; clear S a; intro a S
            refine qt_skip 6 S rfl ?_; clear S a; intro a S
            refine qt_y S rfl rfl rfl (fun w M => y_pickT S rfl rfl) ?_; clear S a; intro a S
            refine qt_y S rfl rfl rfl (fun w M => y_assign S rfl) ?_; clear S a; intro a S
            refine wpQuiet_nil ?_; clear M; intro w13 M
            replace S := S.sub [(0, _), (1, _), (2, _), (3, _), (4, _), (27, _), (5, _), (6, _), (7, _), (8, _)] rfl
            refine then_normal ?_
            refine wp_seq ?_
            -- region 5 law.go:87
            refine wp_regionK [] #[false, false, false, false, false, false, false, false, false, false, false, false, false, false, false, false, false, false, false, false, false, false, false, false, false, false, false, false, false, false, false, false, false, false] rfl M (by kernel_rfl) ?_; clear M; intro w14 M
            refine k_pure (listed' := #[true, false, false, false, false, false, false, false, false, false, false, false, false, false, false, false, false, false, false, false, false, false, false, false, false, false, false, false, false, false, false, false, false, false]) 0 S rfl rfl rfl rfl (by kernel_rfl) rfl (fun _ d _ _ _ h => by cases d <;> exact h) (fun w => y_move S rfl) ?_; clear S a; intro a S
            refine k_pure (listed' := #[true, true, false, false, false, false, false, false, false, false, false, false, false, false, false, false, false, false, false, false, false, false, false, false, false, false, false, false, false, false, false, false, false, false]) 1 S rfl rfl rfl rfl (by kernel_rfl) rfl (fun _ d _ _ _ h => by cases d <;> exact h) (fun w => y_int S rfl rfl rfl) ?_; clear S a; intro a S
            refine k_pure (listed' := #[true, true, true, false, false, false, false, false, false, false, false, false, false, false, false, false, false, false, false, false, false, false, false, false, false, false, false, false, false, false, false, false, false, false]) 2 S rfl rfl rfl rfl (by kernel_rfl) rfl (fun _ d _ _ _ h => by cases d <;> exact h) (fun w => y_move S rfl) ?_; clear S a; intro a S
            refine st_split (t := 58) S rfl ?_ ?_
            · clear S; intro h58 S
              first | replace h58 := nrmA h58 | replace h58 := nrmB h58 | skip
              first | replace h58 := nrm1 h58 | replace h58 := nrm2 h58 | replace h58 := nrm3 h58 | replace h58 := nrm4 h58 | replace h58 := nrm5 h58 | replace h58 := nrm6 h58 | replace h58 := of_decide_eq_true h58 | replace h58 := of_decide_eq_false h58 | skip
              refine k_pure (listed' := #[true, true, true, true, false, false, false, false, false, false, false, false, false, false, false, false, false, false, false, false, false, false, false, false, false, false, false, false, false, false, false, false, false, false]) 3 S rfl rfl rfl rfl (by kernel_rfl) rfl (fun _ d _ _ _ h => by cases d <;> exact h) (fun w => y_move S rfl) ?_; clear S a; intro a S
              refine k_pure (listed' := #[true, true, true, true, true, false, false, false, false, false, false, false, false, false, false, false, false, false, false, false, false, false, false, false, false, false, false, false, false, false, false, false, false, false]) 4 S rfl rfl rfl rfl (by kernel_rfl) rfl (fun _ d _ _ _ h => by cases d <;> exact h) (fun w => y_int S rfl rfl rfl) ?_; clear S a; intro a S
              refine k_pure (listed' := #[true, true, true, true, true, true, false, false, false, false, false, false, false, false, false, false, false, false, false, false, false, false, false, false, false, false, false, false, false, false, false, false, false, false]) 5 S rfl rfl rfl rfl (by kernel_rfl) rfl (fun _ d _ _ _ h => by cases d <;> exact h) (fun w => y_move S rfl) ?_; clear S a; intro a S
              refine k_pure (listed' := #[true, true, true, true, true, true, true, false, false, false, false, false, false, false, false, false, false, false, false, false, false, false, false, false, false, false, false, false, false, false, false, false, false, false]) 6 S rfl rfl rfl rfl (by kernel_rfl) rfl (fun _ d _ _ _ h => by cases d <;> exact h) (fun w => y_eqlBool (by kernel_rfl) S rfl rfl) ?_; clear S a; intro a S
              refine k_pure (listed' := #[true, true, true, true, true, true, true, true, false, false, false, false, false, false, false, false, false, false, false, false, false, false, false, false, false, false, false, false, false, false, false, false, false, false]) 7 S rfl rfl rfl rfl (by kernel_rfl) rfl (fun _ d _ _ _ h => by cases d <;> exact h) (fun w => y_pickT S rfl rfl) ?_; clear S a; intro a S
              refine k_pure (listed' := #[true, true, true, true, true, true, true, true, true, false, false, false, false, false, false, false, false, false, false, false, false, false, false, false, false, false, false, false, false, false, false, false, false, false]) 8 S rfl rfl rfl rfl (by kernel_rfl) rfl (fun _ d _ _ _ h => by cases d <;> exact h) (fun w => y_move S rfl) ?_; clear S a; intro a S
              refine st_split (t := 64) S rfl ?_ ?_
              · clear S; intro h64 S
                refine k_pure (listed' := #[true, true, true, true, true, true, true, true, true, true, false, false, false, false, false, false, false, false, false, false, false, false, false, false, false, false, false, false, false, false, false, false, false, false]) 9 S rfl rfl rfl rfl (by kernel_rfl) rfl (fun _ d _ _ _ h => by cases d <;> exact h) (fun w => y_move S rfl) ?_; clear S a; intro a S
                refine k_pure (listed' := #[true, true, true, true, true, true, true, true, true, true, true, false, false, false, false, false, false, false, false, false, false, false, false, false, false, false, false, false, false, false, false, false, false, false]) 10 S rfl rfl rfl rfl (by kernel_rfl) rfl (fun _ d _ _ _ h => by cases d <;> exact h) (fun w => y_not S rfl) ?_; clear S a; intro a S
                refine k_pure (listed' := #[true, true, true, true, true, true, true, true, true, true, true, true, false, false, false, false, false, false, false, false, false, false, false, false, false, false, false, false, false, false, false, false, false, false]) 11 S rfl rfl rfl rfl (by kernel_rfl) rfl (fun _ d _ _ _ h => by cases d <;> exact h) (fun w => y_move S rfl) ?_; clear S a; intro a S
                refine k_read (listed' := #[true, true, true, true, true, true, true, true, true, true, true, true, true, false, false, false, false, false, false, false, false, false, false, false, false, false, false, false, false, false, false, false, false, false]) 12 S rfl rfl rfl rfl (by kernel_rfl) rfl (fun _ d _ _ _ h => by cases d <;> exact h) (fun w hW => have M := M.grow hW; y_loadAgg (cs := [_, _, _, _, _, _, _]) S (by kernel_rfl) rfl rfl (M.cellsAt (k := 7) 0 rfl rfl)) ?_; clear S a; intro a S
                refine k_read (listed' := #[true, true, true, true, true, true, true, true, true, true, true, true, true, true, false, false, false, false, false, false, false, false, false, false, false, false, false, false, false, false, false, false, false, false]) 13 S rfl rfl rfl rfl (by kernel_rfl) rfl (fun _ d _ _ _ h => by cases d <;> exact h) (fun w hW => have M := M.grow hW; y_loadAgg (cs := [_, _, _, _, _, _, _]) S (by kernel_rfl) rfl rfl (M.cellsAt (k := 7) 2 rfl rfl)) ?_; clear S a; intro a S
                refine k_pure (listed' := #[true, true, true, true, true, true, true, true, true, true, true, true, true, true, true, false, false, false, false, false, false, false, false, false, false, false, false, false, false, false, false, false, false, false]) 14 S rfl rfl rfl rfl (by kernel_rfl) rfl (fun _ d _ _ _ h => by cases d <;> exact h) (fun w => y_eqlG (by kernel_rfl) S rfl rfl (fun w => equalKn 9997 o k w)) ?_; clear S a; intro a S
                refine k_pure (listed' := #[true, true, true, true, true, true, true, true, true, true, true, true, true, true, true, true, false, false, false, false, false, false, false, false, false, false, false, false, false, false, false, false, false, false]) 15 S rfl rfl rfl rfl (by kernel_rfl) rfl (fun _ d _ _ _ h => by cases d <;> exact h) (fun w => y_pickF S rfl rfl) ?_; clear S a; intro a S
                refine k_pure (listed' := #[true, true, true, true, true, true, true, true, true, true, true, true, true, true, true, true, true, false, false, false, false, false, false, false, false, false, false, false, false, false, false, false, false, false]) 16 S rfl rfl rfl rfl (by kernel_rfl) rfl (fun _ d _ _ _ h => by cases d <;> exact h) (fun w => y_pickT S rfl rfl) ?_; clear S a; intro a S
                refine k_pure (listed' := #[true, true, true, true, true, true, true, true, true, true, true, true, true, true, true, true, true, true, false, false, false, false, false, false, false, false, false, false, false, false, false, false, false, false]) 17 S rfl rfl rfl rfl (by kernel_rfl) rfl (fun _ d _ _ _ h => by cases d <;> exact h) (fun w => y_move S rfl) ?_; clear S a; intro a S
                refine st_split (t := 73) S rfl ?_ ?_
                · clear S; intro h73 S
                  refine k_pure (listed' := #[true, true, true, true, true, true, true, true, true, true, true, true, true, true, true, true, true, true, true, false, false, false, false, false, false, false, false, false, false, false, false, false, false, false]) 18 S rfl rfl rfl rfl (by kernel_rfl) rfl (fun _ d _ _ _ h => by cases d <;> exact h) (fun w => y_move S rfl) ?_; clear S a; intro a S
                  refine k_pure (listed' := #[true, true, true, true, true, true, true, true, true, true, true, true, true, true, true, true, true, true, true, true, false, false, false, false, false, false, false, false, false, false, false, false, false, false]) 19 S rfl rfl rfl rfl (by kernel_rfl) rfl (fun _ d _ _ _ h => by cases d <;> exact h) (fun w => y_move S rfl) ?_; clear S a; intro a S
                  refine k_no (listed' := #[true, true, true, true, true, true, true, true, true, true, true, true, true, true, true, true, true, true, true, true, true, false, false, false, false, false, false, false, false, false, false, false, false, false]) 20 S rfl rfl rfl rfl (by kernel_rfl) rfl (fun _ d _ _ _ h => by cases d <;> exact h) ?_; clear S a; intro a S
                  refine k_no (listed' := #[true, true, true, true, true, true, true, true, true, true, true, true, true, true, true, true, true, true, true, true, true, true, false, false, false, false, false, false, false, false, false, false, false, false]) 21 S rfl rfl rfl rfl (by kernel_rfl) rfl (fun _ d _ _ _ h => by cases d <;> exact h) ?_; clear S a; intro a S
                  refine k_no (listed' := #[true, true, true, true, true, true, true, true, true, true, true, true, true, true, true, true, true, true, true, true, true, true, true, false, false, false, false, false, false, false, false, false, false, false]) 22 S rfl rfl rfl rfl (by kernel_rfl) rfl (fun _ d _ _ _ h => by cases d <;> exact h) ?_; clear S a; intro a S
                  refine k_no (listed' := #[true, true, true, true, true, true, true, true, true, true, true, true, true, true, true, true, true, true, true, true, true, true, true, true, false, false, false, false, false, false, false, false, false, false]) 23 S rfl rfl rfl rfl (by kernel_rfl) rfl (fun _ d _ _ _ h => by cases d <;> exact h) ?_; clear S a; intro a S
                  refine k_no (listed' := #[true, true, true, true, true, true, true, true, true, true, true, true, true, true, true, true, true, true, true, true, true, true, true, true, true, false, false, false, false, false, false, false, false, false]) 24 S rfl rfl rfl rfl (by kernel_rfl) rfl (fun _ d _ _ _ h => by cases d <;> exact h) ?_; clear S a; intro a S
                  refine k_no (listed' := #[true, true, true, true, true, true, true, true, true, true, true, true, true, true, true, true, true, true, true, true, true, true, true, true, true, true, false, false, false, false, false, false, false, false]) 25 S rfl rfl rfl rfl (by kernel_rfl) rfl (fun _ d _ _ _ h => by cases d <;> exact h) ?_; clear S a; intro a S
                  refine k_no (listed' := #[true, true, true, true, true, true, true, true, true, true, true, true, true, true, true, true, true, true, true, true, true, true, true, true, true, true, true, false, false, false, false, false, false, false]) 26 S rfl rfl rfl rfl (by kernel_rfl) rfl (fun _ d _ _ _ h => by cases d <;> exact h) ?_; clear S a; intro a S
                  refine k_no (listed' := #[true, true, true, true, true, true, true, true, true, true, true, true, true, true, true, true, true, true, true, true, true, true, true, true, true, true, true, true, false, false, false, false, false, false]) 27 S rfl rfl rfl rfl (by kernel_rfl) rfl (fun _ d _ _ _ h => by cases d <;> exact h) ?_; clear S a; intro a S
                  refine k_pure (listed' := #[true, true, true, true, true, true, true, true, true, true, true, true, true, true, true, true, true, true, true, true, true, true, true, true, true, true, true, true, true, false, false, false, false, false]) 28 S rfl rfl rfl rfl (by kernel_rfl) rfl (fun _ d _ _ _ h => by cases d <;> exact h) (fun w => y_pickT S rfl rfl) ?_; clear S a; intro a S
                  refine k_pure (listed' := #[true, true, true, true, true, true, true, true, true, true, true, true, true, true, true, true, true, true, true, true, true, true, true, true, true, true, true, true, true, true, false, false, false, false]) 29 S rfl rfl rfl rfl (by kernel_rfl) rfl (fun _ d _ _ _ h => by cases d <;> exact h) (fun w => y_pickT S rfl rfl) ?_; clear S a; intro a S
                  refine k_pure (listed' := #[true, true, true, true, true, true, true, true, true, true, true, true, true, true, true, true, true, true, true, true, true, true, true, true, true, true, true, true, true, true, true, false, false, false]) 30 S rfl rfl rfl rfl (by kernel_rfl) rfl (fun _ d _ _ _ h => by cases d <;> exact h) (fun w => y_move S rfl) ?_; clear S a; intro a S
                  refine k_one (listed' := #[true, true, true, true, true, true, true, true, true, true, true, true, true, true, true, true, true, true, true, true, true, true, true, true, true, true, true, true, true, true, true, true, false, false]) 31 rfl (by kernel_rfl) rfl ?_
                  refine st_call (xs := []) S (enters_of Try.func7 (by decide) rfl) rfl rfl rfl (wakes_any _) ?_
                  rintro _ w15 ⟨rfl, hK⟩; refine ⟨_, rfl, ?_⟩; clear S a; intro a S; replace M := M.grow hK
                  refine wpList_nil ?_; refine then_normal ?_; refine ⟨fun _ => hK, ?_⟩
                  refine k_pure (listed' := #[true, true, true, true, true, true, true, true, true, true, true, true, true, true, true, true, true, true, true, true, true, true, true, true, true, true, true, true, true, true, true, true, true, false]) 32 S rfl rfl rfl rfl (by kernel_rfl) rfl (fun _ d _ _ _ h => by cases d <;> exact h) (fun w => y_pickT S rfl rfl) ?_; clear S a; intro a S
                  refine k_pure (listed' := #[true, true, true, true, true, true, true, true, true, true, true, true, true, true, true, true, true, true, true, true, true, true, true, true, true, true, true, true, true, true, true, true, true, true]) 33 S rfl rfl rfl rfl (by kernel_rfl) rfl (fun _ d _ _ _ h => by cases d <;> exact h) (fun w => y_assign S rfl) ?_; clear S a; intro a S
                  refine k_end (by kernel_rfl) ?_
                  replace S := S.sub [(0, _), (1, _), (2, _), (3, _), (27, _), (5, _), (6, _), (7, _), (8, _), (4, _)] rfl
                  refine then_normal ?_
                  refine wp_ret ?_
                  refine end_one S rfl (res_tmp rfl) ?_
                  exact ⟨rfl, M.below⟩
                · clear S; intro h73 S
                  exfalso; clear S M
                  have ho : mi < k.of F ∨ (my ≠ 0 ∧ my ≠ k.inc) := by (try simp only at h44 h48); (try simp at h67); omega
                  rw [(Q1 ho).2, Kn.eqb_iff.2 rfl] at h73; cases h73
              · clear S; intro h64 S
                exfalso; clear S M
                by_cases ho : mi < k.of F ∨ (my ≠ 0 ∧ my ≠ k.inc)
                · obtain ⟨q1, -⟩ := Q1 ho
                  subst q1
                  (try simp only at h44 h48)
                  first
                    | (simp at h64; omega)
                    | (simp at h64; done)
                · obtain ⟨q1, -⟩ := Q2 ho
                  have e : (how == 0) = false := by simp; omega
                  rw [e] at h64
                  (try simp only at h44 h48)
                  first
                    | (simp at h64; omega)
                    | (simp at h64; done)
                    | omega
            · clear S; intro h58 S
              first | replace h58 := nrmA h58 | replace h58 := nrmB h58 | skip
              first | replace h58 := nrm1 h58 | replace h58 := nrm2 h58 | replace h58 := nrm3 h58 | replace h58 := nrm4 h58 | replace h58 := nrm5 h58 | replace h58 := nrm6 h58 | replace h58 := of_decide_eq_true h58 | replace h58 := of_decide_eq_false h58 | skip
              simp at h58
          · clear S; intro h44 S
            first | replace h44 := nrmA h44 | replace h44 := nrmB h44 | skip
            first | replace h44 := nrm1 h44 | replace h44 := nrm2 h44 | replace h44 := nrm3 h44 | replace h44 := nrm4 h44 | replace h44 := nrm5 h44 | replace h44 := nrm6 h44 | replace h44 := of_decide_eq_true h44 | replace h44 := of_decide_eq_false h44 | skip
            refine qt_y S rfl rfl rfl (fun w M => y_fieldAddr (k := 4) S (by kernel_rfl) rfl) ?_; clear S a; intro a S
            refine qt_y S rfl rfl rfl (fun w M => y_load S (by kernel_rfl) rfl (M.cell 1 rfl rfl)) ?_; clear S a; intro a S
            refine qt_y S rfl rfl rfl (fun w M => y_int S rfl rfl rfl) ?_; clear S a; intro a S
            refine qt_y S rfl rfl rfl (fun w M => y_move S rfl) ?_; clear S a; intro a S
            refine st_split (t := 48) S rfl ?_ ?_
            · clear S; intro h48 S
              first | replace h48 := nrmA h48 | replace h48 := nrmB h48 | skip
              first | replace h48 := nrm1 h48 | replace h48 := nrm2 h48 | replace h48 := nrm3 h48 | replace h48 := nrm4 h48 | replace h48 := nrm5 h48 | replace h48 := nrm6 h48 | replace h48 := of_decide_eq_true h48 | replace h48 := of_decide_eq_false h48 | skip
              refine qt_y S rfl rfl rfl (fun w M => y_fieldAddr (k := 4) S (by kernel_rfl) rfl) ?_; clear S a; intro a S
              refine qt_y S rfl rfl rfl (fun w M => y_load S (by kernel_rfl) rfl (M.cell 1 rfl rfl)) ?_; clear S a; intro a S
              refine qt_y S rfl rfl rfl (fun w M => y_fieldAddr (k := 1) S (by kernel_rfl) rfl) ?_; clear S a; intro a S
              refine qt_y S rfl rfl rfl (fun w M => y_load S (by kernel_rfl) rfl (M.cell 2 rfl rfl)) ?_; clear S a; intro a S
              refine qt_y S rfl rfl rfl (fun w M => y_int S rfl rfl rfl) ?_; clear S a; intro a S
              refine qt_y S rfl rfl rfl (fun w M => y_pickT S rfl rfl) ?_; clear S a; intro a S
              refine qt_y S rfl rfl rfl (fun w M => y_pickF S rfl rfl) ?_; clear S a; intro a S
              refine qt_y S rfl rfl rfl (fun w M => y_assign S rfl) ?_; clear S a; intro a S
              refine wpQuiet_nil ?_; clear M; intro w16 M
              replace S := S.sub [(0, _), (1, _), (2, _), (3, _), (4, _), (27, _), (5, _), (6, _), (7, _), (8, _)] rfl
              refine then_normal ?_
              refine wp_seq ?_
              -- region 5 law.go:87
              refine wp_regionK [] #[false, false, false, false, false, false, false, false, false, false, false, false, false, false, false, false, false, false, false, false, false, false, false, false, false, false, false, false, false, false, false, false, false, false] rfl M (by kernel_rfl) ?_; clear M; intro w17 M
              refine k_pure (listed' := #[true, false, false, false, false, false, false, false, false, false, false, false, false, false, false, false, false, false, false, false, false, false, false, false, false, false, false, false, false, false, false, false, false, false]) 0 S rfl rfl rfl rfl (by kernel_rfl) rfl (fun _ d _ _ _ h => by cases d <;> exact h) (fun w => y_move S rfl) ?_; clear S a; intro a S
              refine k_pure (listed' := #[true, true, false, false, false, false, false, false, false, false, false, false, false, false, false, false, false, false, false, false, false, false, false, false, false, false, false, false, false, false, false, false, false, false]) 1 S rfl rfl rfl rfl (by kernel_rfl) rfl (fun _ d _ _ _ h => by cases d <;> exact h) (fun w => y_int S rfl rfl rfl) ?_; clear S a; intro a S
              refine k_pure (listed' := #[true, true, true, false, false, false, false, false, false, false, false, false, false, false, false, false, false, false, false, false, false, false, false, false, false, false, false, false, false, false, false, false, false, false]) 2 S rfl rfl rfl rfl (by kernel_rfl) rfl (fun _ d _ _ _ h => by cases d <;> exact h) (fun w => y_move S rfl) ?_; clear S a; intro a S
              refine st_split (t := 58) S rfl ?_ ?_
              · clear S; intro h58 S
                first | replace h58 := nrmA h58 | replace h58 := nrmB h58 | skip
                first | replace h58 := nrm1 h58 | replace h58 := nrm2 h58 | replace h58 := nrm3 h58 | replace h58 := nrm4 h58 | replace h58 := nrm5 h58 | replace h58 := nrm6 h58 | replace h58 := of_decide_eq_true h58 | replace h58 := of_decide_eq_false h58 | skip
                refine k_pure (listed' := #[true, true, true, true, false, false, false, false, false, false, false, false, false, false, false, false, false, false, false, false, false, false, false, false, false, false, false, false, false, false, false, false, false, false]) 3 S rfl rfl rfl rfl (by kernel_rfl) rfl (fun _ d _ _ _ h => by cases d <;> exact h) (fun w => y_move S rfl) ?_; clear S a; intro a S
                refine k_pure (listed' := #[true, true, true, true, true, false, false, false, false, false, false, false, false, false, false, false, false, false, false, false, false, false, false, false, false, false, false, false, false, false, false, false, false, false]) 4 S rfl rfl rfl rfl (by kernel_rfl) rfl (fun _ d _ _ _ h => by cases d <;> exact h) (fun w => y_int S rfl rfl rfl) ?_; clear S a; intro a S
                refine k_pure (listed' := #[true, true, true, true, true, true, false, false, false, false, false, false, false, false, false, false, false, false, false, false, false, false, false, false, false, false, false, false, false, false, false, false, false, false]) 5 S rfl rfl rfl rfl (by kernel_rfl) rfl (fun _ d _ _ _ h => by cases d <;> exact h) (fun w => y_move S rfl) ?_; clear S a; intro a S
                refine k_pure (listed' := #[true, true, true, true, true, true, true, false, false, false, false, false, false, false, false, false, false, false, false, false, false, false, false, false, false, false, false, false, false, false, false, false, false, false]) 6 S rfl rfl rfl rfl (by kernel_rfl) rfl (fun _ d _ _ _ h => by cases d <;> exact h) (fun w => y_eqlBool (by kernel_rfl) S rfl rfl) ?_; clear S a; intro a S
                refine k_pure (listed' := #[true, true, true, true, true, true, true, true, false, false, false, false, false, false, false, false, false, false, false, false, false, false, false, false, false, false, false, false, false, false, false, false, false, false]) 7 S rfl rfl rfl rfl (by kernel_rfl) rfl (fun _ d _ _ _ h => by cases d <;> exact h) (fun w => y_pickT S rfl rfl) ?_; clear S a; intro a S
                refine k_pure (listed' := #[true, true, true, true, true, true, true, true, true, false, false, false, false, false, false, false, false, false, false, false, false, false, false, false, false, false, false, false, false, false, false, false, false, false]) 8 S rfl rfl rfl rfl (by kernel_rfl) rfl (fun _ d _ _ _ h => by cases d <;> exact h) (fun w => y_move S rfl) ?_; clear S a; intro a S
                refine st_split (t := 64) S rfl ?_ ?_
                · clear S; intro h64 S
                  refine k_pure (listed' := #[true, true, true, true, true, true, true, true, true, true, false, false, false, false, false, false, false, false, false, false, false, false, false, false, false, false, false, false, false, false, false, false, false, false]) 9 S rfl rfl rfl rfl (by kernel_rfl) rfl (fun _ d _ _ _ h => by cases d <;> exact h) (fun w => y_move S rfl) ?_; clear S a; intro a S
                  refine k_pure (listed' := #[true, true, true, true, true, true, true, true, true, true, true, false, false, false, false, false, false, false, false, false, false, false, false, false, false, false, false, false, false, false, false, false, false, false]) 10 S rfl rfl rfl rfl (by kernel_rfl) rfl (fun _ d _ _ _ h => by cases d <;> exact h) (fun w => y_not S rfl) ?_; clear S a; intro a S
                  refine k_pure (listed' := #[true, true, true, true, true, true, true, true, true, true, true, true, false, false, false, false, false, false, false, false, false, false, false, false, false, false, false, false, false, false, false, false, false, false]) 11 S rfl rfl rfl rfl (by kernel_rfl) rfl (fun _ d _ _ _ h => by cases d <;> exact h) (fun w => y_move S rfl) ?_; clear S a; intro a S
                  refine st_split (t := 67) S rfl ?_ ?_
                  · clear S; intro h67 S
                    first | replace h67 := nrmA h67 | replace h67 := nrmB h67 | skip
                    first | replace h67 := nrm1 h67 | replace h67 := nrm2 h67 | replace h67 := nrm3 h67 | replace h67 := nrm4 h67 | replace h67 := nrm5 h67 | replace h67 := nrm6 h67 | replace h67 := of_decide_eq_true h67 | replace h67 := of_decide_eq_false h67 | skip
                    refine k_no (listed' := #[true, true, true, true, true, true, true, true, true, true, true, true, true, false, false, false, false, false, false, false, false, false, false, false, false, false, false, false, false, false, false, false, false, false]) 12 S rfl rfl rfl rfl (by kernel_rfl) rfl (fun _ d _ _ _ h => by cases d <;> exact h) ?_; clear S a; intro a S
                    refine k_no (listed' := #[true, true, true, true, true, true, true, true, true, true, true, true, true, true, false, false, false, false, false, false, false, false, false, false, false, false, false, false, false, false, false, false, false, false]) 13 S rfl rfl rfl rfl (by kernel_rfl) rfl (fun _ d _ _ _ h => by cases d <;> exact h) ?_; clear S a; intro a S
                    refine k_no (listed' := #[true, true, true, true, true, true, true, true, true, true, true, true, true, true, true, false, false, false, false, false, false, false, false, false, false, false, false, false, false, false, false, false, false, false]) 14 S rfl rfl rfl rfl (by kernel_rfl) rfl (fun _ d _ _ _ h => by cases d <;> exact h) ?_; clear S a; intro a S
                    refine k_pure (listed' := #[true, true, true, true, true, true, true, true, true, true, true, true, true, true, true, true, false, false, false, false, false, false, false, false, false, false, false, false, false, false, false, false, false, false]) 15 S rfl rfl rfl rfl (by kernel_rfl) rfl (fun _ d _ _ _ h => by cases d <;> exact h) (fun w => y_pickT S rfl rfl) ?_; clear S a; intro a S
                    refine k_pure (listed' := #[true, true, true, true, true, true, true, true, true, true, true, true, true, true, true, true, true, false, false, false, false, false, false, false, false, false, false, false, false, false, false, false, false, false]) 16 S rfl rfl rfl rfl (by kernel_rfl) rfl (fun _ d _ _ _ h => by cases d <;> exact h) (fun w => y_pickT S rfl rfl) ?_; clear S a; intro a S
                    refine k_pure (listed' := #[true, true, true, true, true, true, true, true, true, true, true, true, true, true, true, true, true, true, false, false, false, false, false, false, false, false, false, false, false, false, false, false, false, false]) 17 S rfl rfl rfl rfl (by kernel_rfl) rfl (fun _ d _ _ _ h => by cases d <;> exact h) (fun w => y_move S rfl) ?_; clear S a; intro a S
                    refine k_pure (listed' := #[true, true, true, true, true, true, true, true, true, true, true, true, true, true, true, true, true, true, true, false, false, false, false, false, false, false, false, false, false, false, false, false, false, false]) 18 S rfl rfl rfl rfl (by kernel_rfl) rfl (fun _ d _ _ _ h => by cases d <;> exact h) (fun w => y_move S rfl) ?_; clear S a; intro a S
                    refine k_pure (listed' := #[true, true, true, true, true, true, true, true, true, true, true, true, true, true, true, true, true, true, true, true, false, false, false, false, false, false, false, false, false, false, false, false, false, false]) 19 S rfl rfl rfl rfl (by kernel_rfl) rfl (fun _ d _ _ _ h => by cases d <;> exact h) (fun w => y_move S rfl) ?_; clear S a; intro a S
                    refine st_split (t := 75) S rfl ?_ ?_
                    · clear S; intro h75 S
                      first | replace h75 := nrmA h75 | replace h75 := nrmB h75 | skip
                      first | replace h75 := nrm1 h75 | replace h75 := nrm2 h75 | replace h75 := nrm3 h75 | replace h75 := nrm4 h75 | replace h75 := nrm5 h75 | replace h75 := nrm6 h75 | replace h75 := of_decide_eq_true h75 | replace h75 := of_decide_eq_false h75 | skip
                      refine k_no (listed' := #[true, true, true, true, true, true, true, true, true, true, true, true, true, true, true, true, true, true, true, true, true, false, false, false, false, false, false, false, false, false, false, false, false, false]) 20 S rfl rfl rfl rfl (by kernel_rfl) rfl (fun _ d _ _ _ h => by cases d <;> exact h) ?_; clear S a; intro a S
                      refine k_no (listed' := #[true, true, true, true, true, true, true, true, true, true, true, true, true, true, true, true, true, true, true, true, true, true, false, false, false, false, false, false, false, false, false, false, false, false]) 21 S rfl rfl rfl rfl (by kernel_rfl) rfl (fun _ d _ _ _ h => by cases d <;> exact h) ?_; clear S a; intro a S
                      refine k_no (listed' := #[true, true, true, true, true, true, true, true, true, true, true, true, true, true, true, true, true, true, true, true, true, true, true, false, false, false, false, false, false, false, false, false, false, false]) 22 S rfl rfl rfl rfl (by kernel_rfl) rfl (fun _ d _ _ _ h => by cases d <;> exact h) ?_; clear S a; intro a S
                      refine k_no (listed' := #[true, true, true, true, true, true, true, true, true, true, true, true, true, true, true, true, true, true, true, true, true, true, true, true, false, false, false, false, false, false, false, false, false, false]) 23 S rfl rfl rfl rfl (by kernel_rfl) rfl (fun _ d _ _ _ h => by cases d <;> exact h) ?_; clear S a; intro a S
                      refine k_no (listed' := #[true, true, true, true, true, true, true, true, true, true, true, true, true, true, true, true, true, true, true, true, true, true, true, true, true, false, false, false, false, false, false, false, false, false]) 24 S rfl rfl rfl rfl (by kernel_rfl) rfl (fun _ d _ _ _ h => by cases d <;> exact h) ?_; clear S a; intro a S
                      refine k_no (listed' := #[true, true, true, true, true, true, true, true, true, true, true, true, true, true, true, true, true, true, true, true, true, true, true, true, true, true, false, false, false, false, false, false, false, false]) 25 S rfl rfl rfl rfl (by kernel_rfl) rfl (fun _ d _ _ _ h => by cases d <;> exact h) ?_; clear S a; intro a S
                      refine k_no (listed' := #[true, true, true, true, true, true, true, true, true, true, true, true, true, true, true, true, true, true, true, true, true, true, true, true, true, true, true, false, false, false, false, false, false, false]) 26 S rfl rfl rfl rfl (by kernel_rfl) rfl (fun _ d _ _ _ h => by cases d <;> exact h) ?_; clear S a; intro a S
                      refine k_no (listed' := #[true, true, true, true, true, true, true, true, true, true, true, true, true, true, true, true, true, true, true, true, true, true, true, true, true, true, true, true, false, false, false, false, false, false]) 27 S rfl rfl rfl rfl (by kernel_rfl) rfl (fun _ d _ _ _ h => by cases d <;> exact h) ?_; clear S a; intro a S
                      refine k_pure (listed' := #[true, true, true, true, true, true, true, true, true, true, true, true, true, true, true, true, true, true, true, true, true, true, true, true, true, true, true, true, true, false, false, false, false, false]) 28 S rfl rfl rfl rfl (by kernel_rfl) rfl (fun _ d _ _ _ h => by cases d <;> exact h) (fun w => y_pickT S rfl rfl) ?_; clear S a; intro a S
                      refine k_pure (listed' := #[true, true, true, true, true, true, true, true, true, true, true, true, true, true, true, true, true, true, true, true, true, true, true, true, true, true, true, true, true, true, false, false, false, false]) 29 S rfl rfl rfl rfl (by kernel_rfl) rfl (fun _ d _ _ _ h => by cases d <;> exact h) (fun w => y_pickT S rfl rfl) ?_; clear S a; intro a S
                      refine k_pure (listed' := #[true, true, true, true, true, true, true, true, true, true, true, true, true, true, true, true, true, true, true, true, true, true, true, true, true, true, true, true, true, true, true, false, false, false]) 30 S rfl rfl rfl rfl (by kernel_rfl) rfl (fun _ d _ _ _ h => by cases d <;> exact h) (fun w => y_move S rfl) ?_; clear S a; intro a S
                      refine k_one (listed' := #[true, true, true, true, true, true, true, true, true, true, true, true, true, true, true, true, true, true, true, true, true, true, true, true, true, true, true, true, true, true, true, true, false, false]) 31 rfl (by kernel_rfl) rfl ?_
                      refine st_call (xs := []) S (enters_of Try.func7 (by decide) rfl) rfl rfl rfl (wakes_any _) ?_
                      rintro _ w18 ⟨rfl, hK⟩; refine ⟨_, rfl, ?_⟩; clear S a; intro a S; replace M := M.grow hK
                      refine wpList_nil ?_; refine then_normal ?_; refine ⟨fun _ => hK, ?_⟩
                      refine k_pure (listed' := #[true, true, true, true, true, true, true, true, true, true, true, true, true, true, true, true, true, true, true, true, true, true, true, true, true, true, true, true, true, true, true, true, true, false]) 32 S rfl rfl rfl rfl (by kernel_rfl) rfl (fun _ d _ _ _ h => by cases d <;> exact h) (fun w => y_pickT S rfl rfl) ?_; clear S a; intro a S
                      refine k_pure (listed' := #[true, true, true, true, true, true, true, true, true, true, true, true, true, true, true, true, true, true, true, true, true, true, true, true, true, true, true, true, true, true, true, true, true, true]) 33 S rfl rfl rfl rfl (by kernel_rfl) rfl (fun _ d _ _ _ h => by cases d <;> exact h) (fun w => y_assign S rfl) ?_; clear S a; intro a S
                      refine k_end (by kernel_rfl) ?_
                      replace S := S.sub [(0, _), (1, _), (2, _), (3, _), (27, _), (5, _), (6, _), (7, _), (8, _), (4, _)] rfl
                      refine then_normal ?_
                      refine wp_ret ?_
                      refine end_one S rfl (res_tmp rfl) ?_
                      exact ⟨rfl, M.below⟩
                    · clear S; intro h75 S
                      first | replace h75 := nrmA h75 | replace h75 := nrmB h75 | skip
                      first | replace h75 := nrm1 h75 | replace h75 := nrm2 h75 | replace h75 := nrm3 h75 | replace h75 := nrm4 h75 | replace h75 := nrm5 h75 | replace h75 := nrm6 h75 | replace h75 := of_decide_eq_true h75 | replace h75 := of_decide_eq_false h75 | skip
                      refine k_pure (listed' := #[true, true, true, true, true, true, true, true, true, true, true, true, true, true, true, true, true, true, true, true, true, false, false, false, false, false, false, false, false, false, false, false, false, false]) 20 S rfl rfl rfl rfl (by kernel_rfl) rfl (fun _ d _ _ _ h => by cases d <;> exact h) (fun w => y_fieldAddr (k := 1) S (by kernel_rfl) rfl) ?_; clear S a; intro a S
                      refine k_read (listed' := #[true, true, true, true, true, true, true, true, true, true, true, true, true, true, true, true, true, true, true, true, true, true, false, false, false, false, false, false, false, false, false, false, false, false]) 21 S rfl rfl rfl rfl (by kernel_rfl) rfl (fun _ d _ _ _ h => by cases d <;> exact h) (fun w hW => have M := M.grow hW; y_load S (by kernel_rfl) rfl (M.cell 1 rfl rfl)) ?_; clear S a; intro a S
                      refine k_pure (listed' := #[true, true, true, true, true, true, true, true, true, true, true, true, true, true, true, true, true, true, true, true, true, true, true, false, false, false, false, false, false, false, false, false, false, false]) 22 S rfl rfl rfl rfl (by kernel_rfl) rfl (fun _ d _ _ _ h => by cases d <;> exact h) (fun w => y_fieldAddr (k := 2) S (by kernel_rfl) rfl) ?_; clear S a; intro a S
                      refine k_pure (listed' := #[true, true, true, true, true, true, true, true, true, true, true, true, true, true, true, true, true, true, true, true, true, true, true, true, false, false, false, false, false, false, false, false, false, false]) 23 S rfl rfl rfl rfl (by kernel_rfl) rfl (fun _ d _ _ _ h => by cases d <;> exact h) (fun w => y_indexA (m := 5) (sz := 1) S (by kernel_rfl) rfl rfl (by first | omega | (simp; done) | (simp; omega))) ?_; clear S a; intro a S
                      try simp only [Int.toNat_natCast, Nat.mul_one, Nat.zero_add] at S
                      refine k_read (listed' := #[true, true, true, true, true, true, true, true, true, true, true, true, true, true, true, true, true, true, true, true, true, true, true, true, true, false, false, false, false, false, false, false, false, false]) 24 S rfl rfl rfl rfl (by kernel_rfl) rfl (fun _ d _ _ _ h => by cases d <;> exact h) (fun w hW => have M := M.grow hW; y_load S (by kernel_rfl) rfl (M.cell 0 rfl (kn_get (k := o) (by omega)))) ?_; clear S a; intro a S
                      refine k_pure (listed' := #[true, true, true, true, true, true, true, true, true, true, true, true, true, true, true, true, true, true, true, true, true, true, true, true, true, true, false, false, false, false, false, false, false, false]) 25 S rfl rfl rfl rfl (by kernel_rfl) rfl (fun _ d _ _ _ h => by cases d <;> exact h) (fun w => y_fieldAddr (k := 3) S (by kernel_rfl) rfl) ?_; clear S a; intro a S
                      refine k_read (listed' := #[true, true, true, true, true, true, true, true, true, true, true, true, true, true, true, true, true, true, true, true, true, true, true, true, true, true, true, false, false, false, false, false, false, false]) 26 S rfl rfl rfl rfl (by kernel_rfl) rfl (fun _ d _ _ _ h => by cases d <;> exact h) (fun w hW => have M := M.grow hW; y_load S (by kernel_rfl) rfl (M.cell 1 rfl rfl)) ?_; clear S a; intro a S
                      refine k_pure (listed' := #[true, true, true, true, true, true, true, true, true, true, true, true, true, true, true, true, true, true, true, true, true, true, true, true, true, true, true, true, false, false, false, false, false, false]) 27 S rfl rfl rfl rfl (by kernel_rfl) rfl (fun _ d _ _ _ h => by cases d <;> exact h) (fun w => y_int S rfl rfl rfl) ?_; clear S a; intro a S
                      refine k_pure (listed' := #[true, true, true, true, true, true, true, true, true, true, true, true, true, true, true, true, true, true, true, true, true, true, true, true, true, true, true, true, true, false, false, false, false, false]) 28 S rfl rfl rfl rfl (by kernel_rfl) rfl (fun _ d _ _ _ h => by cases d <;> exact h) (fun w => y_pickF S rfl rfl) ?_; clear S a; intro a S
                      refine k_pure (listed' := #[true, true, true, true, true, true, true, true, true, true, true, true, true, true, true, true, true, true, true, true, true, true, true, true, true, true, true, true, true, true, false, false, false, false]) 29 S rfl rfl rfl rfl (by kernel_rfl) rfl (fun _ d _ _ _ h => by cases d <;> exact h) (fun w => y_pickT S rfl rfl) ?_; clear S a; intro a S
                      refine k_pure (listed' := #[true, true, true, true, true, true, true, true, true, true, true, true, true, true, true, true, true, true, true, true, true, true, true, true, true, true, true, true, true, true, true, false, false, false]) 30 S rfl rfl rfl rfl (by kernel_rfl) rfl (fun _ d _ _ _ h => by cases d <;> exact h) (fun w => y_move S rfl) ?_; clear S a; intro a S
                      refine st_split (t := 86) S rfl ?_ ?_
                      · clear S; intro h86 S
                        refine k_one (listed' := #[true, true, true, true, true, true, true, true, true, true, true, true, true, true, true, true, true, true, true, true, true, true, true, true, true, true, true, true, true, true, true, true, false, false]) 31 rfl (by kernel_rfl) rfl ?_
                        refine st_call (xs := []) S (enters_of Try.func7 (by decide) rfl) rfl rfl rfl (wakes_any _) ?_
                        rintro _ w19 ⟨rfl, hK⟩; refine ⟨_, rfl, ?_⟩; clear S a; intro a S; replace M := M.grow hK
                        refine wpList_nil ?_; refine then_normal ?_; refine ⟨fun _ => hK, ?_⟩
                        refine k_pure (listed' := #[true, true, true, true, true, true, true, true, true, true, true, true, true, true, true, true, true, true, true, true, true, true, true, true, true, true, true, true, true, true, true, true, true, false]) 32 S rfl rfl rfl rfl (by kernel_rfl) rfl (fun _ d _ _ _ h => by cases d <;> exact h) (fun w => y_pickT S rfl rfl) ?_; clear S a; intro a S
                        refine k_pure (listed' := #[true, true, true, true, true, true, true, true, true, true, true, true, true, true, true, true, true, true, true, true, true, true, true, true, true, true, true, true, true, true, true, true, true, true]) 33 S rfl rfl rfl rfl (by kernel_rfl) rfl (fun _ d _ _ _ h => by cases d <;> exact h) (fun w => y_assign S rfl) ?_; clear S a; intro a S
                        refine k_end (by kernel_rfl) ?_
                        replace S := S.sub [(0, _), (1, _), (2, _), (3, _), (27, _), (5, _), (6, _), (7, _), (8, _), (4, _)] rfl
                        refine then_normal ?_
                        refine wp_ret ?_
                        refine end_one S rfl (res_tmp rfl) ?_
                        exact ⟨rfl, M.below⟩
                      · clear S; intro h86 S
                        exfalso; clear S M
                        have ho : ¬ (mi < k.of F ∨ (my ≠ 0 ∧ my ≠ k.inc)) := by (try simp only at h44 h48); (try simp at h75); omega
                        have := (Q2 ho).2
                        rw [this] at h86; simp at h86
                  · clear S; intro h67 S
                    first | replace h67 := nrmA h67 | replace h67 := nrmB h67 | skip
                    first | replace h67 := nrm1 h67 | replace h67 := nrm2 h67 | replace h67 := nrm3 h67 | replace h67 := nrm4 h67 | replace h67 := nrm5 h67 | replace h67 := nrm6 h67 | replace h67 := of_decide_eq_true h67 | replace h67 := of_decide_eq_false h67 | skip
                    refine k_read (listed' := #[true, true, true, true, true, true, true, true, true, true, true, true, true, false, false, false, false, false, false, false, false, false, false, false, false, false, false, false, false, false, false, false, false, false]) 12 S rfl rfl rfl rfl (by kernel_rfl) rfl (fun _ d _ _ _ h => by cases d <;> exact h) (fun w hW => have M := M.grow hW; y_loadAgg (cs := [_, _, _, _, _, _, _]) S (by kernel_rfl) rfl rfl (M.cellsAt (k := 7) 0 rfl rfl)) ?_; clear S a; intro a S
                    refine k_read (listed' := #[true, true, true, true, true, true, true, true, true, true, true, true, true, true, false, false, false, false, false, false, false, false, false, false, false, false, false, false, false, false, false, false, false, false]) 13 S rfl rfl rfl rfl (by kernel_rfl) rfl (fun _ d _ _ _ h => by cases d <;> exact h) (fun w hW => have M := M.grow hW; y_loadAgg (cs := [_, _, _, _, _, _, _]) S (by kernel_rfl) rfl rfl (M.cellsAt (k := 7) 2 rfl rfl)) ?_; clear S a; intro a S
                    refine k_pure (listed' := #[true, true, true, true, true, true, true, true, true, true, true, true, true, true, true, false, false, false, false, false, false, false, false, false, false, false, false, false, false, false, false, false, false, false]) 14 S rfl rfl rfl rfl (by kernel_rfl) rfl (fun _ d _ _ _ h => by cases d <;> exact h) (fun w => y_eqlG (by kernel_rfl) S rfl rfl (fun w => equalKn 9997 o k w)) ?_; clear S a; intro a S
                    refine k_pure (listed' := #[true, true, true, true, true, true, true, true, true, true, true, true, true, true, true, true, false, false, false, false, false, false, false, false, false, false, false, false, false, false, false, false, false, false]) 15 S rfl rfl rfl rfl (by kernel_rfl) rfl (fun _ d _ _ _ h => by cases d <;> exact h) (fun w => y_pickF S rfl rfl) ?_; clear S a; intro a S
                    refine k_pure (listed' := #[true, true, true, true, true, true, true, true, true, true, true, true, true, true, true, true, true, false, false, false, false, false, false, false, false, false, false, false, false, false, false, false, false, false]) 16 S rfl rfl rfl rfl (by kernel_rfl) rfl (fun _ d _ _ _ h => by cases d <;> exact h) (fun w => y_pickT S rfl rfl) ?_; clear S a; intro a S
                    refine k_pure (listed' := #[true, true, true, true, true, true, true, true, true, true, true, true, true, true, true, true, true, true, false, false, false, false, false, false, false, false, false, false, false, false, false, false, false, false]) 17 S rfl rfl rfl rfl (by kernel_rfl) rfl (fun _ d _ _ _ h => by cases d <;> exact h) (fun w => y_move S rfl) ?_; clear S a; intro a S
                    refine st_split (t := 73) S rfl ?_ ?_
                    · clear S; intro h73 S
                      refine k_pure (listed' := #[true, true, true, true, true, true, true, true, true, true, true, true, true, true, true, true, true, true, true, false, false, false, false, false, false, false, false, false, false, false, false, false, false, false]) 18 S rfl rfl rfl rfl (by kernel_rfl) rfl (fun _ d _ _ _ h => by cases d <;> exact h) (fun w => y_move S rfl) ?_; clear S a; intro a S
                      refine k_pure (listed' := #[true, true, true, true, true, true, true, true, true, true, true, true, true, true, true, true, true, true, true, true, false, false, false, false, false, false, false, false, false, false, false, false, false, false]) 19 S rfl rfl rfl rfl (by kernel_rfl) rfl (fun _ d _ _ _ h => by cases d <;> exact h) (fun w => y_move S rfl) ?_; clear S a; intro a S
                      refine st_split (t := 75) S rfl ?_ ?_
                      · clear S; intro h75 S
                        first | replace h75 := nrmA h75 | replace h75 := nrmB h75 | skip
                        first | replace h75 := nrm1 h75 | replace h75 := nrm2 h75 | replace h75 := nrm3 h75 | replace h75 := nrm4 h75 | replace h75 := nrm5 h75 | replace h75 := nrm6 h75 | replace h75 := of_decide_eq_true h75 | replace h75 := of_decide_eq_false h75 | skip
                        refine k_no (listed' := #[true, true, true, true, true, true, true, true, true, true, true, true, true, true, true, true, true, true, true, true, true, false, false, false, false, false, false, false, false, false, false, false, false, false]) 20 S rfl rfl rfl rfl (by kernel_rfl) rfl (fun _ d _ _ _ h => by cases d <;> exact h) ?_; clear S a; intro a S
                        refine k_no (listed' := #[true, true, true, true, true, true, true, true, true, true, true, true, true, true, true, true, true, true, true, true, true, true, false, false, false, false, false, false, false, false, false, false, false, false]) 21 S rfl rfl rfl rfl (by kernel_rfl) rfl (fun _ d _ _ _ h => by cases d <;> exact h) ?_; clear S a; intro a S
                        refine k_no (listed' := #[true, true, true, true, true, true, true, true, true, true, true, true, true, true, true, true, true, true, true, true, true, true, true, false, false, false, false, false, false, false, false, false, false, false]) 22 S rfl rfl rfl rfl (by kernel_rfl) rfl (fun _ d _ _ _ h => by cases d <;> exact h) ?_; clear S a; intro a S
                        refine k_no (listed' := #[true, true, true, true, true, true, true, true, true, true, true, true, true, true, true, true, true, true, true, true, true, true, true, true, false, false, false, false, false, false, false, false, false, false]) 23 S rfl rfl rfl rfl (by kernel_rfl) rfl (fun _ d _ _ _ h => by cases d <;> exact h) ?_; clear S a; intro a S
                        refine k_no (listed' := #[true, true, true, true, true, true, true, true, true, true, true, true, true, true, true, true, true, true, true, true, true, true, true, true, true, false, false, false, false, false, false, false, false, false]) 24 S rfl rfl rfl rfl (by kernel_rfl) rfl (fun _ d _ _ _ h => by cases d <;> exact h) ?_; clear S a; intro a S
                        refine k_no (listed' := #[true, true, true, true, true, true, true, true, true, true, true, true, true, true, true, true, true, true, true, true, true, true, true, true, true, true, false, false, false, false, false, false, false, false]) 25 S rfl rfl rfl rfl (by kernel_rfl) rfl (fun _ d _ _ _ h => by cases d <;> exact h) ?_; clear S a; intro a S
                        refine k_no (listed' := #[true, true, true, true, true, true, true, true, true, true, true, true, true, true, true, true, true, true, true, true, true, true, true, true, true, true, true, false, false, false, false, false, false, false]) 26 S rfl rfl rfl rfl (by kernel_rfl) rfl (fun _ d _ _ _ h => by cases d <;> exact h) ?_; clear S a; intro a S
                        refine k_no (listed' := #[true, true, true, true, true, true, true, true, true, true, true, true, true, true, true, true, true, true, true, true, true, true, true, true, true, true, true, true, false, false, false, false, false, false]) 27 S rfl rfl rfl rfl (by kernel_rfl) rfl (fun _ d _ _ _ h => by cases d <;> exact h) ?_; clear S a; intro a S
                        refine k_pure (listed' := #[true, true, true, true, true, true, true, true, true, true, true, true, true, true, true, true, true, true, true, true, true, true, true, true, true, true, true, true, true, false, false, false, false, false]) 28 S rfl rfl rfl rfl (by kernel_rfl) rfl (fun _ d _ _ _ h => by cases d <;> exact h) (fun w => y_pickT S rfl rfl) ?_; clear S a; intro a S
                        refine k_pure (listed' := #[true, true, true, true, true, true, true, true, true, true, true, true, true, true, true, true, true, true, true, true, true, true, true, true, true, true, true, true, true, true, false, false, false, false]) 29 S rfl rfl rfl rfl (by kernel_rfl) rfl (fun _ d _ _ _ h => by cases d <;> exact h) (fun w => y_pickT S rfl rfl) ?_; clear S a; intro a S
                        refine k_pure (listed' := #[true, true, true, true, true, true, true, true, true, true, true, true, true, true, true, true, true, true, true, true, true, true, true, true, true, true, true, true, true, true, true, false, false, false]) 30 S rfl rfl rfl rfl (by kernel_rfl) rfl (fun _ d _ _ _ h => by cases d <;> exact h) (fun w => y_move S rfl) ?_; clear S a; intro a S
                        refine k_one (listed' := #[true, true, true, true, true, true, true, true, true, true, true, true, true, true, true, true, true, true, true, true, true, true, true, true, true, true, true, true, true, true, true, true, false, false]) 31 rfl (by kernel_rfl) rfl ?_
                        refine st_call (xs := []) S (enters_of Try.func7 (by decide) rfl) rfl rfl rfl (wakes_any _) ?_
                        rintro _ w20 ⟨rfl, hK⟩; refine ⟨_, rfl, ?_⟩; clear S a; intro a S; replace M := M.grow hK
                        refine wpList_nil ?_; refine then_normal ?_; refine ⟨fun _ => hK, ?_⟩
                        refine k_pure (listed' := #[true, true, true, true, true, true, true, true, true, true, true, true, true, true, true, true, true, true, true, true, true, true, true, true, true, true, true, true, true, true, true, true, true, false]) 32 S rfl rfl rfl rfl (by kernel_rfl) rfl (fun _ d _ _ _ h => by cases d <;> exact h) (fun w => y_pickT S rfl rfl) ?_; clear S a; intro a S
                        refine k_pure (listed' := #[true, true, true, true, true, true, true, true, true, true, true, true, true, true, true, true, true, true, true, true, true, true, true, true, true, true, true, true, true, true, true, true, true, true]) 33 S rfl rfl rfl rfl (by kernel_rfl) rfl (fun _ d _ _ _ h => by cases d <;> exact h) (fun w => y_assign S rfl) ?_; clear S a; intro a S
                        refine k_end (by kernel_rfl) ?_
                        replace S := S.sub [(0, _), (1, _), (2, _), (3, _), (27, _), (5, _), (6, _), (7, _), (8, _), (4, _)] rfl
                        refine then_normal ?_
                        refine wp_ret ?_
                        refine end_one S rfl (res_tmp rfl) ?_
                        exact ⟨rfl, M.below⟩
                      · clear S; intro h75 S
                        first | replace h75 := nrmA h75 | replace h75 := nrmB h75 | skip
                        first | replace h75 := nrm1 h75 | replace h75 := nrm2 h75 | replace h75 := nrm3 h75 | replace h75 := nrm4 h75 | replace h75 := nrm5 h75 | replace h75 := nrm6 h75 | replace h75 := of_decide_eq_true h75 | replace h75 := of_decide_eq_false h75 | skip
                        refine k_pure (listed' := #[true, true, true, true, true, true, true, true, true, true, true, true, true, true, true, true, true, true, true, true, true, false, false, false, false, false, false, false, false, false, false, false, false, false]) 20 S rfl rfl rfl rfl (by kernel_rfl) rfl (fun _ d _ _ _ h => by cases d <;> exact h) (fun w => y_fieldAddr (k := 1) S (by kernel_rfl) rfl) ?_; clear S a; intro a S
                        refine k_read (listed' := #[true, true, true, true, true, true, true, true, true, true, true, true, true, true, true, true, true, true, true, true, true, true, false, false, false, false, false, false, false, false, false, false, false, false]) 21 S rfl rfl rfl rfl (by kernel_rfl) rfl (fun _ d _ _ _ h => by cases d <;> exact h) (fun w hW => have M := M.grow hW; y_load S (by kernel_rfl) rfl (M.cell 1 rfl rfl)) ?_; clear S a; intro a S
                        refine k_pure (listed' := #[true, true, true, true, true, true, true, true, true, true, true, true, true, true, true, true, true, true, true, true, true, true, true, false, false, false, false, false, false, false, false, false, false, false]) 22 S rfl rfl rfl rfl (by kernel_rfl) rfl (fun _ d _ _ _ h => by cases d <;> exact h) (fun w => y_fieldAddr (k := 2) S (by kernel_rfl) rfl) ?_; clear S a; intro a S
                        refine k_pure (listed' := #[true, true, true, true, true, true, true, true, true, true, true, true, true, true, true, true, true, true, true, true, true, true, true, true, false, false, false, false, false, false, false, false, false, false]) 23 S rfl rfl rfl rfl (by kernel_rfl) rfl (fun _ d _ _ _ h => by cases d <;> exact h) (fun w => y_indexA (m := 5) (sz := 1) S (by kernel_rfl) rfl rfl (by first | omega | (simp; done) | (simp; omega))) ?_; clear S a; intro a S
                        try simp only [Int.toNat_natCast, Nat.mul_one, Nat.zero_add] at S
                        refine k_read (listed' := #[true, true, true, true, true, true, true, true, true, true, true, true, true, true, true, true, true, true, true, true, true, true, true, true, true, false, false, false, false, false, false, false, false, false]) 24 S rfl rfl rfl rfl (by kernel_rfl) rfl (fun _ d _ _ _ h => by cases d <;> exact h) (fun w hW => have M := M.grow hW; y_load S (by kernel_rfl) rfl (M.cell 0 rfl (kn_get (k := o) (by omega)))) ?_; clear S a; intro a S
                        refine k_pure (listed' := #[true, true, true, true, true, true, true, true, true, true, true, true, true, true, true, true, true, true, true, true, true, true, true, true, true, true, false, false, false, false, false, false, false, false]) 25 S rfl rfl rfl rfl (by kernel_rfl) rfl (fun _ d _ _ _ h => by cases d <;> exact h) (fun w => y_fieldAddr (k := 3) S (by kernel_rfl) rfl) ?_; clear S a; intro a S
                        refine k_read (listed' := #[true, true, true, true, true, true, true, true, true, true, true, true, true, true, true, true, true, true, true, true, true, true, true, true, true, true, true, false, false, false, false, false, false, false]) 26 S rfl rfl rfl rfl (by kernel_rfl) rfl (fun _ d _ _ _ h => by cases d <;> exact h) (fun w hW => have M := M.grow hW; y_load S (by kernel_rfl) rfl (M.cell 1 rfl rfl)) ?_; clear S a; intro a S
                        refine k_pure (listed' := #[true, true, true, true, true, true, true, true, true, true, true, true, true, true, true, true, true, true, true, true, true, true, true, true, true, true, true, true, false, false, false, false, false, false]) 27 S rfl rfl rfl rfl (by kernel_rfl) rfl (fun _ d _ _ _ h => by cases d <;> exact h) (fun w => y_int S rfl rfl rfl) ?_; clear S a; intro a S
                        refine k_pure (listed' := #[true, true, true, true, true, true, true, true, true, true, true, true, true, true, true, true, true, true, true, true, true, true, true, true, true, true, true, true, true, false, false, false, false, false]) 28 S rfl rfl rfl rfl (by kernel_rfl) rfl (fun _ d _ _ _ h => by cases d <;> exact h) (fun w => y_pickF S rfl rfl) ?_; clear S a; intro a S
                        refine k_pure (listed' := #[true, true, true, true, true, true, true, true, true, true, true, true, true, true, true, true, true, true, true, true, true, true, true, true, true, true, true, true, true, true, false, false, false, false]) 29 S rfl rfl rfl rfl (by kernel_rfl) rfl (fun _ d _ _ _ h => by cases d <;> exact h) (fun w => y_pickT S rfl rfl) ?_; clear S a; intro a S
                        refine k_pure (listed' := #[true, true, true, true, true, true, true, true, true, true, true, true, true, true, true, true, true, true, true, true, true, true, true, true, true, true, true, true, true, true, true, false, false, false]) 30 S rfl rfl rfl rfl (by kernel_rfl) rfl (fun _ d _ _ _ h => by cases d <;> exact h) (fun w => y_move S rfl) ?_; clear S a; intro a S
                        refine st_split (t := 86) S rfl ?_ ?_
                        · clear S; intro h86 S
                          refine k_one (listed' := #[true, true, true, true, true, true, true, true, true, true, true, true, true, true, true, true, true, true, true, true, true, true, true, true, true, true, true, true, true, true, true, true, false, false]) 31 rfl (by kernel_rfl) rfl ?_
                          refine st_call (xs := []) S (enters_of Try.func7 (by decide) rfl) rfl rfl rfl (wakes_any _) ?_
                          rintro _ w21 ⟨rfl, hK⟩; refine ⟨_, rfl, ?_⟩; clear S a; intro a S; replace M := M.grow hK
                          refine wpList_nil ?_; refine then_normal ?_; refine ⟨fun _ => hK, ?_⟩
                          refine k_pure (listed' := #[true, true, true, true, true, true, true, true, true, true, true, true, true, true, true, true, true, true, true, true, true, true, true, true, true, true, true, true, true, true, true, true, true, false]) 32 S rfl rfl rfl rfl (by kernel_rfl) rfl (fun _ d _ _ _ h => by cases d <;> exact h) (fun w => y_pickT S rfl rfl) ?_; clear S a; intro a S
                          refine k_pure (listed' := #[true, true, true, true, true, true, true, true, true, true, true, true, true, true, true, true, true, true, true, true, true, true, true, true, true, true, true, true, true, true, true, true, true, true]) 33 S rfl rfl rfl rfl (by kernel_rfl) rfl (fun _ d _ _ _ h => by cases d <;> exact h) (fun w => y_assign S rfl) ?_; clear S a; intro a S
                          refine k_end (by kernel_rfl) ?_
                          replace S := S.sub [(0, _), (1, _), (2, _), (3, _), (27, _), (5, _), (6, _), (7, _), (8, _), (4, _)] rfl
                          refine then_normal ?_
                          refine wp_ret ?_
                          refine end_one S rfl (res_tmp rfl) ?_
                          exact ⟨rfl, M.below⟩
                        · clear S; intro h86 S
                          exfalso; clear S M
                          have ho : ¬ (mi < k.of F ∨ (my ≠ 0 ∧ my ≠ k.inc)) := by (try simp only at h44 h48); (try simp at h75); omega
                          have := (Q2 ho).2
                          rw [this] at h86; simp at h86
                    · clear S; intro h73 S
                      exfalso; clear S M
                      have ho : mi < k.of F ∨ (my ≠ 0 ∧ my ≠ k.inc) := by (try simp only at h44 h48); (try simp at h67); omega
                      rw [(Q1 ho).2, Kn.eqb_iff.2 rfl] at h73; cases h73
                · clear S; intro h64 S
                  exfalso; clear S M
                  by_cases ho : mi < k.of F ∨ (my ≠ 0 ∧ my ≠ k.inc)
                  · obtain ⟨q1, -⟩ := Q1 ho
                    subst q1
                    (try simp only at h44 h48)
                    first
                      | (simp at h64; omega)
                      | (simp at h64; done)
                  · obtain ⟨q1, -⟩ := Q2 ho
                    have e : (how == 0) = false := by simp; omega
                    rw [e] at h64
                    (try simp only at h44 h48)
                    first
                      | (simp at h64; omega)
                      | (simp at h64; done)
                      | omega
              · clear S; intro h58 S
                first | replace h58 := nrmA h58 | replace h58 := nrmB h58 | skip
                first | replace h58 := nrm1 h58 | replace h58 := nrm2 h58 | replace h58 := nrm3 h58 | replace h58 := nrm4 h58 | replace h58 := nrm5 h58 | replace h58 := nrm6 h58 | replace h58 := of_decide_eq_true h58 | replace h58 := of_decide_eq_false h58 | skip
                simp at h58
            · clear S; intro h48 S
              first | replace h48 := nrmA h48 | replace h48 := nrmB h48 | skip
              first | replace h48 := nrm1 h48 | replace h48 := nrm2 h48 | replace h48 := nrm3 h48 | replace h48 := nrm4 h48 | replace h48 := nrm5 h48 | replace h48 := nrm6 h48 | replace h48 := of_decide_eq_true h48 | replace h48 := of_decide_eq_false h48 | skip
              refine qt_skip 5 S rfl ?_; clear S a; intro a S
              refine qt_y S rfl rfl rfl (fun w M => y_pickF S rfl rfl) ?_; clear S a; intro a S
              refine qt_y S rfl rfl rfl (fun w M => y_pickF S rfl rfl) ?_; clear S a; intro a S
              refine qt_y S rfl rfl rfl (fun w M => y_assign S rfl) ?_; clear S a; intro a S
              refine wpQuiet_nil ?_; clear M; intro w22 M
              replace S := S.sub [(0, _), (1, _), (2, _), (3, _), (4, _), (27, _), (5, _), (6, _), (7, _), (8, _)] rfl
              refine then_normal ?_
              refine wp_seq ?_
              -- region 5 law.go:87
              refine wp_regionK [] #[false, false, false, false, false, false, false, false, false, false, false, false, false, false, false, false, false, false, false, false, false, false, false, false, false, false, false, false, false, false, false, false, false, false] rfl M (by kernel_rfl) ?_; clear M; intro w23 M
              refine k_pure (listed' := #[true, false, false, false, false, false, false, false, false, false, false, false, false, false, false, false, false, false, false, false, false, false, false, false, false, false, false, false, false, false, false, false, false, false]) 0 S rfl rfl rfl rfl (by kernel_rfl) rfl (fun _ d _ _ _ h => by cases d <;> exact h) (fun w => y_move S rfl) ?_; clear S a; intro a S
              refine k_pure (listed' := #[true, true, false, false, false, false, false, false, false, false, false, false, false, false, false, false, false, false, false, false, false, false, false, false, false, false, false, false, false, false, false, false, false, false]) 1 S rfl rfl rfl rfl (by kernel_rfl) rfl (fun _ d _ _ _ h => by cases d <;> exact h) (fun w => y_int S rfl rfl rfl) ?_; clear S a; intro a S
              refine k_pure (listed' := #[true, true, true, false, false, false, false, false, false, false, false, false, false, false, false, false, false, false, false, false, false, false, false, false, false, false, false, false, false, false, false, false, false, false]) 2 S rfl rfl rfl rfl (by kernel_rfl) rfl (fun _ d _ _ _ h => by cases d <;> exact h) (fun w => y_move S rfl) ?_; clear S a; intro a S
              refine st_split (t := 58) S rfl ?_ ?_
              · clear S; intro h58 S
                first | replace h58 := nrmA h58 | replace h58 := nrmB h58 | skip
                first | replace h58 := nrm1 h58 | replace h58 := nrm2 h58 | replace h58 := nrm3 h58 | replace h58 := nrm4 h58 | replace h58 := nrm5 h58 | replace h58 := nrm6 h58 | replace h58 := of_decide_eq_true h58 | replace h58 := of_decide_eq_false h58 | skip
                refine k_pure (listed' := #[true, true, true, true, false, false, false, false, false, false, false, false, false, false, false, false, false, false, false, false, false, false, false, false, false, false, false, false, false, false, false, false, false, false]) 3 S rfl rfl rfl rfl (by kernel_rfl) rfl (fun _ d _ _ _ h => by cases d <;> exact h) (fun w => y_move S rfl) ?_; clear S a; intro a S
                refine k_pure (listed' := #[true, true, true, true, true, false, false, false, false, false, false, false, false, false, false, false, false, false, false, false, false, false, false, false, false, false, false, false, false, false, false, false, false, false]) 4 S rfl rfl rfl rfl (by kernel_rfl) rfl (fun _ d _ _ _ h => by cases d <;> exact h) (fun w => y_int S rfl rfl rfl) ?_; clear S a; intro a S
                refine k_pure (listed' := #[true, true, true, true, true, true, false, false, false, false, false, false, false, false, false, false, false, false, false, false, false, false, false, false, false, false, false, false, false, false, false, false, false, false]) 5 S rfl rfl rfl rfl (by kernel_rfl) rfl (fun _ d _ _ _ h => by cases d <;> exact h) (fun w => y_move S rfl) ?_; clear S a; intro a S
                refine k_pure (listed' := #[true, true, true, true, true, true, true, false, false, false, false, false, false, false, false, false, false, false, false, false, false, false, false, false, false, false, false, false, false, false, false, false, false, false]) 6 S rfl rfl rfl rfl (by kernel_rfl) rfl (fun _ d _ _ _ h => by cases d <;> exact h) (fun w => y_eqlBool (by kernel_rfl) S rfl rfl) ?_; clear S a; intro a S
                refine k_pure (listed' := #[true, true, true, true, true, true, true, true, false, false, false, false, false, false, false, false, false, false, false, false, false, false, false, false, false, false, false, false, false, false, false, false, false, false]) 7 S rfl rfl rfl rfl (by kernel_rfl) rfl (fun _ d _ _ _ h => by cases d <;> exact h) (fun w => y_pickT S rfl rfl) ?_; clear S a; intro a S
                refine k_pure (listed' := #[true, true, true, true, true, true, true, true, true, false, false, false, false, false, false, false, false, false, false, false, false, false, false, false, false, false, false, false, false, false, false, false, false, false]) 8 S rfl rfl rfl rfl (by kernel_rfl) rfl (fun _ d _ _ _ h => by cases d <;> exact h) (fun w => y_move S rfl) ?_; clear S a; intro a S
                refine st_split (t := 64) S rfl ?_ ?_
                · clear S; intro h64 S
                  refine k_pure (listed' := #[true, true, true, true, true, true, true, true, true, true, false, false, false, false, false, false, false, false, false, false, false, false, false, false, false, false, false, false, false, false, false, false, false, false]) 9 S rfl rfl rfl rfl (by kernel_rfl) rfl (fun _ d _ _ _ h => by cases d <;> exact h) (fun w => y_move S rfl) ?_; clear S a; intro a S
                  refine k_pure (listed' := #[true, true, true, true, true, true, true, true, true, true, true, false, false, false, false, false, false, false, false, false, false, false, false, false, false, false, false, false, false, false, false, false, false, false]) 10 S rfl rfl rfl rfl (by kernel_rfl) rfl (fun _ d _ _ _ h => by cases d <;> exact h) (fun w => y_not S rfl) ?_; clear S a; intro a S
                  refine k_pure (listed' := #[true, true, true, true, true, true, true, true, true, true, true, true, false, false, false, false, false, false, false, false, false, false, false, false, false, false, false, false, false, false, false, false, false, false]) 11 S rfl rfl rfl rfl (by kernel_rfl) rfl (fun _ d _ _ _ h => by cases d <;> exact h) (fun w => y_move S rfl) ?_; clear S a; intro a S
                  refine k_no (listed' := #[true, true, true, true, true, true, true, true, true, true, true, true, true, false, false, false, false, false, false, false, false, false, false, false, false, false, false, false, false, false, false, false, false, false]) 12 S rfl rfl rfl rfl (by kernel_rfl) rfl (fun _ d _ _ _ h => by cases d <;> exact h) ?_; clear S a; intro a S
                  refine k_no (listed' := #[true, true, true, true, true, true, true, true, true, true, true, true, true, true, false, false, false, false, false, false, false, false, false, false, false, false, false, false, false, false, false, false, false, false]) 13 S rfl rfl rfl rfl (by kernel_rfl) rfl (fun _ d _ _ _ h => by cases d <;> exact h) ?_; clear S a; intro a S
                  refine k_no (listed' := #[true, true, true, true, true, true, true, true, true, true, true, true, true, true, true, false, false, false, false, false, false, false, false, false, false, false, false, false, false, false, false, false, false, false]) 14 S rfl rfl rfl rfl (by kernel_rfl) rfl (fun _ d _ _ _ h => by cases d <;> exact h) ?_; clear S a; intro a S
                  refine k_pure (listed' := #[true, true, true, true, true, true, true, true, true, true, true, true, true, true, true, true, false, false, false, false, false, false, false, false, false, false, false, false, false, false, false, false, false, false]) 15 S rfl rfl rfl rfl (by kernel_rfl) rfl (fun _ d _ _ _ h => by cases d <;> exact h) (fun w => y_pickT S rfl rfl) ?_; clear S a; intro a S
                  refine k_pure (listed' := #[true, true, true, true, true, true, true, true, true, true, true, true, true, true, true, true, true, false, false, false, false, false, false, false, false, false, false, false, false, false, false, false, false, false]) 16 S rfl rfl rfl rfl (by kernel_rfl) rfl (fun _ d _ _ _ h => by cases d <;> exact h) (fun w => y_pickT S rfl rfl) ?_; clear S a; intro a S
                  refine k_pure (listed' := #[true, true, true, true, true, true, true, true, true, true, true, true, true, true, true, true, true, true, false, false, false, false, false, false, false, false, false, false, false, false, false, false, false, false]) 17 S rfl rfl rfl rfl (by kernel_rfl) rfl (fun _ d _ _ _ h => by cases d <;> exact h) (fun w => y_move S rfl) ?_; clear S a; intro a S
                  refine k_pure (listed' := #[true, true, true, true, true, true, true, true, true, true, true, true, true, true, true, true, true, true, true, false, false, false, false, false, false, false, false, false, false, false, false, false, false, false]) 18 S rfl rfl rfl rfl (by kernel_rfl) rfl (fun _ d _ _ _ h => by cases d <;> exact h) (fun w => y_move S rfl) ?_; clear S a; intro a S
                  refine k_pure (listed' := #[true, true, true, true, true, true, true, true, true, true, true, true, true, true, true, true, true, true, true, true, false, false, false, false, false, false, false, false, false, false, false, false, false, false]) 19 S rfl rfl rfl rfl (by kernel_rfl) rfl (fun _ d _ _ _ h => by cases d <;> exact h) (fun w => y_move S rfl) ?_; clear S a; intro a S
                  refine k_pure (listed' := #[true, true, true, true, true, true, true, true, true, true, true, true, true, true, true, true, true, true, true, true, true, false, false, false, false, false, false, false, false, false, false, false, false, false]) 20 S rfl rfl rfl rfl (by kernel_rfl) rfl (fun _ d _ _ _ h => by cases d <;> exact h) (fun w => y_fieldAddr (k := 1) S (by kernel_rfl) rfl) ?_; clear S a; intro a S
                  refine k_read (listed' := #[true, true, true, true, true, true, true, true, true, true, true, true, true, true, true, true, true, true, true, true, true, true, false, false, false, false, false, false, false, false, false, false, false, false]) 21 S rfl rfl rfl rfl (by kernel_rfl) rfl (fun _ d _ _ _ h => by cases d <;> exact h) (fun w hW => have M := M.grow hW; y_load S (by kernel_rfl) rfl (M.cell 1 rfl rfl)) ?_; clear S a; intro a S
                  refine k_pure (listed' := #[true, true, true, true, true, true, true, true, true, true, true, true, true, true, true, true, true, true, true, true, true, true, true, false, false, false, false, false, false, false, false, false, false, false]) 22 S rfl rfl rfl rfl (by kernel_rfl) rfl (fun _ d _ _ _ h => by cases d <;> exact h) (fun w => y_fieldAddr (k := 2) S (by kernel_rfl) rfl) ?_; clear S a; intro a S
                  refine k_pure (listed' := #[true, true, true, true, true, true, true, true, true, true, true, true, true, true, true, true, true, true, true, true, true, true, true, true, false, false, false, false, false, false, false, false, false, false]) 23 S rfl rfl rfl rfl (by kernel_rfl) rfl (fun _ d _ _ _ h => by cases d <;> exact h) (fun w => y_indexA (m := 5) (sz := 1) S (by kernel_rfl) rfl rfl (by first | omega | (simp; done) | (simp; omega))) ?_; clear S a; intro a S
                  try simp only [Int.toNat_natCast, Nat.mul_one, Nat.zero_add] at S
                  refine k_read (listed' := #[true, true, true, true, true, true, true, true, true, true, true, true, true, true, true, true, true, true, true, true, true, true, true, true, true, false, false, false, false, false, false, false, false, false]) 24 S rfl rfl rfl rfl (by kernel_rfl) rfl (fun _ d _ _ _ h => by cases d <;> exact h) (fun w hW => have M := M.grow hW; y_load S (by kernel_rfl) rfl (M.cell 0 rfl (kn_get (k := o) (by omega)))) ?_; clear S a; intro a S
                  refine k_pure (listed' := #[true, true, true, true, true, true, true, true, true, true, true, true, true, true, true, true, true, true, true, true, true, true, true, true, true, true, false, false, false, false, false, false, false, false]) 25 S rfl rfl rfl rfl (by kernel_rfl) rfl (fun _ d _ _ _ h => by cases d <;> exact h) (fun w => y_fieldAddr (k := 3) S (by kernel_rfl) rfl) ?_; clear S a; intro a S
                  refine k_read (listed' := #[true, true, true, true, true, true, true, true, true, true, true, true, true, true, true, true, true, true, true, true, true, true, true, true, true, true, true, false, false, false, false, false, false, false]) 26 S rfl rfl rfl rfl (by kernel_rfl) rfl (fun _ d _ _ _ h => by cases d <;> exact h) (fun w hW => have M := M.grow hW; y_load S (by kernel_rfl) rfl (M.cell 1 rfl rfl)) ?_; clear S a; intro a S
                  refine k_pure (listed' := #[true, true, true, true, true, true, true, true, true, true, true, true, true, true, true, true, true, true, true, true, true, true, true, true, true, true, true, true, false, false, false, false, false, false]) 27 S rfl rfl rfl rfl (by kernel_rfl) rfl (fun _ d _ _ _ h => by cases d <;> exact h) (fun w => y_int S rfl rfl rfl) ?_; clear S a; intro a S
                  refine k_pure (listed' := #[true, true, true, true, true, true, true, true, true, true, true, true, true, true, true, true, true, true, true, true, true, true, true, true, true, true, true, true, true, false, false, false, false, false]) 28 S rfl rfl rfl rfl (by kernel_rfl) rfl (fun _ d _ _ _ h => by cases d <;> exact h) (fun w => y_pickF S rfl rfl) ?_; clear S a; intro a S
                  refine k_pure (listed' := #[true, true, true, true, true, true, true, true, true, true, true, true, true, true, true, true, true, true, true, true, true, true, true, true, true, true, true, true, true, true, false, false, false, false]) 29 S rfl rfl rfl rfl (by kernel_rfl) rfl (fun _ d _ _ _ h => by cases d <;> exact h) (fun w => y_pickT S rfl rfl) ?_; clear S a; intro a S
                  refine k_pure (listed' := #[true, true, true, true, true, true, true, true, true, true, true, true, true, true, true, true, true, true, true, true, true, true, true, true, true, true, true, true, true, true, true, false, false, false]) 30 S rfl rfl rfl rfl (by kernel_rfl) rfl (fun _ d _ _ _ h => by cases d <;> exact h) (fun w => y_move S rfl) ?_; clear S a; intro a S
                  refine st_split (t := 86) S rfl ?_ ?_
                  · clear S; intro h86 S
                    refine k_one (listed' := #[true, true, true, true, true, true, true, true, true, true, true, true, true, true, true, true, true, true, true, true, true, true, true, true, true, true, true, true, true, true, true, true, false, false]) 31 rfl (by kernel_rfl) rfl ?_
                    refine st_call (xs := []) S (enters_of Try.func7 (by decide) rfl) rfl rfl rfl (wakes_any _) ?_
                    rintro _ w24 ⟨rfl, hK⟩; refine ⟨_, rfl, ?_⟩; clear S a; intro a S; replace M := M.grow hK
                    refine wpList_nil ?_; refine then_normal ?_; refine ⟨fun _ => hK, ?_⟩
                    refine k_pure (listed' := #[true, true, true, true, true, true, true, true, true, true, true, true, true, true, true, true, true, true, true, true, true, true, true, true, true, true, true, true, true, true, true, true, true, false]) 32 S rfl rfl rfl rfl (by kernel_rfl) rfl (fun _ d _ _ _ h => by cases d <;> exact h) (fun w => y_pickT S rfl rfl) ?_; clear S a; intro a S
                    refine k_pure (listed' := #[true, true, true, true, true, true, true, true, true, true, true, true, true, true, true, true, true, true, true, true, true, true, true, true, true, true, true, true, true, true, true, true, true, true]) 33 S rfl rfl rfl rfl (by kernel_rfl) rfl (fun _ d _ _ _ h => by cases d <;> exact h) (fun w => y_assign S rfl) ?_; clear S a; intro a S
                    refine k_end (by kernel_rfl) ?_
                    replace S := S.sub [(0, _), (1, _), (2, _), (3, _), (27, _), (5, _), (6, _), (7, _), (8, _), (4, _)] rfl
                    refine then_normal ?_
                    refine wp_ret ?_
                    refine end_one S rfl (res_tmp rfl) ?_
                    exact ⟨rfl, M.below⟩
                  · clear S; intro h86 S
                    exfalso; clear S M
                    have ho : ¬ (mi < k.of F ∨ (my ≠ 0 ∧ my ≠ k.inc)) := by (try simp only at h44 h48); (try simp at h75); omega
                    have := (Q2 ho).2
                    rw [this] at h86; simp at h86
                · clear S; intro h64 S
                  exfalso; clear S M
                  by_cases ho : mi < k.of F ∨ (my ≠ 0 ∧ my ≠ k.inc)
                  · obtain ⟨q1, -⟩ := Q1 ho
                    subst q1
                    (try simp only at h44 h48)
                    first
                      | (simp at h64; omega)
                      | (simp at h64; done)
                  · obtain ⟨q1, -⟩ := Q2 ho
                    have e : (how == 0) = false := by simp; omega
                    rw [e] at h64
                    (try simp only at h44 h48)
                    first
                      | (simp at h64; omega)
                      | (simp at h64; done)
                      | omega
              · clear S; intro h58 S
                first | replace h58 := nrmA h58 | replace h58 := nrmB h58 | skip
                first | replace h58 := nrm1 h58 | replace h58 := nrm2 h58 | replace h58 := nrm3 h58 | replace h58 := nrm4 h58 | replace h58 := nrm5 h58 | replace h58 := nrm6 h58 | replace h58 := of_decide_eq_true h58 | replace h58 := of_decide_eq_false h58 | skip
                simp at h58

end Go.Proofs.Ytdcihmdchabcnaa
