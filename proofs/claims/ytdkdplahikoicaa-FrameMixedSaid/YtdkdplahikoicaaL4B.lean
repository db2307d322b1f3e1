/-
  FrameMixed.
-/
import Derived.Test.YtdkdplahikoicaaL4A
import Derived.Test.YtdkdplahikoicaaSumsC
namespace Go.Proofs.Ytdkdplahikoicaa
open Go.RowKit Go.Sort

theorem FrsC.two {b : Nat} {w : World} {f g : Fr} {lv lu : Value} {bs ds : List UInt8} {t : TypeId} (B : Blk w b (f.cells lv ++ g.cells lu).toArray t) (h1 : Bs 0 w.heap.size w lv bs) (h2 : Bs 0 w.heap.size w lu ds) :
    FrsC (f.cells lv ++ g.cells lu) 0 w.heap.size w (.slice (some ⟨b, 0, none⟩) 2 2) [(f, bs), (g, ds)] := by
  have hlt := B.lt
  refine ⟨(Rd.of_blk B rfl (Nat.le_refl _) (by unfold maxLen; omega) rfl).wide (Nat.zero_le _) hlt, fun i x ys hi => ?_⟩
  match i, hi with
  | 0, hi => simp at hi; obtain ⟨rfl, rfl⟩ := hi; exact ⟨lv, rfl, h1⟩
  | 1, hi => simp at hi; obtain ⟨rfl, rfl⟩ := hi; exact ⟨lu, rfl, h2⟩
  | i + 2, hi => simp at hi

theorem cutF_two {bs : List UInt8} {seq inc : Int} (h : (cutR bs seq inc).length = 2) : cutOk bs seq inc ∧ cutR bs seq inc = [frOf bs seq inc 0, frOf bs seq inc 1] := by
  unfold cutR at h ⊢
  by_cases hc : cutOk bs seq inc
  · rw [if_pos hc] at h ⊢
    refine ⟨hc, ?_⟩
    simp only [cutF, List.length_map, List.length_range] at h
    unfold cutF
    rw [h]; rfl
  · rw [if_neg hc] at h; simp at h

/-- what is joined has one incarnation, one mark, and its parts in order -/
theorem join_two {f g : Fr} {bs ds : List UInt8} (h : joinOk [(f, bs), (g, ds)]) : f.inc = g.inc ∧ f.mark = g.mark ∧ f.part = 0 := by
  obtain ⟨f', bs', r, e, _, _, _, hc⟩ := h
  have e1 := (List.cons.inj e).1
  obtain ⟨rfl, rfl⟩ := Prod.mk.inj e1
  have h0 := congrArg (fun l => l[0]?) hc
  have h1 := congrArg (fun l => l[1]?) hc
  generalize outF [(f, bs), (g, ds)] = out at *
  simp only [cutF, List.getElem?_map, List.getElem?_cons_zero, List.getElem?_cons_succ] at h0 h1
  cases r0 : (List.range (nOf out.length))[0]? with
  | none => rw [r0] at h0; cases h0
  | some x =>
    cases r1 : (List.range (nOf out.length))[1]? with
    | none => rw [r1] at h1; cases h1
    | some y =>
      rw [r0] at h0; rw [r1] at h1
      simp only [Option.map_some, Option.some.injEq, frOf, Prod.mk.injEq] at h0 h1
      have hx : x = 0 := by have := (List.getElem?_eq_some_iff.1 r0).2; simpa using this.symm
      have hf := h0.1; have hg := h1.1
      refine ⟨?_, ?_, ?_⟩
      · rw [← hg]
      · rw [← hg]; have := congrArg Fr.mark hf; exact this.symm
      · have := congrArg Fr.part hf; simp only at this; rw [← this, hx]; rfl

theorem mixed_any (va vb : Value) (x y : List UInt8) (seq inc other : Int) (w : World) (hva : Bs 0 w.heap.size w va x) (hvb : Bs 0 w.heap.size w vb y) (hseq : -9223372036854775808 ≤ seq ∧ seq ≤ 9223372036854775807) :
    Calls Try.prog 3 #[va, vb, .int .i64 seq, .int .i64 inc, .int .i64 other] w fun e w' => e = .returned (.bool true) ∧ Below w.heap.size w w' := by
  have M := Mem.start w
  refine calls_enter Try.func3 rfl 118 rfl rfl ?_; intro a S
  refine wp_seq ?_
  -- region 0 law.go:96
  refine wp_region_lit ?_
  refine st_y S rfl rfl rfl (y_assign S rfl) ?_; clear S a; intro a S
  refine wpList_nil ?_
  replace S := S.sub [(0, _), (1, _), (2, _), (3, _), (4, _), (10, _)] rfl
  refine then_normal ?_
  refine wp_seq ?_
  refine wp_seq ?_
  -- region 1 law.go:97
  refine wp_region_lit ?_
  refine st_y S rfl rfl rfl (y_move S rfl) ?_; clear S a; intro a S
  refine st_y S rfl rfl rfl (y_lenR (E := 5) S rfl (M.arg hva) (by kernel_rfl)) ?_; clear S a; intro a S
  refine st_y S rfl rfl rfl (y_int S rfl rfl rfl) ?_; clear S a; intro a S
  refine st_y S rfl rfl rfl (y_move S rfl) ?_; clear S a; intro a S
  refine st_split (t := 24) S rfl ?_ ?_
  · clear S; intro h24 S
    first | replace h24 := nrmA h24 | replace h24 := nrmB h24 | skip
    first | replace h24 := nrm1 h24 | replace h24 := nrm2 h24 | replace h24 := nrm3 h24 | replace h24 := nrm4 h24 | replace h24 := nrm5 h24 | replace h24 := nrm6 h24 | replace h24 := of_decide_eq_true h24 | replace h24 := of_decide_eq_false h24 | skip
    refine st_no S rfl rfl rfl ?_; clear S a; intro a S
    refine st_no S rfl rfl rfl ?_; clear S a; intro a S
    refine st_no S rfl rfl rfl ?_; clear S a; intro a S
    refine st_y S rfl rfl rfl (y_pickT S rfl rfl) ?_; clear S a; intro a S
    refine wpList_nil ?_
    replace S := S.sub [(0, _), (1, _), (2, _), (3, _), (4, _), (10, _), (28, _)] rfl
    refine then_normal ?_
    refine st_condT S rfl ?_
    refine wp_seq ?_
    -- region 2 law.go:98
    refine wp_region_lit ?_
    refine st_call (xs := []) S (enters_of Try.func7 (by decide) rfl) rfl rfl rfl (wakes04 _) ?_
    rintro _ w1 ⟨rfl, hK⟩; refine ⟨_, rfl, ?_⟩; clear S a; intro a S; replace M := M.grow hK
    refine st_y S rfl rfl rfl (y_assign S rfl) ?_; clear S a; intro a S
    refine wpList_nil ?_
    replace S := S.sub [(0, _), (1, _), (2, _), (3, _), (4, _), (28, _), (10, _)] rfl
    refine then_normal ?_
    refine wp_ret ?_
    refine then_ret ?_
    refine end_one S rfl (res_tmp rfl) ?_
    exact ⟨rfl, M.below⟩
  · clear S; intro h24 S
    first | replace h24 := nrmA h24 | replace h24 := nrmB h24 | skip
    first | replace h24 := nrm1 h24 | replace h24 := nrm2 h24 | replace h24 := nrm3 h24 | replace h24 := nrm4 h24 | replace h24 := nrm5 h24 | replace h24 := nrm6 h24 | replace h24 := of_decide_eq_true h24 | replace h24 := of_decide_eq_false h24 | skip
    refine st_y S rfl rfl rfl (y_move S rfl) ?_; clear S a; intro a S
    refine st_y S rfl rfl rfl (y_lenR (E := 5) S rfl (M.arg hvb) (by kernel_rfl)) ?_; clear S a; intro a S
    refine st_y S rfl rfl rfl (y_int S rfl rfl rfl) ?_; clear S a; intro a S
    refine st_y S rfl rfl rfl (y_pickF S rfl rfl) ?_; clear S a; intro a S
    refine wpList_nil ?_
    replace S := S.sub [(0, _), (1, _), (2, _), (3, _), (4, _), (10, _), (28, _)] rfl
    refine then_normal ?_
    refine st_split (t := 28) S rfl ?_ ?_
    · clear S; intro h28 S
      first | replace h28 := nrmA h28 | replace h28 := nrmB h28 | skip
      first | replace h28 := nrm1 h28 | replace h28 := nrm2 h28 | replace h28 := nrm3 h28 | replace h28 := nrm4 h28 | replace h28 := nrm5 h28 | replace h28 := nrm6 h28 | replace h28 := of_decide_eq_true h28 | replace h28 := of_decide_eq_false h28 | skip
      refine st_condT S rfl ?_
      refine wp_seq ?_
      -- region 2 law.go:98
      refine wp_region_lit ?_
      refine st_call (xs := []) S (enters_of Try.func7 (by decide) rfl) rfl rfl rfl (wakes04 _) ?_
      rintro _ w2 ⟨rfl, hK⟩; refine ⟨_, rfl, ?_⟩; clear S a; intro a S; replace M := M.grow hK
      refine st_y S rfl rfl rfl (y_assign S rfl) ?_; clear S a; intro a S
      refine wpList_nil ?_
      replace S := S.sub [(0, _), (1, _), (2, _), (3, _), (4, _), (28, _), (10, _)] rfl
      refine then_normal ?_
      refine wp_ret ?_
      refine then_ret ?_
      refine end_one S rfl (res_tmp rfl) ?_
      exact ⟨rfl, M.below⟩
    · clear S; intro h28 S
      first | replace h28 := nrmA h28 | replace h28 := nrmB h28 | skip
      first | replace h28 := nrm1 h28 | replace h28 := nrm2 h28 | replace h28 := nrm3 h28 | replace h28 := nrm4 h28 | replace h28 := nrm5 h28 | replace h28 := nrm6 h28 | replace h28 := of_decide_eq_true h28 | replace h28 := of_decide_eq_false h28 | skip
      refine st_condF S rfl ?_
      refine wp_skip ?_
      refine then_normal ?_
      refine wp_seq ?_
      -- region 3 law.go:100
      refine wp_region_lit ?_
      refine st_y S rfl rfl rfl (y_move S rfl) ?_; clear S a; intro a S
      refine st_y S rfl rfl rfl (y_move S rfl) ?_; clear S a; intro a S
      refine st_y S rfl rfl rfl (y_move S rfl) ?_; clear S a; intro a S
      refine st_call (xs := [(Operand.tmp 31), (Operand.tmp 32), (Operand.tmp 33)]) S (enters_of Try.func8 (by decide) rfl) rfl rfl rfl (cut_any _ x seq inc _ (M.argW hva) hseq) ?_
      rintro _ w3 ⟨v1, rfl, hK, cs1, hF⟩; refine ⟨_, rfl, ?_⟩; clear S a; intro a S
      obtain ⟨lo1, hi1, hlo1, M⟩ := M.pushFrs hK hF
      refine st_y S rfl rfl rfl (y_move S rfl) ?_; clear S a; intro a S
      refine st_y S rfl rfl rfl (y_extract S rfl rfl) ?_; clear S a; intro a S
      refine st_y S rfl rfl rfl (y_extract S rfl rfl) ?_; clear S a; intro a S
      refine st_y S rfl rfl rfl (y_assign S rfl) ?_; clear S a; intro a S
      refine st_y S rfl rfl rfl (y_assign S rfl) ?_; clear S a; intro a S
      refine wpList_nil ?_
      replace S := S.sub [(0, _), (1, _), (2, _), (3, _), (4, _), (10, _), (28, _), (11, _), (12, _)] rfl
      refine then_normal ?_
      refine wp_seq ?_
      -- region 4 law.go:101
      refine wp_region_lit ?_
      refine st_y S rfl rfl rfl (y_move S rfl) ?_; clear S a; intro a S
      refine st_y S rfl rfl rfl (y_move S rfl) ?_; clear S a; intro a S
      refine st_y S rfl rfl rfl (y_move S rfl) ?_; clear S a; intro a S
      refine st_call (xs := [(Operand.tmp 38), (Operand.tmp 39), (Operand.tmp 40)]) S (enters_of Try.func8 (by decide) rfl) rfl rfl rfl (cut_any _ y seq other _ (M.argW hvb) hseq) ?_
      rintro _ w4 ⟨v2, rfl, hK, cs2, hF2⟩; refine ⟨_, rfl, ?_⟩; clear S a; intro a S
      obtain ⟨lo2, hi2, hlo2, M⟩ := M.pushFrs hK hF2
      refine st_y S rfl rfl rfl (y_move S rfl) ?_; clear S a; intro a S
      refine st_y S rfl rfl rfl (y_extract S rfl rfl) ?_; clear S a; intro a S
      refine st_y S rfl rfl rfl (y_extract S rfl rfl) ?_; clear S a; intro a S
      refine st_y S rfl rfl rfl (y_assign S rfl) ?_; clear S a; intro a S
      refine st_y S rfl rfl rfl (y_assign S rfl) ?_; clear S a; intro a S
      refine wpList_nil ?_
      replace S := S.sub [(0, _), (1, _), (2, _), (3, _), (4, _), (10, _), (28, _), (11, _), (12, _), (13, _), (14, _)] rfl
      refine then_normal ?_
      refine wp_seq ?_
      refine wp_seq ?_
      -- region 5 law.go:102
      refine wp_region_lit ?_
      refine st_y S rfl rfl rfl (y_move S rfl) ?_; clear S a; intro a S
      refine st_y S rfl rfl rfl (y_int S rfl rfl rfl) ?_; clear S a; intro a S
      refine st_y S rfl rfl rfl (y_move S rfl) ?_; clear S a; intro a S
      refine st_split (t := 46) S rfl ?_ ?_
      · clear S; intro h46 S
        first | replace h46 := nrmA h46 | replace h46 := nrmB h46 | skip
        first | replace h46 := nrm1 h46 | replace h46 := nrm2 h46 | replace h46 := nrm3 h46 | replace h46 := nrm4 h46 | replace h46 := nrm5 h46 | replace h46 := nrm6 h46 | replace h46 := of_decide_eq_true h46 | replace h46 := of_decide_eq_false h46 | skip
        refine st_no S rfl rfl rfl ?_; clear S a; intro a S
        refine st_no S rfl rfl rfl ?_; clear S a; intro a S
        refine st_y S rfl rfl rfl (y_pickT S rfl rfl) ?_; clear S a; intro a S
        refine st_y S rfl rfl rfl (y_move S rfl) ?_; clear S a; intro a S
        refine st_no S rfl rfl rfl ?_; clear S a; intro a S
        refine st_no S rfl rfl rfl ?_; clear S a; intro a S
        refine st_no S rfl rfl rfl ?_; clear S a; intro a S
        refine st_y S rfl rfl rfl (y_pickT S rfl rfl) ?_; clear S a; intro a S
        refine st_y S rfl rfl rfl (y_move S rfl) ?_; clear S a; intro a S
        refine st_no S rfl rfl rfl ?_; clear S a; intro a S
        refine st_no S rfl rfl rfl ?_; clear S a; intro a S
        refine st_no S rfl rfl rfl ?_; clear S a; intro a S
        refine st_y S rfl rfl rfl (y_pickT S rfl rfl) ?_; clear S a; intro a S
        refine wpList_nil ?_
        replace S := S.sub [(0, _), (1, _), (2, _), (3, _), (4, _), (10, _), (28, _), (11, _), (12, _), (13, _), (14, _), (59, _)] rfl
        refine then_normal ?_
        refine st_condT S rfl ?_
        refine wp_seq ?_
        -- region 6 law.go:103
        refine wp_region_lit ?_
        refine st_call (xs := []) S (enters_of Try.func7 (by decide) rfl) rfl rfl rfl (wakes04 _) ?_
        rintro _ w5 ⟨rfl, hK⟩; refine ⟨_, rfl, ?_⟩; clear S a; intro a S; replace M := M.grow hK
        refine st_y S rfl rfl rfl (y_assign S rfl) ?_; clear S a; intro a S
        refine wpList_nil ?_
        replace S := S.sub [(0, _), (1, _), (2, _), (3, _), (4, _), (28, _), (11, _), (12, _), (13, _), (14, _), (59, _), (10, _)] rfl
        refine then_normal ?_
        refine wp_ret ?_
        refine then_ret ?_
        refine end_one S rfl (res_tmp rfl) ?_
        exact ⟨rfl, M.below⟩
      · clear S; intro h46 S
        first | replace h46 := nrmA h46 | replace h46 := nrmB h46 | skip
        first | replace h46 := nrm1 h46 | replace h46 := nrm2 h46 | replace h46 := nrm3 h46 | replace h46 := nrm4 h46 | replace h46 := nrm5 h46 | replace h46 := nrm6 h46 | replace h46 := of_decide_eq_true h46 | replace h46 := of_decide_eq_false h46 | skip
        refine st_y S rfl rfl rfl (y_move S rfl) ?_; clear S a; intro a S
        refine st_y S rfl rfl rfl (y_int S rfl rfl rfl) ?_; clear S a; intro a S
        refine st_y S rfl rfl rfl (y_pickF S rfl rfl) ?_; clear S a; intro a S
        refine st_y S rfl rfl rfl (y_move S rfl) ?_; clear S a; intro a S
        refine st_split (t := 50) S rfl ?_ ?_
        · clear S; intro h50 S
          first | replace h50 := nrmA h50 | replace h50 := nrmB h50 | skip
          first | replace h50 := nrm1 h50 | replace h50 := nrm2 h50 | replace h50 := nrm3 h50 | replace h50 := nrm4 h50 | replace h50 := nrm5 h50 | replace h50 := nrm6 h50 | replace h50 := of_decide_eq_true h50 | replace h50 := of_decide_eq_false h50 | skip
          refine st_no S rfl rfl rfl ?_; clear S a; intro a S
          refine st_no S rfl rfl rfl ?_; clear S a; intro a S
          refine st_no S rfl rfl rfl ?_; clear S a; intro a S
          refine st_y S rfl rfl rfl (y_pickT S rfl rfl) ?_; clear S a; intro a S
          refine st_y S rfl rfl rfl (y_move S rfl) ?_; clear S a; intro a S
          refine st_no S rfl rfl rfl ?_; clear S a; intro a S
          refine st_no S rfl rfl rfl ?_; clear S a; intro a S
          refine st_no S rfl rfl rfl ?_; clear S a; intro a S
          refine st_y S rfl rfl rfl (y_pickT S rfl rfl) ?_; clear S a; intro a S
          refine wpList_nil ?_
          replace S := S.sub [(0, _), (1, _), (2, _), (3, _), (4, _), (10, _), (28, _), (11, _), (12, _), (13, _), (14, _), (59, _)] rfl
          refine then_normal ?_
          refine st_condT S rfl ?_
          refine wp_seq ?_
          -- region 6 law.go:103
          refine wp_region_lit ?_
          refine st_call (xs := []) S (enters_of Try.func7 (by decide) rfl) rfl rfl rfl (wakes04 _) ?_
          rintro _ w6 ⟨rfl, hK⟩; refine ⟨_, rfl, ?_⟩; clear S a; intro a S; replace M := M.grow hK
          refine st_y S rfl rfl rfl (y_assign S rfl) ?_; clear S a; intro a S
          refine wpList_nil ?_
          replace S := S.sub [(0, _), (1, _), (2, _), (3, _), (4, _), (28, _), (11, _), (12, _), (13, _), (14, _), (59, _), (10, _)] rfl
          refine then_normal ?_
          refine wp_ret ?_
          refine then_ret ?_
          refine end_one S rfl (res_tmp rfl) ?_
          exact ⟨rfl, M.below⟩
        · clear S; intro h50 S
          first | replace h50 := nrmA h50 | replace h50 := nrmB h50 | skip
          first | replace h50 := nrm1 h50 | replace h50 := nrm2 h50 | replace h50 := nrm3 h50 | replace h50 := nrm4 h50 | replace h50 := nrm5 h50 | replace h50 := nrm6 h50 | replace h50 := of_decide_eq_true h50 | replace h50 := of_decide_eq_false h50 | skip
          refine st_y S rfl rfl rfl (y_move S rfl) ?_; clear S a; intro a S
          refine st_y S rfl rfl rfl (y_lenR (E := 33) S rfl ((M.own 1 rfl).1) (by kernel_rfl)) ?_; clear S a; intro a S
          refine st_y S rfl rfl rfl (y_int S rfl rfl rfl) ?_; clear S a; intro a S
          refine st_y S rfl rfl rfl (y_pickF S rfl rfl) ?_; clear S a; intro a S
          refine st_y S rfl rfl rfl (y_move S rfl) ?_; clear S a; intro a S
          refine st_split (t := 55) S rfl ?_ ?_
          · clear S; intro h55 S
            first | replace h55 := nrmA h55 | replace h55 := nrmB h55 | skip
            first | replace h55 := nrm1 h55 | replace h55 := nrm2 h55 | replace h55 := nrm3 h55 | replace h55 := nrm4 h55 | replace h55 := nrm5 h55 | replace h55 := nrm6 h55 | replace h55 := of_decide_eq_true h55 | replace h55 := of_decide_eq_false h55 | skip
            refine st_no S rfl rfl rfl ?_; clear S a; intro a S
            refine st_no S rfl rfl rfl ?_; clear S a; intro a S
            refine st_no S rfl rfl rfl ?_; clear S a; intro a S
            refine st_y S rfl rfl rfl (y_pickT S rfl rfl) ?_; clear S a; intro a S
            refine wpList_nil ?_
            replace S := S.sub [(0, _), (1, _), (2, _), (3, _), (4, _), (10, _), (28, _), (11, _), (12, _), (13, _), (14, _), (59, _)] rfl
            refine then_normal ?_
            refine st_condT S rfl ?_
            refine wp_seq ?_
            -- region 6 law.go:103
            refine wp_region_lit ?_
            refine st_call (xs := []) S (enters_of Try.func7 (by decide) rfl) rfl rfl rfl (wakes04 _) ?_
            rintro _ w7 ⟨rfl, hK⟩; refine ⟨_, rfl, ?_⟩; clear S a; intro a S; replace M := M.grow hK
            refine st_y S rfl rfl rfl (y_assign S rfl) ?_; clear S a; intro a S
            refine wpList_nil ?_
            replace S := S.sub [(0, _), (1, _), (2, _), (3, _), (4, _), (28, _), (11, _), (12, _), (13, _), (14, _), (59, _), (10, _)] rfl
            refine then_normal ?_
            refine wp_ret ?_
            refine then_ret ?_
            refine end_one S rfl (res_tmp rfl) ?_
            exact ⟨rfl, M.below⟩
          · clear S; intro h55 S
            first | replace h55 := nrmA h55 | replace h55 := nrmB h55 | skip
            first | replace h55 := nrm1 h55 | replace h55 := nrm2 h55 | replace h55 := nrm3 h55 | replace h55 := nrm4 h55 | replace h55 := nrm5 h55 | replace h55 := nrm6 h55 | replace h55 := of_decide_eq_true h55 | replace h55 := of_decide_eq_false h55 | skip
            refine st_y S rfl rfl rfl (y_move S rfl) ?_; clear S a; intro a S
            refine st_y S rfl rfl rfl (y_lenR (E := 33) S rfl ((M.own 0 rfl).1) (by kernel_rfl)) ?_; clear S a; intro a S
            refine st_y S rfl rfl rfl (y_int S rfl rfl rfl) ?_; clear S a; intro a S
            refine st_y S rfl rfl rfl (y_pickF S rfl rfl) ?_; clear S a; intro a S
            refine wpList_nil ?_
            replace S := S.sub [(0, _), (1, _), (2, _), (3, _), (4, _), (10, _), (28, _), (11, _), (12, _), (13, _), (14, _), (59, _)] rfl
            refine then_normal ?_
            refine st_split (t := 59) S rfl ?_ ?_
            · clear S; intro h59 S
              first | replace h59 := nrmA h59 | replace h59 := nrmB h59 | skip
              first | replace h59 := nrm1 h59 | replace h59 := nrm2 h59 | replace h59 := nrm3 h59 | replace h59 := nrm4 h59 | replace h59 := nrm5 h59 | replace h59 := nrm6 h59 | replace h59 := of_decide_eq_true h59 | replace h59 := of_decide_eq_false h59 | skip
              refine st_condT S rfl ?_
              refine wp_seq ?_
              -- region 6 law.go:103
              refine wp_region_lit ?_
              refine st_call (xs := []) S (enters_of Try.func7 (by decide) rfl) rfl rfl rfl (wakes04 _) ?_
              rintro _ w8 ⟨rfl, hK⟩; refine ⟨_, rfl, ?_⟩; clear S a; intro a S; replace M := M.grow hK
              refine st_y S rfl rfl rfl (y_assign S rfl) ?_; clear S a; intro a S
              refine wpList_nil ?_
              replace S := S.sub [(0, _), (1, _), (2, _), (3, _), (4, _), (28, _), (11, _), (12, _), (13, _), (14, _), (59, _), (10, _)] rfl
              refine then_normal ?_
              refine wp_ret ?_
              refine then_ret ?_
              refine end_one S rfl (res_tmp rfl) ?_
              exact ⟨rfl, M.below⟩
            · clear S; intro h59 S
              first | replace h59 := nrmA h59 | replace h59 := nrmB h59 | skip
              first | replace h59 := nrm1 h59 | replace h59 := nrm2 h59 | replace h59 := nrm3 h59 | replace h59 := nrm4 h59 | replace h59 := nrm5 h59 | replace h59 := nrm6 h59 | replace h59 := of_decide_eq_true h59 | replace h59 := of_decide_eq_false h59 | skip
              refine st_condF S rfl ?_
              refine wp_skip ?_
              refine then_normal ?_
              refine wp_seq ?_
              refine wp_seq ?_
              -- region 7 law.go:105
              refine wp_region_lit ?_
              refine st_y S rfl rfl rfl (y_move S rfl) ?_; clear S a; intro a S
              refine st_y S rfl rfl rfl (y_move S rfl) ?_; clear S a; intro a S
              refine st_y S rfl rfl rfl (y_int S rfl rfl rfl) ?_; clear S a; intro a S
              refine st_y S rfl rfl rfl (y_move S rfl) ?_; clear S a; intro a S
              refine st_split (t := 64) S rfl ?_ ?_
              · clear S; intro h64 S
                first | replace h64 := nrmA h64 | replace h64 := nrmB h64 | skip
                first | replace h64 := nrm1 h64 | replace h64 := nrm2 h64 | replace h64 := nrm3 h64 | replace h64 := nrm4 h64 | replace h64 := nrm5 h64 | replace h64 := nrm6 h64 | replace h64 := of_decide_eq_true h64 | replace h64 := of_decide_eq_false h64 | skip
                refine st_y S rfl rfl rfl (y_move S rfl) ?_; clear S a; intro a S
                refine st_call (xs := [(Operand.tmp 65)]) S (enters_of Try.func9 (by decide) rfl) rfl rfl rfl (refSum_any va x _ (M.argW hva)) ?_
                rintro _ w9 ⟨rfl, hK⟩; refine ⟨_, rfl, ?_⟩; clear S a; intro a S; replace M := M.grow hK
                refine st_y S rfl rfl rfl (y_move S rfl) ?_; clear S a; intro a S
                refine st_call (xs := [(Operand.tmp 67)]) S (enters_of Try.func9 (by decide) rfl) rfl rfl rfl (refSum_any vb y _ (M.argW hvb)) ?_
                rintro _ w10 ⟨rfl, hK⟩; refine ⟨_, rfl, ?_⟩; clear S a; intro a S; replace M := M.grow hK
                refine st_y S rfl rfl rfl (y_eql32 S rfl rfl) ?_; clear S a; intro a S
                refine st_y S rfl rfl rfl (y_pickT S rfl rfl) ?_; clear S a; intro a S
                refine wpList_nil ?_
                replace S := S.sub [(0, _), (1, _), (2, _), (3, _), (4, _), (10, _), (28, _), (11, _), (12, _), (13, _), (14, _), (59, _), (70, _)] rfl
                refine then_normal ?_
                refine st_split (t := 70) S rfl ?_ ?_
                · clear S; intro h70 S
                  refine st_condT S rfl ?_
                  refine wp_seq ?_
                  -- region 8 law.go:106
                  refine wp_region_lit ?_
                  refine st_call (xs := []) S (enters_of Try.func7 (by decide) rfl) rfl rfl rfl (wakes04 _) ?_
                  rintro _ w11 ⟨rfl, hK⟩; refine ⟨_, rfl, ?_⟩; clear S a; intro a S; replace M := M.grow hK
                  refine st_y S rfl rfl rfl (y_assign S rfl) ?_; clear S a; intro a S
                  refine wpList_nil ?_
                  replace S := S.sub [(0, _), (1, _), (2, _), (3, _), (4, _), (28, _), (11, _), (12, _), (13, _), (14, _), (59, _), (70, _), (10, _)] rfl
                  refine then_normal ?_
                  refine wp_ret ?_
                  refine then_ret ?_
                  refine end_one S rfl (res_tmp rfl) ?_
                  exact ⟨rfl, M.below⟩
                · clear S; intro h70 S
                  refine st_condF S rfl ?_
                  refine wp_skip ?_
                  refine then_normal ?_
                  refine wp_seq ?_
                  -- region 9 law.go:108
                  have hl1 : (cutR x seq inc).length = 2 := by omega
                  have hl2 : (cutR y seq other).length = 2 := by omega
                  obtain ⟨hc1, e1⟩ := cutF_two hl1
                  obtain ⟨hc2, e2⟩ := cutF_two hl2
                  rw [e1, e2] at M
                  have hne : inc ≠ other ∨ sumT x ≠ sumT y := by
                    first
                      | (left; assumption)
                      | (right; intro he; rw [he] at h70; simp at h70)
                  have f0 := M.fits _ (List.mem_of_getElem? (show _[0]? = _ from rfl))
                  have f1 := M.fits _ (List.mem_of_getElem? (show _[1]? = _ from rfl))
                  simp only [Ent.lo, Ent.hi] at f0 f1
                  obtain ⟨p0, hp0, -⟩ := (M.own 1 rfl).2 0 _ _ rfl
                  obtain ⟨p1, hp1, -⟩ := (M.own 1 rfl).2 1 _ _ rfl
                  obtain ⟨q0, hq0, -⟩ := (M.own 0 rfl).2 0 _ _ rfl
                  obtain ⟨q1, hq1, -⟩ := (M.own 0 rfl).2 1 _ _ rfl
                  have hj1 : joinE [frOf x seq inc 0, frOf y seq other 1] = 40 := by
                    unfold joinE; rw [if_neg]; intro h; obtain ⟨h1, h2, -⟩ := join_two h; rcases hne with hn | hn
                    · exact hn h1
                    · exact hn h2
                  have hj2 : joinE [frOf y seq other 0, frOf x seq inc 1] = 40 := by
                    unfold joinE; rw [if_neg]; intro h; obtain ⟨h1, h2, -⟩ := join_two h; rcases hne with hn | hn
                    · exact hn h1.symm
                    · exact hn h2.symm
                  have hj3 : joinE [frOf x seq inc 1, frOf x seq inc 0] = 40 := by
                    unfold joinE; rw [if_neg]; intro h; obtain ⟨-, -, h3⟩ := join_two h; simp [frOf] at h3
                  have hbig : ∀ (l : List UInt8) (s n : Int) (i : Nat), (frOf l s n i).2.length ≤ 1000 := fun l s n i => by simp [frOf]; omega
                  have hs : ∀ (l : List UInt8) (n : Int) (i : Nat), i ≤ 1 → -9223372036854775808 ≤ (frOf l seq n i).1.seq ∧ (frOf l seq n i).1.seq ≤ 9223372036854775807 := fun l n i hi => by
                    obtain ⟨_, hh, _⟩ := hc1; simp only [frOf]; omega
                  refine wp_regionK [] #[false, false, false, false, false, false, false, false, false, false, false, false, false] rfl M (by kernel_rfl) ?_; clear M; intro w12 M
                  refine k_read (listed' := #[true, false, false, false, false, false, false, false, false, false, false, false, false]) 0 S rfl rfl rfl rfl (by kernel_rfl) rfl (fun _ d _ _ _ h => by cases d <;> exact h) (fun w hW => have M := M.grow hW; y_move S rfl) ?_; clear S a; intro a S
                  refine k_read (listed' := #[true, true, false, false, false, false, false, false, false, false, false, false, false]) 1 S rfl rfl rfl rfl (by kernel_rfl) rfl (fun _ d _ _ _ h => by cases d <;> exact h) (fun w hW => have M := M.grow hW; y_indexR (e := 33) (sz := 6) S (by kernel_rfl) rfl ((M.own 1 rfl).1) rfl (by first | omega | (simp; done) | (simp; omega))) ?_; clear S a; intro a S
                  refine k_read (listed' := #[true, true, true, false, false, false, false, false, false, false, false, false, false]) 2 S rfl rfl rfl rfl (by kernel_rfl) rfl (fun _ d _ _ _ h => by cases d <;> exact h) (fun w hW => have M := M.grow hW; y_loadAgg S (by kernel_rfl) rfl rfl (((M.own 1 rfl).row (i := 0) rfl hp0).1)) ?_; clear S a; intro a S
                  refine k_read (listed' := #[true, true, true, true, false, false, false, false, false, false, false, false, false]) 3 S rfl rfl rfl rfl (by kernel_rfl) rfl (fun _ d _ _ _ h => by cases d <;> exact h) (fun w hW => have M := M.grow hW; y_move S rfl) ?_; clear S a; intro a S
                  refine k_read (listed' := #[true, true, true, true, true, false, false, false, false, false, false, false, false]) 4 S rfl rfl rfl rfl (by kernel_rfl) rfl (fun _ d _ _ _ h => by cases d <;> exact h) (fun w hW => have M := M.grow hW; y_indexR (e := 33) (sz := 6) S (by kernel_rfl) rfl ((M.own 0 rfl).1) rfl (by first | omega | (simp; done) | (simp; omega))) ?_; clear S a; intro a S
                  refine k_read (listed' := #[true, true, true, true, true, true, false, false, false, false, false, false, false]) 5 S rfl rfl rfl rfl (by kernel_rfl) rfl (fun _ d _ _ _ h => by cases d <;> exact h) (fun w hW => have M := M.grow hW; y_loadAgg S (by kernel_rfl) rfl rfl (((M.own 0 rfl).row (i := 1) rfl hq1).1)) ?_; clear S a; intro a S
                  refine k_one (listed' := #[true, true, true, true, true, true, true, false, false, false, false, false, false]) 6 rfl (by kernel_rfl) rfl ?_
                  refine st_lit (ps := [(0, (Operand.tmp 75)), (1, (Operand.tmp 78))]) (e := 33) (sz := 6) (zl := [.int .i64 0, .int .i64 0, .int .i64 0, .int .i64 0, .int .u32 0, .slice none 0 0, .int .i64 0, .int .i64 0, .int .i64 0, .int .i64 0, .int .u32 0, .slice none 0 0]) (cs := [_, _, _, _, _, _, _, _, _, _, _, _]) S M rfl rfl (by kernel_rfl) rfl rfl ?_; clear S M a; intro a w13 b1 S M hB
                  refine wpList_nil ?_; refine then_normal ?_; refine ⟨fun _ => hB, ?_⟩
                  refine k_one (listed' := #[true, true, true, true, true, true, true, true, false, false, false, false, false]) 7 rfl (by kernel_rfl) rfl ?_
                  refine st_call (xs := [(Operand.tmp 79)]) S (enters_of Try.func10 (by decide) rfl) rfl rfl rfl (join_any _ _ [frOf x seq inc 0, frOf y seq other 1] _ (FrsC.two (M.blk 0 rfl) (((M.own 2 rfl).row (i := 0) rfl hp0).2.wide (Nat.zero_le _) (M.fits _ (List.mem_of_getElem? (show _[2]? = _ from rfl))).2) (((M.own 1 rfl).row (i := 1) rfl hq1).2.wide (Nat.zero_le _) (M.fits _ (List.mem_of_getElem? (show _[1]? = _ from rfl))).2)) (by intro z hz; simp only [List.mem_cons, List.not_mem_nil, or_false] at hz; rcases hz with rfl | rfl <;> exact hbig _ _ _ _) (by intro z hz; simp only [List.mem_cons, List.not_mem_nil, or_false] at hz; rcases hz with rfl | rfl <;> exact hs _ _ _ (by omega))) ?_
                  rintro _ w14 ⟨v3, rfl, hK, -, -⟩; refine ⟨_, rfl, ?_⟩; clear S a; intro a S
                  rw [hj1] at S
                  replace M := (M.grow hK).drop 0
                  refine wpList_nil ?_; refine then_normal ?_; refine ⟨fun _ => hK, ?_⟩
                  refine k_read (listed' := #[true, true, true, true, true, true, true, true, true, false, false, false, false]) 8 S rfl rfl rfl rfl (by kernel_rfl) rfl (fun _ d _ _ _ h => by cases d <;> exact h) (fun w hW => have M := M.grow hW; y_move S rfl) ?_; clear S a; intro a S
                  refine k_read (listed' := #[true, true, true, true, true, true, true, true, true, true, false, false, false]) 9 S rfl rfl rfl rfl (by kernel_rfl) rfl (fun _ d _ _ _ h => by cases d <;> exact h) (fun w hW => have M := M.grow hW; y_extract S rfl rfl) ?_; clear S a; intro a S
                  refine k_read (listed' := #[true, true, true, true, true, true, true, true, true, true, true, false, false]) 10 S rfl rfl rfl rfl (by kernel_rfl) rfl (fun _ d _ _ _ h => by cases d <;> exact h) (fun w hW => have M := M.grow hW; y_extract S rfl rfl) ?_; clear S a; intro a S
                  refine k_read (listed' := #[true, true, true, true, true, true, true, true, true, true, true, true, false]) 11 S rfl rfl rfl rfl (by kernel_rfl) rfl (fun _ d _ _ _ h => by cases d <;> exact h) (fun w hW => have M := M.grow hW; y_assign S rfl) ?_; clear S a; intro a S
                  refine k_read (listed' := #[true, true, true, true, true, true, true, true, true, true, true, true, true]) 12 S rfl rfl rfl rfl (by kernel_rfl) rfl (fun _ d _ _ _ h => by cases d <;> exact h) (fun w hW => have M := M.grow hW; y_assign S rfl) ?_; clear S a; intro a S
                  refine k_end (by kernel_rfl) ?_
                  replace S := S.sub [(0, _), (1, _), (2, _), (3, _), (4, _), (10, _), (28, _), (11, _), (12, _), (13, _), (14, _), (59, _), (70, _), (16, _)] rfl
                  refine then_normal ?_
                  refine wp_seq ?_
                  -- region 10 law.go:109
                  refine wp_regionK [] #[false, false, false, false, false, false, false, false, false, false, false, false, false] rfl M (by kernel_rfl) ?_; clear M; intro w15 M
                  refine k_read (listed' := #[true, false, false, false, false, false, false, false, false, false, false, false, false]) 0 S rfl rfl rfl rfl (by kernel_rfl) rfl (fun _ d _ _ _ h => by cases d <;> exact h) (fun w hW => have M := M.grow hW; y_move S rfl) ?_; clear S a; intro a S
                  refine k_read (listed' := #[true, true, false, false, false, false, false, false, false, false, false, false, false]) 1 S rfl rfl rfl rfl (by kernel_rfl) rfl (fun _ d _ _ _ h => by cases d <;> exact h) (fun w hW => have M := M.grow hW; y_indexR (e := 33) (sz := 6) S (by kernel_rfl) rfl ((M.own 0 rfl).1) rfl (by first | omega | (simp; done) | (simp; omega))) ?_; clear S a; intro a S
                  refine k_read (listed' := #[true, true, true, false, false, false, false, false, false, false, false, false, false]) 2 S rfl rfl rfl rfl (by kernel_rfl) rfl (fun _ d _ _ _ h => by cases d <;> exact h) (fun w hW => have M := M.grow hW; y_loadAgg S (by kernel_rfl) rfl rfl (((M.own 0 rfl).row (i := 0) rfl hq0).1)) ?_; clear S a; intro a S
                  refine k_read (listed' := #[true, true, true, true, false, false, false, false, false, false, false, false, false]) 3 S rfl rfl rfl rfl (by kernel_rfl) rfl (fun _ d _ _ _ h => by cases d <;> exact h) (fun w hW => have M := M.grow hW; y_move S rfl) ?_; clear S a; intro a S
                  refine k_read (listed' := #[true, true, true, true, true, false, false, false, false, false, false, false, false]) 4 S rfl rfl rfl rfl (by kernel_rfl) rfl (fun _ d _ _ _ h => by cases d <;> exact h) (fun w hW => have M := M.grow hW; y_indexR (e := 33) (sz := 6) S (by kernel_rfl) rfl ((M.own 1 rfl).1) rfl (by first | omega | (simp; done) | (simp; omega))) ?_; clear S a; intro a S
                  refine k_read (listed' := #[true, true, true, true, true, true, false, false, false, false, false, false, false]) 5 S rfl rfl rfl rfl (by kernel_rfl) rfl (fun _ d _ _ _ h => by cases d <;> exact h) (fun w hW => have M := M.grow hW; y_loadAgg S (by kernel_rfl) rfl rfl (((M.own 1 rfl).row (i := 1) rfl hp1).1)) ?_; clear S a; intro a S
                  refine k_one (listed' := #[true, true, true, true, true, true, true, false, false, false, false, false, false]) 6 rfl (by kernel_rfl) rfl ?_
                  refine st_lit (ps := [(0, (Operand.tmp 86)), (1, (Operand.tmp 89))]) (e := 33) (sz := 6) (zl := [.int .i64 0, .int .i64 0, .int .i64 0, .int .i64 0, .int .u32 0, .slice none 0 0, .int .i64 0, .int .i64 0, .int .i64 0, .int .i64 0, .int .u32 0, .slice none 0 0]) (cs := [_, _, _, _, _, _, _, _, _, _, _, _]) S M rfl rfl (by kernel_rfl) rfl rfl ?_; clear S M a; intro a w16 b2 S M hB
                  refine wpList_nil ?_; refine then_normal ?_; refine ⟨fun _ => hB, ?_⟩
                  refine k_one (listed' := #[true, true, true, true, true, true, true, true, false, false, false, false, false]) 7 rfl (by kernel_rfl) rfl ?_
                  refine st_call (xs := [(Operand.tmp 90)]) S (enters_of Try.func10 (by decide) rfl) rfl rfl rfl (join_any _ _ [frOf y seq other 0, frOf x seq inc 1] _ (FrsC.two (M.blk 0 rfl) (((M.own 1 rfl).row (i := 0) rfl hq0).2.wide (Nat.zero_le _) (M.fits _ (List.mem_of_getElem? (show _[1]? = _ from rfl))).2) (((M.own 2 rfl).row (i := 1) rfl hp1).2.wide (Nat.zero_le _) (M.fits _ (List.mem_of_getElem? (show _[2]? = _ from rfl))).2)) (by intro z hz; simp only [List.mem_cons, List.not_mem_nil, or_false] at hz; rcases hz with rfl | rfl <;> exact hbig _ _ _ _) (by intro z hz; simp only [List.mem_cons, List.not_mem_nil, or_false] at hz; rcases hz with rfl | rfl <;> exact hs _ _ _ (by omega))) ?_
                  rintro _ w17 ⟨v4, rfl, hK, -, -⟩; refine ⟨_, rfl, ?_⟩; clear S a; intro a S
                  rw [hj2] at S
                  replace M := (M.grow hK).drop 0
                  refine wpList_nil ?_; refine then_normal ?_; refine ⟨fun _ => hK, ?_⟩
                  refine k_read (listed' := #[true, true, true, true, true, true, true, true, true, false, false, false, false]) 8 S rfl rfl rfl rfl (by kernel_rfl) rfl (fun _ d _ _ _ h => by cases d <;> exact h) (fun w hW => have M := M.grow hW; y_move S rfl) ?_; clear S a; intro a S
                  refine k_read (listed' := #[true, true, true, true, true, true, true, true, true, true, false, false, false]) 9 S rfl rfl rfl rfl (by kernel_rfl) rfl (fun _ d _ _ _ h => by cases d <;> exact h) (fun w hW => have M := M.grow hW; y_extract S rfl rfl) ?_; clear S a; intro a S
                  refine k_read (listed' := #[true, true, true, true, true, true, true, true, true, true, true, false, false]) 10 S rfl rfl rfl rfl (by kernel_rfl) rfl (fun _ d _ _ _ h => by cases d <;> exact h) (fun w hW => have M := M.grow hW; y_extract S rfl rfl) ?_; clear S a; intro a S
                  refine k_read (listed' := #[true, true, true, true, true, true, true, true, true, true, true, true, false]) 11 S rfl rfl rfl rfl (by kernel_rfl) rfl (fun _ d _ _ _ h => by cases d <;> exact h) (fun w hW => have M := M.grow hW; y_assign S rfl) ?_; clear S a; intro a S
                  refine k_read (listed' := #[true, true, true, true, true, true, true, true, true, true, true, true, true]) 12 S rfl rfl rfl rfl (by kernel_rfl) rfl (fun _ d _ _ _ h => by cases d <;> exact h) (fun w hW => have M := M.grow hW; y_assign S rfl) ?_; clear S a; intro a S
                  refine k_end (by kernel_rfl) ?_
                  replace S := S.sub [(0, _), (1, _), (2, _), (3, _), (4, _), (10, _), (28, _), (11, _), (12, _), (13, _), (14, _), (59, _), (70, _), (16, _), (18, _)] rfl
                  refine then_normal ?_
                  refine wp_seq ?_
                  -- region 11 law.go:110
                  refine wp_regionK [] #[false, false, false, false, false, false, false, false, false, false, false, false, false] rfl M (by kernel_rfl) ?_; clear M; intro w18 M
                  refine k_read (listed' := #[true, false, false, false, false, false, false, false, false, false, false, false, false]) 0 S rfl rfl rfl rfl (by kernel_rfl) rfl (fun _ d _ _ _ h => by cases d <;> exact h) (fun w hW => have M := M.grow hW; y_move S rfl) ?_; clear S a; intro a S
                  refine k_read (listed' := #[true, true, false, false, false, false, false, false, false, false, false, false, false]) 1 S rfl rfl rfl rfl (by kernel_rfl) rfl (fun _ d _ _ _ h => by cases d <;> exact h) (fun w hW => have M := M.grow hW; y_indexR (e := 33) (sz := 6) S (by kernel_rfl) rfl ((M.own 1 rfl).1) rfl (by first | omega | (simp; done) | (simp; omega))) ?_; clear S a; intro a S
                  refine k_read (listed' := #[true, true, true, false, false, false, false, false, false, false, false, false, false]) 2 S rfl rfl rfl rfl (by kernel_rfl) rfl (fun _ d _ _ _ h => by cases d <;> exact h) (fun w hW => have M := M.grow hW; y_loadAgg S (by kernel_rfl) rfl rfl (((M.own 1 rfl).row (i := 1) rfl hp1).1)) ?_; clear S a; intro a S
                  refine k_read (listed' := #[true, true, true, true, false, false, false, false, false, false, false, false, false]) 3 S rfl rfl rfl rfl (by kernel_rfl) rfl (fun _ d _ _ _ h => by cases d <;> exact h) (fun w hW => have M := M.grow hW; y_move S rfl) ?_; clear S a; intro a S
                  refine k_read (listed' := #[true, true, true, true, true, false, false, false, false, false, false, false, false]) 4 S rfl rfl rfl rfl (by kernel_rfl) rfl (fun _ d _ _ _ h => by cases d <;> exact h) (fun w hW => have M := M.grow hW; y_indexR (e := 33) (sz := 6) S (by kernel_rfl) rfl ((M.own 1 rfl).1) rfl (by first | omega | (simp; done) | (simp; omega))) ?_; clear S a; intro a S
                  refine k_read (listed' := #[true, true, true, true, true, true, false, false, false, false, false, false, false]) 5 S rfl rfl rfl rfl (by kernel_rfl) rfl (fun _ d _ _ _ h => by cases d <;> exact h) (fun w hW => have M := M.grow hW; y_loadAgg S (by kernel_rfl) rfl rfl (((M.own 1 rfl).row (i := 0) rfl hp0).1)) ?_; clear S a; intro a S
                  refine k_one (listed' := #[true, true, true, true, true, true, true, false, false, false, false, false, false]) 6 rfl (by kernel_rfl) rfl ?_
                  refine st_lit (ps := [(0, (Operand.tmp 97)), (1, (Operand.tmp 100))]) (e := 33) (sz := 6) (zl := [.int .i64 0, .int .i64 0, .int .i64 0, .int .i64 0, .int .u32 0, .slice none 0 0, .int .i64 0, .int .i64 0, .int .i64 0, .int .i64 0, .int .u32 0, .slice none 0 0]) (cs := [_, _, _, _, _, _, _, _, _, _, _, _]) S M rfl rfl (by kernel_rfl) rfl rfl ?_; clear S M a; intro a w19 b3 S M hB
                  refine wpList_nil ?_; refine then_normal ?_; refine ⟨fun _ => hB, ?_⟩
                  refine k_one (listed' := #[true, true, true, true, true, true, true, true, false, false, false, false, false]) 7 rfl (by kernel_rfl) rfl ?_
                  refine st_call (xs := [(Operand.tmp 101)]) S (enters_of Try.func10 (by decide) rfl) rfl rfl rfl (join_any _ _ [frOf x seq inc 1, frOf x seq inc 0] _ (FrsC.two (M.blk 0 rfl) (((M.own 2 rfl).row (i := 1) rfl hp1).2.wide (Nat.zero_le _) (M.fits _ (List.mem_of_getElem? (show _[2]? = _ from rfl))).2) (((M.own 2 rfl).row (i := 0) rfl hp0).2.wide (Nat.zero_le _) (M.fits _ (List.mem_of_getElem? (show _[2]? = _ from rfl))).2)) (by intro z hz; simp only [List.mem_cons, List.not_mem_nil, or_false] at hz; rcases hz with rfl | rfl <;> exact hbig _ _ _ _) (by intro z hz; simp only [List.mem_cons, List.not_mem_nil, or_false] at hz; rcases hz with rfl | rfl <;> exact hs _ _ _ (by omega))) ?_
                  rintro _ w20 ⟨v5, rfl, hK, -, -⟩; refine ⟨_, rfl, ?_⟩; clear S a; intro a S
                  rw [hj3] at S
                  replace M := (M.grow hK).drop 0
                  refine wpList_nil ?_; refine then_normal ?_; refine ⟨fun _ => hK, ?_⟩
                  refine k_read (listed' := #[true, true, true, true, true, true, true, true, true, false, false, false, false]) 8 S rfl rfl rfl rfl (by kernel_rfl) rfl (fun _ d _ _ _ h => by cases d <;> exact h) (fun w hW => have M := M.grow hW; y_move S rfl) ?_; clear S a; intro a S
                  refine k_read (listed' := #[true, true, true, true, true, true, true, true, true, true, false, false, false]) 9 S rfl rfl rfl rfl (by kernel_rfl) rfl (fun _ d _ _ _ h => by cases d <;> exact h) (fun w hW => have M := M.grow hW; y_extract S rfl rfl) ?_; clear S a; intro a S
                  refine k_read (listed' := #[true, true, true, true, true, true, true, true, true, true, true, false, false]) 10 S rfl rfl rfl rfl (by kernel_rfl) rfl (fun _ d _ _ _ h => by cases d <;> exact h) (fun w hW => have M := M.grow hW; y_extract S rfl rfl) ?_; clear S a; intro a S
                  refine k_read (listed' := #[true, true, true, true, true, true, true, true, true, true, true, true, false]) 11 S rfl rfl rfl rfl (by kernel_rfl) rfl (fun _ d _ _ _ h => by cases d <;> exact h) (fun w hW => have M := M.grow hW; y_assign S rfl) ?_; clear S a; intro a S
                  refine k_read (listed' := #[true, true, true, true, true, true, true, true, true, true, true, true, true]) 12 S rfl rfl rfl rfl (by kernel_rfl) rfl (fun _ d _ _ _ h => by cases d <;> exact h) (fun w hW => have M := M.grow hW; y_assign S rfl) ?_; clear S a; intro a S
                  refine k_end (by kernel_rfl) ?_
                  replace S := S.sub [(0, _), (1, _), (2, _), (3, _), (4, _), (10, _), (28, _), (11, _), (12, _), (13, _), (14, _), (59, _), (70, _), (16, _), (18, _), (20, _)] rfl
                  refine then_normal ?_
                  refine wp_seq ?_
                  -- region 12 law.go:111
                  refine wp_region_lit ?_
                  refine st_y S rfl rfl rfl (y_move S rfl) ?_; clear S a; intro a S
                  refine st_y S rfl rfl rfl (y_int S rfl rfl rfl) ?_; clear S a; intro a S
                  refine st_y S rfl rfl rfl (y_move S rfl) ?_; clear S a; intro a S
                  refine st_split (t := 107) S rfl ?_ ?_
                  · clear S; intro h107 S
                    first | replace h107 := nrmA h107 | replace h107 := nrmB h107 | skip
                    first | replace h107 := nrm1 h107 | replace h107 := nrm2 h107 | replace h107 := nrm3 h107 | replace h107 := nrm4 h107 | replace h107 := nrm5 h107 | replace h107 := nrm6 h107 | replace h107 := of_decide_eq_true h107 | replace h107 := of_decide_eq_false h107 | skip
                    refine st_y S rfl rfl rfl (y_move S rfl) ?_; clear S a; intro a S
                    refine st_y S rfl rfl rfl (y_int S rfl rfl rfl) ?_; clear S a; intro a S
                    refine st_y S rfl rfl rfl (y_pickT S rfl rfl) ?_; clear S a; intro a S
                    refine st_y S rfl rfl rfl (y_move S rfl) ?_; clear S a; intro a S
                    refine st_split (t := 111) S rfl ?_ ?_
                    · clear S; intro h111 S
                      first | replace h111 := nrmA h111 | replace h111 := nrmB h111 | skip
                      first | replace h111 := nrm1 h111 | replace h111 := nrm2 h111 | replace h111 := nrm3 h111 | replace h111 := nrm4 h111 | replace h111 := nrm5 h111 | replace h111 := nrm6 h111 | replace h111 := of_decide_eq_true h111 | replace h111 := of_decide_eq_false h111 | skip
                      refine st_y S rfl rfl rfl (y_move S rfl) ?_; clear S a; intro a S
                      refine st_y S rfl rfl rfl (y_int S rfl rfl rfl) ?_; clear S a; intro a S
                      refine st_y S rfl rfl rfl (y_pickT S rfl rfl) ?_; clear S a; intro a S
                      refine st_y S rfl rfl rfl (y_move S rfl) ?_; clear S a; intro a S
                      refine st_split (t := 115) S rfl ?_ ?_
                      · clear S; intro h115 S
                        first | replace h115 := nrmA h115 | replace h115 := nrmB h115 | skip
                        first | replace h115 := nrm1 h115 | replace h115 := nrm2 h115 | replace h115 := nrm3 h115 | replace h115 := nrm4 h115 | replace h115 := nrm5 h115 | replace h115 := nrm6 h115 | replace h115 := of_decide_eq_true h115 | replace h115 := of_decide_eq_false h115 | skip
                        refine st_call (xs := []) S (enters_of Try.func7 (by decide) rfl) rfl rfl rfl (wakes04 _) ?_
                        rintro _ w21 ⟨rfl, hK⟩; refine ⟨_, rfl, ?_⟩; clear S a; intro a S; replace M := M.grow hK
                        refine st_y S rfl rfl rfl (y_pickT S rfl rfl) ?_; clear S a; intro a S
                        refine st_y S rfl rfl rfl (y_assign S rfl) ?_; clear S a; intro a S
                        refine wpList_nil ?_
                        replace S := S.sub [(0, _), (1, _), (2, _), (3, _), (4, _), (28, _), (11, _), (12, _), (13, _), (14, _), (59, _), (70, _), (16, _), (18, _), (20, _), (10, _)] rfl
                        refine then_normal ?_
                        refine wp_ret ?_
                        refine end_one S rfl (res_tmp rfl) ?_
                        exact ⟨rfl, M.below⟩
                      · clear S; intro h115 S
                        first | replace h115 := nrmA h115 | replace h115 := nrmB h115 | skip
                        first | replace h115 := nrm1 h115 | replace h115 := nrm2 h115 | replace h115 := nrm3 h115 | replace h115 := nrm4 h115 | replace h115 := nrm5 h115 | replace h115 := nrm6 h115 | replace h115 := of_decide_eq_true h115 | replace h115 := of_decide_eq_false h115 | skip
                        all_goals (simp at h115)
                    · clear S; intro h111 S
                      first | replace h111 := nrmA h111 | replace h111 := nrmB h111 | skip
                      first | replace h111 := nrm1 h111 | replace h111 := nrm2 h111 | replace h111 := nrm3 h111 | replace h111 := nrm4 h111 | replace h111 := nrm5 h111 | replace h111 := nrm6 h111 | replace h111 := of_decide_eq_true h111 | replace h111 := of_decide_eq_false h111 | skip
                      all_goals (simp at h111)
                  · clear S; intro h107 S
                    first | replace h107 := nrmA h107 | replace h107 := nrmB h107 | skip
                    first | replace h107 := nrm1 h107 | replace h107 := nrm2 h107 | replace h107 := nrm3 h107 | replace h107 := nrm4 h107 | replace h107 := nrm5 h107 | replace h107 := nrm6 h107 | replace h107 := of_decide_eq_true h107 | replace h107 := of_decide_eq_false h107 | skip
                    all_goals (simp at h107)
              · clear S; intro h64 S
                first | replace h64 := nrmA h64 | replace h64 := nrmB h64 | skip
                first | replace h64 := nrm1 h64 | replace h64 := nrm2 h64 | replace h64 := nrm3 h64 | replace h64 := nrm4 h64 | replace h64 := nrm5 h64 | replace h64 := nrm6 h64 | replace h64 := of_decide_eq_true h64 | replace h64 := of_decide_eq_false h64 | skip
                refine st_no S rfl rfl rfl ?_; clear S a; intro a S
                refine st_no S rfl rfl rfl ?_; clear S a; intro a S
                refine st_no S rfl rfl rfl ?_; clear S a; intro a S
                refine st_no S rfl rfl rfl ?_; clear S a; intro a S
                refine st_no S rfl rfl rfl ?_; clear S a; intro a S
                refine st_y S rfl rfl rfl (y_pickF S rfl rfl) ?_; clear S a; intro a S
                refine wpList_nil ?_
                replace S := S.sub [(0, _), (1, _), (2, _), (3, _), (4, _), (10, _), (28, _), (11, _), (12, _), (13, _), (14, _), (59, _), (70, _)] rfl
                refine then_normal ?_
                refine st_condF S rfl ?_
                refine wp_skip ?_
                refine then_normal ?_
                refine wp_seq ?_
                -- region 9 law.go:108
                have hl1 : (cutR x seq inc).length = 2 := by omega
                have hl2 : (cutR y seq other).length = 2 := by omega
                obtain ⟨hc1, e1⟩ := cutF_two hl1
                obtain ⟨hc2, e2⟩ := cutF_two hl2
                rw [e1, e2] at M
                have hne : inc ≠ other ∨ sumT x ≠ sumT y := by
                  first
                    | (left; assumption)
                    | (right; intro he; rw [he] at h70; simp at h70)
                have f0 := M.fits _ (List.mem_of_getElem? (show _[0]? = _ from rfl))
                have f1 := M.fits _ (List.mem_of_getElem? (show _[1]? = _ from rfl))
                simp only [Ent.lo, Ent.hi] at f0 f1
                obtain ⟨p0, hp0, -⟩ := (M.own 1 rfl).2 0 _ _ rfl
                obtain ⟨p1, hp1, -⟩ := (M.own 1 rfl).2 1 _ _ rfl
                obtain ⟨q0, hq0, -⟩ := (M.own 0 rfl).2 0 _ _ rfl
                obtain ⟨q1, hq1, -⟩ := (M.own 0 rfl).2 1 _ _ rfl
                have hj1 : joinE [frOf x seq inc 0, frOf y seq other 1] = 40 := by
                  unfold joinE; rw [if_neg]; intro h; obtain ⟨h1, h2, -⟩ := join_two h; rcases hne with hn | hn
                  · exact hn h1
                  · exact hn h2
                have hj2 : joinE [frOf y seq other 0, frOf x seq inc 1] = 40 := by
                  unfold joinE; rw [if_neg]; intro h; obtain ⟨h1, h2, -⟩ := join_two h; rcases hne with hn | hn
                  · exact hn h1.symm
                  · exact hn h2.symm
                have hj3 : joinE [frOf x seq inc 1, frOf x seq inc 0] = 40 := by
                  unfold joinE; rw [if_neg]; intro h; obtain ⟨-, -, h3⟩ := join_two h; simp [frOf] at h3
                have hbig : ∀ (l : List UInt8) (s n : Int) (i : Nat), (frOf l s n i).2.length ≤ 1000 := fun l s n i => by simp [frOf]; omega
                have hs : ∀ (l : List UInt8) (n : Int) (i : Nat), i ≤ 1 → -9223372036854775808 ≤ (frOf l seq n i).1.seq ∧ (frOf l seq n i).1.seq ≤ 9223372036854775807 := fun l n i hi => by
                  obtain ⟨_, hh, _⟩ := hc1; simp only [frOf]; omega
                refine wp_regionK [] #[false, false, false, false, false, false, false, false, false, false, false, false, false] rfl M (by kernel_rfl) ?_; clear M; intro w22 M
                refine k_read (listed' := #[true, false, false, false, false, false, false, false, false, false, false, false, false]) 0 S rfl rfl rfl rfl (by kernel_rfl) rfl (fun _ d _ _ _ h => by cases d <;> exact h) (fun w hW => have M := M.grow hW; y_move S rfl) ?_; clear S a; intro a S
                refine k_read (listed' := #[true, true, false, false, false, false, false, false, false, false, false, false, false]) 1 S rfl rfl rfl rfl (by kernel_rfl) rfl (fun _ d _ _ _ h => by cases d <;> exact h) (fun w hW => have M := M.grow hW; y_indexR (e := 33) (sz := 6) S (by kernel_rfl) rfl ((M.own 1 rfl).1) rfl (by first | omega | (simp; done) | (simp; omega))) ?_; clear S a; intro a S
                refine k_read (listed' := #[true, true, true, false, false, false, false, false, false, false, false, false, false]) 2 S rfl rfl rfl rfl (by kernel_rfl) rfl (fun _ d _ _ _ h => by cases d <;> exact h) (fun w hW => have M := M.grow hW; y_loadAgg S (by kernel_rfl) rfl rfl (((M.own 1 rfl).row (i := 0) rfl hp0).1)) ?_; clear S a; intro a S
                refine k_read (listed' := #[true, true, true, true, false, false, false, false, false, false, false, false, false]) 3 S rfl rfl rfl rfl (by kernel_rfl) rfl (fun _ d _ _ _ h => by cases d <;> exact h) (fun w hW => have M := M.grow hW; y_move S rfl) ?_; clear S a; intro a S
                refine k_read (listed' := #[true, true, true, true, true, false, false, false, false, false, false, false, false]) 4 S rfl rfl rfl rfl (by kernel_rfl) rfl (fun _ d _ _ _ h => by cases d <;> exact h) (fun w hW => have M := M.grow hW; y_indexR (e := 33) (sz := 6) S (by kernel_rfl) rfl ((M.own 0 rfl).1) rfl (by first | omega | (simp; done) | (simp; omega))) ?_; clear S a; intro a S
                refine k_read (listed' := #[true, true, true, true, true, true, false, false, false, false, false, false, false]) 5 S rfl rfl rfl rfl (by kernel_rfl) rfl (fun _ d _ _ _ h => by cases d <;> exact h) (fun w hW => have M := M.grow hW; y_loadAgg S (by kernel_rfl) rfl rfl (((M.own 0 rfl).row (i := 1) rfl hq1).1)) ?_; clear S a; intro a S
                refine k_one (listed' := #[true, true, true, true, true, true, true, false, false, false, false, false, false]) 6 rfl (by kernel_rfl) rfl ?_
                refine st_lit (ps := [(0, (Operand.tmp 75)), (1, (Operand.tmp 78))]) (e := 33) (sz := 6) (zl := [.int .i64 0, .int .i64 0, .int .i64 0, .int .i64 0, .int .u32 0, .slice none 0 0, .int .i64 0, .int .i64 0, .int .i64 0, .int .i64 0, .int .u32 0, .slice none 0 0]) (cs := [_, _, _, _, _, _, _, _, _, _, _, _]) S M rfl rfl (by kernel_rfl) rfl rfl ?_; clear S M a; intro a w23 b4 S M hB
                refine wpList_nil ?_; refine then_normal ?_; refine ⟨fun _ => hB, ?_⟩
                refine k_one (listed' := #[true, true, true, true, true, true, true, true, false, false, false, false, false]) 7 rfl (by kernel_rfl) rfl ?_
                refine st_call (xs := [(Operand.tmp 79)]) S (enters_of Try.func10 (by decide) rfl) rfl rfl rfl (join_any _ _ [frOf x seq inc 0, frOf y seq other 1] _ (FrsC.two (M.blk 0 rfl) (((M.own 2 rfl).row (i := 0) rfl hp0).2.wide (Nat.zero_le _) (M.fits _ (List.mem_of_getElem? (show _[2]? = _ from rfl))).2) (((M.own 1 rfl).row (i := 1) rfl hq1).2.wide (Nat.zero_le _) (M.fits _ (List.mem_of_getElem? (show _[1]? = _ from rfl))).2)) (by intro z hz; simp only [List.mem_cons, List.not_mem_nil, or_false] at hz; rcases hz with rfl | rfl <;> exact hbig _ _ _ _) (by intro z hz; simp only [List.mem_cons, List.not_mem_nil, or_false] at hz; rcases hz with rfl | rfl <;> exact hs _ _ _ (by omega))) ?_
                rintro _ w24 ⟨v3, rfl, hK, -, -⟩; refine ⟨_, rfl, ?_⟩; clear S a; intro a S
                rw [hj1] at S
                replace M := (M.grow hK).drop 0
                refine wpList_nil ?_; refine then_normal ?_; refine ⟨fun _ => hK, ?_⟩
                refine k_read (listed' := #[true, true, true, true, true, true, true, true, true, false, false, false, false]) 8 S rfl rfl rfl rfl (by kernel_rfl) rfl (fun _ d _ _ _ h => by cases d <;> exact h) (fun w hW => have M := M.grow hW; y_move S rfl) ?_; clear S a; intro a S
                refine k_read (listed' := #[true, true, true, true, true, true, true, true, true, true, false, false, false]) 9 S rfl rfl rfl rfl (by kernel_rfl) rfl (fun _ d _ _ _ h => by cases d <;> exact h) (fun w hW => have M := M.grow hW; y_extract S rfl rfl) ?_; clear S a; intro a S
                refine k_read (listed' := #[true, true, true, true, true, true, true, true, true, true, true, false, false]) 10 S rfl rfl rfl rfl (by kernel_rfl) rfl (fun _ d _ _ _ h => by cases d <;> exact h) (fun w hW => have M := M.grow hW; y_extract S rfl rfl) ?_; clear S a; intro a S
                refine k_read (listed' := #[true, true, true, true, true, true, true, true, true, true, true, true, false]) 11 S rfl rfl rfl rfl (by kernel_rfl) rfl (fun _ d _ _ _ h => by cases d <;> exact h) (fun w hW => have M := M.grow hW; y_assign S rfl) ?_; clear S a; intro a S
                refine k_read (listed' := #[true, true, true, true, true, true, true, true, true, true, true, true, true]) 12 S rfl rfl rfl rfl (by kernel_rfl) rfl (fun _ d _ _ _ h => by cases d <;> exact h) (fun w hW => have M := M.grow hW; y_assign S rfl) ?_; clear S a; intro a S
                refine k_end (by kernel_rfl) ?_
                replace S := S.sub [(0, _), (1, _), (2, _), (3, _), (4, _), (10, _), (28, _), (11, _), (12, _), (13, _), (14, _), (59, _), (70, _), (16, _)] rfl
                refine then_normal ?_
                refine wp_seq ?_
                -- region 10 law.go:109
                refine wp_regionK [] #[false, false, false, false, false, false, false, false, false, false, false, false, false] rfl M (by kernel_rfl) ?_; clear M; intro w25 M
                refine k_read (listed' := #[true, false, false, false, false, false, false, false, false, false, false, false, false]) 0 S rfl rfl rfl rfl (by kernel_rfl) rfl (fun _ d _ _ _ h => by cases d <;> exact h) (fun w hW => have M := M.grow hW; y_move S rfl) ?_; clear S a; intro a S
                refine k_read (listed' := #[true, true, false, false, false, false, false, false, false, false, false, false, false]) 1 S rfl rfl rfl rfl (by kernel_rfl) rfl (fun _ d _ _ _ h => by cases d <;> exact h) (fun w hW => have M := M.grow hW; y_indexR (e := 33) (sz := 6) S (by kernel_rfl) rfl ((M.own 0 rfl).1) rfl (by first | omega | (simp; done) | (simp; omega))) ?_; clear S a; intro a S
                refine k_read (listed' := #[true, true, true, false, false, false, false, false, false, false, false, false, false]) 2 S rfl rfl rfl rfl (by kernel_rfl) rfl (fun _ d _ _ _ h => by cases d <;> exact h) (fun w hW => have M := M.grow hW; y_loadAgg S (by kernel_rfl) rfl rfl (((M.own 0 rfl).row (i := 0) rfl hq0).1)) ?_; clear S a; intro a S
                refine k_read (listed' := #[true, true, true, true, false, false, false, false, false, false, false, false, false]) 3 S rfl rfl rfl rfl (by kernel_rfl) rfl (fun _ d _ _ _ h => by cases d <;> exact h) (fun w hW => have M := M.grow hW; y_move S rfl) ?_; clear S a; intro a S
                refine k_read (listed' := #[true, true, true, true, true, false, false, false, false, false, false, false, false]) 4 S rfl rfl rfl rfl (by kernel_rfl) rfl (fun _ d _ _ _ h => by cases d <;> exact h) (fun w hW => have M := M.grow hW; y_indexR (e := 33) (sz := 6) S (by kernel_rfl) rfl ((M.own 1 rfl).1) rfl (by first | omega | (simp; done) | (simp; omega))) ?_; clear S a; intro a S
                refine k_read (listed' := #[true, true, true, true, true, true, false, false, false, false, false, false, false]) 5 S rfl rfl rfl rfl (by kernel_rfl) rfl (fun _ d _ _ _ h => by cases d <;> exact h) (fun w hW => have M := M.grow hW; y_loadAgg S (by kernel_rfl) rfl rfl (((M.own 1 rfl).row (i := 1) rfl hp1).1)) ?_; clear S a; intro a S
                refine k_one (listed' := #[true, true, true, true, true, true, true, false, false, false, false, false, false]) 6 rfl (by kernel_rfl) rfl ?_
                refine st_lit (ps := [(0, (Operand.tmp 86)), (1, (Operand.tmp 89))]) (e := 33) (sz := 6) (zl := [.int .i64 0, .int .i64 0, .int .i64 0, .int .i64 0, .int .u32 0, .slice none 0 0, .int .i64 0, .int .i64 0, .int .i64 0, .int .i64 0, .int .u32 0, .slice none 0 0]) (cs := [_, _, _, _, _, _, _, _, _, _, _, _]) S M rfl rfl (by kernel_rfl) rfl rfl ?_; clear S M a; intro a w26 b5 S M hB
                refine wpList_nil ?_; refine then_normal ?_; refine ⟨fun _ => hB, ?_⟩
                refine k_one (listed' := #[true, true, true, true, true, true, true, true, false, false, false, false, false]) 7 rfl (by kernel_rfl) rfl ?_
                refine st_call (xs := [(Operand.tmp 90)]) S (enters_of Try.func10 (by decide) rfl) rfl rfl rfl (join_any _ _ [frOf y seq other 0, frOf x seq inc 1] _ (FrsC.two (M.blk 0 rfl) (((M.own 1 rfl).row (i := 0) rfl hq0).2.wide (Nat.zero_le _) (M.fits _ (List.mem_of_getElem? (show _[1]? = _ from rfl))).2) (((M.own 2 rfl).row (i := 1) rfl hp1).2.wide (Nat.zero_le _) (M.fits _ (List.mem_of_getElem? (show _[2]? = _ from rfl))).2)) (by intro z hz; simp only [List.mem_cons, List.not_mem_nil, or_false] at hz; rcases hz with rfl | rfl <;> exact hbig _ _ _ _) (by intro z hz; simp only [List.mem_cons, List.not_mem_nil, or_false] at hz; rcases hz with rfl | rfl <;> exact hs _ _ _ (by omega))) ?_
                rintro _ w27 ⟨v4, rfl, hK, -, -⟩; refine ⟨_, rfl, ?_⟩; clear S a; intro a S
                rw [hj2] at S
                replace M := (M.grow hK).drop 0
                refine wpList_nil ?_; refine then_normal ?_; refine ⟨fun _ => hK, ?_⟩
                refine k_read (listed' := #[true, true, true, true, true, true, true, true, true, false, false, false, false]) 8 S rfl rfl rfl rfl (by kernel_rfl) rfl (fun _ d _ _ _ h => by cases d <;> exact h) (fun w hW => have M := M.grow hW; y_move S rfl) ?_; clear S a; intro a S
                refine k_read (listed' := #[true, true, true, true, true, true, true, true, true, true, false, false, false]) 9 S rfl rfl rfl rfl (by kernel_rfl) rfl (fun _ d _ _ _ h => by cases d <;> exact h) (fun w hW => have M := M.grow hW; y_extract S rfl rfl) ?_; clear S a; intro a S
                refine k_read (listed' := #[true, true, true, true, true, true, true, true, true, true, true, false, false]) 10 S rfl rfl rfl rfl (by kernel_rfl) rfl (fun _ d _ _ _ h => by cases d <;> exact h) (fun w hW => have M := M.grow hW; y_extract S rfl rfl) ?_; clear S a; intro a S
                refine k_read (listed' := #[true, true, true, true, true, true, true, true, true, true, true, true, false]) 11 S rfl rfl rfl rfl (by kernel_rfl) rfl (fun _ d _ _ _ h => by cases d <;> exact h) (fun w hW => have M := M.grow hW; y_assign S rfl) ?_; clear S a; intro a S
                refine k_read (listed' := #[true, true, true, true, true, true, true, true, true, true, true, true, true]) 12 S rfl rfl rfl rfl (by kernel_rfl) rfl (fun _ d _ _ _ h => by cases d <;> exact h) (fun w hW => have M := M.grow hW; y_assign S rfl) ?_; clear S a; intro a S
                refine k_end (by kernel_rfl) ?_
                replace S := S.sub [(0, _), (1, _), (2, _), (3, _), (4, _), (10, _), (28, _), (11, _), (12, _), (13, _), (14, _), (59, _), (70, _), (16, _), (18, _)] rfl
                refine then_normal ?_
                refine wp_seq ?_
                -- region 11 law.go:110
                refine wp_regionK [] #[false, false, false, false, false, false, false, false, false, false, false, false, false] rfl M (by kernel_rfl) ?_; clear M; intro w28 M
                refine k_read (listed' := #[true, false, false, false, false, false, false, false, false, false, false, false, false]) 0 S rfl rfl rfl rfl (by kernel_rfl) rfl (fun _ d _ _ _ h => by cases d <;> exact h) (fun w hW => have M := M.grow hW; y_move S rfl) ?_; clear S a; intro a S
                refine k_read (listed' := #[true, true, false, false, false, false, false, false, false, false, false, false, false]) 1 S rfl rfl rfl rfl (by kernel_rfl) rfl (fun _ d _ _ _ h => by cases d <;> exact h) (fun w hW => have M := M.grow hW; y_indexR (e := 33) (sz := 6) S (by kernel_rfl) rfl ((M.own 1 rfl).1) rfl (by first | omega | (simp; done) | (simp; omega))) ?_; clear S a; intro a S
                refine k_read (listed' := #[true, true, true, false, false, false, false, false, false, false, false, false, false]) 2 S rfl rfl rfl rfl (by kernel_rfl) rfl (fun _ d _ _ _ h => by cases d <;> exact h) (fun w hW => have M := M.grow hW; y_loadAgg S (by kernel_rfl) rfl rfl (((M.own 1 rfl).row (i := 1) rfl hp1).1)) ?_; clear S a; intro a S
                refine k_read (listed' := #[true, true, true, true, false, false, false, false, false, false, false, false, false]) 3 S rfl rfl rfl rfl (by kernel_rfl) rfl (fun _ d _ _ _ h => by cases d <;> exact h) (fun w hW => have M := M.grow hW; y_move S rfl) ?_; clear S a; intro a S
                refine k_read (listed' := #[true, true, true, true, true, false, false, false, false, false, false, false, false]) 4 S rfl rfl rfl rfl (by kernel_rfl) rfl (fun _ d _ _ _ h => by cases d <;> exact h) (fun w hW => have M := M.grow hW; y_indexR (e := 33) (sz := 6) S (by kernel_rfl) rfl ((M.own 1 rfl).1) rfl (by first | omega | (simp; done) | (simp; omega))) ?_; clear S a; intro a S
                refine k_read (listed' := #[true, true, true, true, true, true, false, false, false, false, false, false, false]) 5 S rfl rfl rfl rfl (by kernel_rfl) rfl (fun _ d _ _ _ h => by cases d <;> exact h) (fun w hW => have M := M.grow hW; y_loadAgg S (by kernel_rfl) rfl rfl (((M.own 1 rfl).row (i := 0) rfl hp0).1)) ?_; clear S a; intro a S
                refine k_one (listed' := #[true, true, true, true, true, true, true, false, false, false, false, false, false]) 6 rfl (by kernel_rfl) rfl ?_
                refine st_lit (ps := [(0, (Operand.tmp 97)), (1, (Operand.tmp 100))]) (e := 33) (sz := 6) (zl := [.int .i64 0, .int .i64 0, .int .i64 0, .int .i64 0, .int .u32 0, .slice none 0 0, .int .i64 0, .int .i64 0, .int .i64 0, .int .i64 0, .int .u32 0, .slice none 0 0]) (cs := [_, _, _, _, _, _, _, _, _, _, _, _]) S M rfl rfl (by kernel_rfl) rfl rfl ?_; clear S M a; intro a w29 b6 S M hB
                refine wpList_nil ?_; refine then_normal ?_; refine ⟨fun _ => hB, ?_⟩
                refine k_one (listed' := #[true, true, true, true, true, true, true, true, false, false, false, false, false]) 7 rfl (by kernel_rfl) rfl ?_
                refine st_call (xs := [(Operand.tmp 101)]) S (enters_of Try.func10 (by decide) rfl) rfl rfl rfl (join_any _ _ [frOf x seq inc 1, frOf x seq inc 0] _ (FrsC.two (M.blk 0 rfl) (((M.own 2 rfl).row (i := 1) rfl hp1).2.wide (Nat.zero_le _) (M.fits _ (List.mem_of_getElem? (show _[2]? = _ from rfl))).2) (((M.own 2 rfl).row (i := 0) rfl hp0).2.wide (Nat.zero_le _) (M.fits _ (List.mem_of_getElem? (show _[2]? = _ from rfl))).2)) (by intro z hz; simp only [List.mem_cons, List.not_mem_nil, or_false] at hz; rcases hz with rfl | rfl <;> exact hbig _ _ _ _) (by intro z hz; simp only [List.mem_cons, List.not_mem_nil, or_false] at hz; rcases hz with rfl | rfl <;> exact hs _ _ _ (by omega))) ?_
                rintro _ w30 ⟨v5, rfl, hK, -, -⟩; refine ⟨_, rfl, ?_⟩; clear S a; intro a S
                rw [hj3] at S
                replace M := (M.grow hK).drop 0
                refine wpList_nil ?_; refine then_normal ?_; refine ⟨fun _ => hK, ?_⟩
                refine k_read (listed' := #[true, true, true, true, true, true, true, true, true, false, false, false, false]) 8 S rfl rfl rfl rfl (by kernel_rfl) rfl (fun _ d _ _ _ h => by cases d <;> exact h) (fun w hW => have M := M.grow hW; y_move S rfl) ?_; clear S a; intro a S
                refine k_read (listed' := #[true, true, true, true, true, true, true, true, true, true, false, false, false]) 9 S rfl rfl rfl rfl (by kernel_rfl) rfl (fun _ d _ _ _ h => by cases d <;> exact h) (fun w hW => have M := M.grow hW; y_extract S rfl rfl) ?_; clear S a; intro a S
                refine k_read (listed' := #[true, true, true, true, true, true, true, true, true, true, true, false, false]) 10 S rfl rfl rfl rfl (by kernel_rfl) rfl (fun _ d _ _ _ h => by cases d <;> exact h) (fun w hW => have M := M.grow hW; y_extract S rfl rfl) ?_; clear S a; intro a S
                refine k_read (listed' := #[true, true, true, true, true, true, true, true, true, true, true, true, false]) 11 S rfl rfl rfl rfl (by kernel_rfl) rfl (fun _ d _ _ _ h => by cases d <;> exact h) (fun w hW => have M := M.grow hW; y_assign S rfl) ?_; clear S a; intro a S
                refine k_read (listed' := #[true, true, true, true, true, true, true, true, true, true, true, true, true]) 12 S rfl rfl rfl rfl (by kernel_rfl) rfl (fun _ d _ _ _ h => by cases d <;> exact h) (fun w hW => have M := M.grow hW; y_assign S rfl) ?_; clear S a; intro a S
                refine k_end (by kernel_rfl) ?_
                replace S := S.sub [(0, _), (1, _), (2, _), (3, _), (4, _), (10, _), (28, _), (11, _), (12, _), (13, _), (14, _), (59, _), (70, _), (16, _), (18, _), (20, _)] rfl
                refine then_normal ?_
                refine wp_seq ?_
                -- region 12 law.go:111
                refine wp_region_lit ?_
                refine st_y S rfl rfl rfl (y_move S rfl) ?_; clear S a; intro a S
                refine st_y S rfl rfl rfl (y_int S rfl rfl rfl) ?_; clear S a; intro a S
                refine st_y S rfl rfl rfl (y_move S rfl) ?_; clear S a; intro a S
                refine st_split (t := 107) S rfl ?_ ?_
                · clear S; intro h107 S
                  first | replace h107 := nrmA h107 | replace h107 := nrmB h107 | skip
                  first | replace h107 := nrm1 h107 | replace h107 := nrm2 h107 | replace h107 := nrm3 h107 | replace h107 := nrm4 h107 | replace h107 := nrm5 h107 | replace h107 := nrm6 h107 | replace h107 := of_decide_eq_true h107 | replace h107 := of_decide_eq_false h107 | skip
                  refine st_y S rfl rfl rfl (y_move S rfl) ?_; clear S a; intro a S
                  refine st_y S rfl rfl rfl (y_int S rfl rfl rfl) ?_; clear S a; intro a S
                  refine st_y S rfl rfl rfl (y_pickT S rfl rfl) ?_; clear S a; intro a S
                  refine st_y S rfl rfl rfl (y_move S rfl) ?_; clear S a; intro a S
                  refine st_split (t := 111) S rfl ?_ ?_
                  · clear S; intro h111 S
                    first | replace h111 := nrmA h111 | replace h111 := nrmB h111 | skip
                    first | replace h111 := nrm1 h111 | replace h111 := nrm2 h111 | replace h111 := nrm3 h111 | replace h111 := nrm4 h111 | replace h111 := nrm5 h111 | replace h111 := nrm6 h111 | replace h111 := of_decide_eq_true h111 | replace h111 := of_decide_eq_false h111 | skip
                    refine st_y S rfl rfl rfl (y_move S rfl) ?_; clear S a; intro a S
                    refine st_y S rfl rfl rfl (y_int S rfl rfl rfl) ?_; clear S a; intro a S
                    refine st_y S rfl rfl rfl (y_pickT S rfl rfl) ?_; clear S a; intro a S
                    refine st_y S rfl rfl rfl (y_move S rfl) ?_; clear S a; intro a S
                    refine st_split (t := 115) S rfl ?_ ?_
                    · clear S; intro h115 S
                      first | replace h115 := nrmA h115 | replace h115 := nrmB h115 | skip
                      first | replace h115 := nrm1 h115 | replace h115 := nrm2 h115 | replace h115 := nrm3 h115 | replace h115 := nrm4 h115 | replace h115 := nrm5 h115 | replace h115 := nrm6 h115 | replace h115 := of_decide_eq_true h115 | replace h115 := of_decide_eq_false h115 | skip
                      refine st_call (xs := []) S (enters_of Try.func7 (by decide) rfl) rfl rfl rfl (wakes04 _) ?_
                      rintro _ w31 ⟨rfl, hK⟩; refine ⟨_, rfl, ?_⟩; clear S a; intro a S; replace M := M.grow hK
                      refine st_y S rfl rfl rfl (y_pickT S rfl rfl) ?_; clear S a; intro a S
                      refine st_y S rfl rfl rfl (y_assign S rfl) ?_; clear S a; intro a S
                      refine wpList_nil ?_
                      replace S := S.sub [(0, _), (1, _), (2, _), (3, _), (4, _), (28, _), (11, _), (12, _), (13, _), (14, _), (59, _), (70, _), (16, _), (18, _), (20, _), (10, _)] rfl
                      refine then_normal ?_
                      refine wp_ret ?_
                      refine end_one S rfl (res_tmp rfl) ?_
                      exact ⟨rfl, M.below⟩
                    · clear S; intro h115 S
                      first | replace h115 := nrmA h115 | replace h115 := nrmB h115 | skip
                      first | replace h115 := nrm1 h115 | replace h115 := nrm2 h115 | replace h115 := nrm3 h115 | replace h115 := nrm4 h115 | replace h115 := nrm5 h115 | replace h115 := nrm6 h115 | replace h115 := of_decide_eq_true h115 | replace h115 := of_decide_eq_false h115 | skip
                      all_goals (simp at h115)
                  · clear S; intro h111 S
                    first | replace h111 := nrmA h111 | replace h111 := nrmB h111 | skip
                    first | replace h111 := nrm1 h111 | replace h111 := nrm2 h111 | replace h111 := nrm3 h111 | replace h111 := nrm4 h111 | replace h111 := nrm5 h111 | replace h111 := nrm6 h111 | replace h111 := of_decide_eq_true h111 | replace h111 := of_decide_eq_false h111 | skip
                    all_goals (simp at h111)
                · clear S; intro h107 S
                  first | replace h107 := nrmA h107 | replace h107 := nrmB h107 | skip
                  first | replace h107 := nrm1 h107 | replace h107 := nrm2 h107 | replace h107 := nrm3 h107 | replace h107 := nrm4 h107 | replace h107 := nrm5 h107 | replace h107 := nrm6 h107 | replace h107 := of_decide_eq_true h107 | replace h107 := of_decide_eq_false h107 | skip
                  all_goals (simp at h107)

end Go.Proofs.Ytdkdplahikoicaa
