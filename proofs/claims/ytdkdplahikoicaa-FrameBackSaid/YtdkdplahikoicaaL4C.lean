/-
  FrameLoads.
-/
import Derived.Test.YtdkdplahikoicaaL4A
namespace Go.Proofs.Ytdkdplahikoicaa
open Go.RowKit Go.Sort

theorem cutE_zero {bs : List UInt8} {seq inc : Int} : cutE bs seq inc = 0 ↔ cutOk bs seq inc := by
  unfold cutE
  by_cases h : cutOk bs seq inc
  · simp [h]
  · rw [if_neg h]; split <;> simp [h]
theorem cutR_get {bs : List UInt8} {seq inc : Int} (h : cutOk bs seq inc) {i : Nat} (hi : i < nOf bs.length) : (cutR bs seq inc)[i]? = some (frOf bs seq inc i) := by
  unfold cutR; rw [if_pos h]; simp [cutF, hi]
theorem cutR_length {bs : List UInt8} {seq inc : Int} (h : cutOk bs seq inc) : (cutR bs seq inc).length = nOf bs.length := by
  unfold cutR; rw [if_pos h]; simp [cutF]
theorem frOf_may {bs : List UInt8} {seq inc : Int} (h : cutOk bs seq inc) {i : Nat} (hi : i < nOf bs.length) : (frOf bs seq inc i).1.may (frOf bs seq inc i).2.length = true := by
  obtain ⟨h1, h2, h3, h4, h5⟩ := h
  unfold nOf at *
  have h0 : 0 < bs.length := List.length_pos_iff.2 h1
  simp only [Fr.may, frOf, decide_eq_true_eq, List.length_take, List.length_drop, nOf]
  omega

set_option maxHeartbeats 2000000 in
theorem loads_any (v : Value) (bs : List UInt8) (seq inc : Int) (w : World) (hv : Bs 0 w.heap.size w v bs) (hseq : -9223372036854775808 ≤ seq ∧ seq ≤ 9223372036854775807) :
    Calls Try.prog 4 #[v, .int .i64 seq, .int .i64 inc] w fun e w' => e = .returned (.bool true) ∧ Below w.heap.size w w' := by
  have M := Mem.start w
  refine calls_enter Try.func4 rfl 110 rfl rfl ?_; intro a S
  refine wp_seq ?_
  -- region 0 law.go:115
  refine wp_region_lit ?_
  refine st_y S rfl rfl rfl (y_assign S rfl) ?_; clear S a; intro a S
  refine wpList_nil ?_
  replace S := S.sub [(0, _), (1, _), (2, _), (6, _)] rfl
  refine then_normal ?_
  refine wp_seq ?_
  refine wp_seq ?_
  -- region 1 law.go:116
  refine wp_region_lit ?_
  refine st_y S rfl rfl rfl (y_move S rfl) ?_; clear S a; intro a S
  refine st_y S rfl rfl rfl (y_lenR (E := 5) S rfl (M.arg hv) (by kernel_rfl)) ?_; clear S a; intro a S
  refine st_y S rfl rfl rfl (y_int S rfl rfl rfl) ?_; clear S a; intro a S
  refine wpList_nil ?_
  replace S := S.sub [(0, _), (1, _), (2, _), (6, _), (14, _)] rfl
  refine then_normal ?_
  refine st_split (t := 14) S rfl ?_ ?_
  · clear S; intro h14 S
    first | replace h14 := nrmA h14 | replace h14 := nrmB h14 | skip
    first | replace h14 := nrm1 h14 | replace h14 := nrm2 h14 | replace h14 := nrm3 h14 | replace h14 := nrm4 h14 | replace h14 := nrm5 h14 | replace h14 := nrm6 h14 | replace h14 := of_decide_eq_true h14 | replace h14 := of_decide_eq_false h14 | skip
    refine st_condT S rfl ?_
    refine wp_seq ?_
    -- region 2 law.go:117
    refine wp_region_lit ?_
    refine st_call (xs := []) S (enters_of Try.func7 (by decide) rfl) rfl rfl rfl (wakes04 _) ?_
    rintro _ w1 ⟨rfl, hK⟩; refine ⟨_, rfl, ?_⟩; clear S a; intro a S; replace M := M.grow hK
    refine st_y S rfl rfl rfl (y_assign S rfl) ?_; clear S a; intro a S
    refine wpList_nil ?_
    replace S := S.sub [(0, _), (1, _), (2, _), (14, _), (6, _)] rfl
    refine then_normal ?_
    refine wp_ret ?_
    refine then_ret ?_
    refine end_one S rfl (res_tmp rfl) ?_
    exact ⟨rfl, M.below⟩
  · clear S; intro h14 S
    first | replace h14 := nrmA h14 | replace h14 := nrmB h14 | skip
    first | replace h14 := nrm1 h14 | replace h14 := nrm2 h14 | replace h14 := nrm3 h14 | replace h14 := nrm4 h14 | replace h14 := nrm5 h14 | replace h14 := nrm6 h14 | replace h14 := of_decide_eq_true h14 | replace h14 := of_decide_eq_false h14 | skip
    refine st_condF S rfl ?_
    refine wp_skip ?_
    refine then_normal ?_
    refine wp_seq ?_
    -- region 3 law.go:119
    refine wp_region_lit ?_
    refine st_y S rfl rfl rfl (y_move S rfl) ?_; clear S a; intro a S
    refine st_y S rfl rfl rfl (y_move S rfl) ?_; clear S a; intro a S
    refine st_y S rfl rfl rfl (y_move S rfl) ?_; clear S a; intro a S
    refine st_call (xs := [(Operand.tmp 17), (Operand.tmp 18), (Operand.tmp 19)]) S (enters_of Try.func8 (by decide) rfl) rfl rfl rfl (cut_any _ bs seq inc _ (M.argW hv) hseq) ?_
    rintro _ w2 ⟨v1, rfl, hK, cs1, hF⟩; refine ⟨_, rfl, ?_⟩; clear S a; intro a S
    obtain ⟨lo1, hi1, hlo1, M⟩ := M.pushFrs hK hF
    refine st_y S rfl rfl rfl (y_move S rfl) ?_; clear S a; intro a S
    refine st_y S rfl rfl rfl (y_extract S rfl rfl) ?_; clear S a; intro a S
    refine st_y S rfl rfl rfl (y_extract S rfl rfl) ?_; clear S a; intro a S
    refine st_y S rfl rfl rfl (y_assign S rfl) ?_; clear S a; intro a S
    refine st_y S rfl rfl rfl (y_assign S rfl) ?_; clear S a; intro a S
    refine wpList_nil ?_
    replace S := S.sub [(0, _), (1, _), (2, _), (6, _), (14, _), (7, _), (8, _)] rfl
    refine then_normal ?_
    refine wp_seq ?_
    refine wp_seq ?_
    -- region 4 law.go:120
    refine wp_region_lit ?_
    refine st_y S rfl rfl rfl (y_move S rfl) ?_; clear S a; intro a S
    refine st_y S rfl rfl rfl (y_int S rfl rfl rfl) ?_; clear S a; intro a S
    refine wpList_nil ?_
    replace S := S.sub [(0, _), (1, _), (2, _), (6, _), (14, _), (7, _), (8, _), (24, _)] rfl
    refine then_normal ?_
    refine st_split (t := 24) S rfl ?_ ?_
    · clear S; intro h24 S
      first | replace h24 := nrmA h24 | replace h24 := nrmB h24 | skip
      first | replace h24 := nrm1 h24 | replace h24 := nrm2 h24 | replace h24 := nrm3 h24 | replace h24 := nrm4 h24 | replace h24 := nrm5 h24 | replace h24 := nrm6 h24 | replace h24 := of_decide_eq_true h24 | replace h24 := of_decide_eq_false h24 | skip
      refine st_condT S rfl ?_
      refine wp_seq ?_
      -- region 5 law.go:121
      refine wp_region_lit ?_
      refine st_y S rfl rfl rfl (y_move S rfl) ?_; clear S a; intro a S
      refine st_y S rfl rfl rfl (y_lenR (E := 33) S rfl ((M.own 0 rfl).1) (by kernel_rfl)) ?_; clear S a; intro a S
      refine st_y S rfl rfl rfl (y_int S rfl rfl rfl) ?_; clear S a; intro a S
      refine st_y S rfl rfl rfl (y_move S rfl) ?_; clear S a; intro a S
      refine st_split (t := 28) S rfl ?_ ?_
      · clear S; intro h28 S
        first | replace h28 := nrmA h28 | replace h28 := nrmB h28 | skip
        first | replace h28 := nrm1 h28 | replace h28 := nrm2 h28 | replace h28 := nrm3 h28 | replace h28 := nrm4 h28 | replace h28 := nrm5 h28 | replace h28 := nrm6 h28 | replace h28 := of_decide_eq_true h28 | replace h28 := of_decide_eq_false h28 | skip
        refine st_call (xs := []) S (enters_of Try.func7 (by decide) rfl) rfl rfl rfl (wakes04 _) ?_
        rintro _ w3 ⟨rfl, hK⟩; refine ⟨_, rfl, ?_⟩; clear S a; intro a S; replace M := M.grow hK
        refine st_y S rfl rfl rfl (y_pickT S rfl rfl) ?_; clear S a; intro a S
        refine st_y S rfl rfl rfl (y_assign S rfl) ?_; clear S a; intro a S
        refine wpList_nil ?_
        replace S := S.sub [(0, _), (1, _), (2, _), (14, _), (7, _), (8, _), (24, _), (6, _)] rfl
        refine then_normal ?_
        refine wp_ret ?_
        refine then_ret ?_
        refine end_one S rfl (res_tmp rfl) ?_
        exact ⟨rfl, M.below⟩
      · clear S; intro h28 S
        first | replace h28 := nrmA h28 | replace h28 := nrmB h28 | skip
        first | replace h28 := nrm1 h28 | replace h28 := nrm2 h28 | replace h28 := nrm3 h28 | replace h28 := nrm4 h28 | replace h28 := nrm5 h28 | replace h28 := nrm6 h28 | replace h28 := of_decide_eq_true h28 | replace h28 := of_decide_eq_false h28 | skip
        all_goals (exfalso; apply h28; have : ¬ cutOk bs seq inc := fun h => h24 (cutE_zero.2 h); unfold cutR; rw [if_neg this]; rfl)
    · clear S; intro h24 S
      first | replace h24 := nrmA h24 | replace h24 := nrmB h24 | skip
      first | replace h24 := nrm1 h24 | replace h24 := nrm2 h24 | replace h24 := nrm3 h24 | replace h24 := nrm4 h24 | replace h24 := nrm5 h24 | replace h24 := nrm6 h24 | replace h24 := of_decide_eq_true h24 | replace h24 := of_decide_eq_false h24 | skip
      refine st_condF S rfl ?_
      refine wp_skip ?_
      refine then_normal ?_
      refine wp_seq ?_
      -- region 6 law.go:123
      refine wp_region_lit ?_
      have hok : cutOk bs seq inc := cutE_zero.1 h24
      have hn2 : nOf bs.length ≤ 2 := by obtain ⟨_, _, _, h4, _⟩ := hok; unfold nOf; omega
      have hlen := cutR_length hok
      have hn0 : 0 < nOf bs.length := by have := List.length_pos_iff.2 hok.1; unfold nOf; omega
      have hs1 : 1 ≤ seq ∧ seq ≤ 1099511627776 := hok.2.1
      have hb90 : bs.length ≤ 90 := hok.2.2.2.1
      refine st_y S rfl rfl rfl (y_assign S rfl) ?_; clear S a; intro a S
      refine wpList_nil ?_
      replace S := S.sub [(0, _), (1, _), (2, _), (6, _), (14, _), (7, _), (8, _), (24, _), (9, _)] rfl
      refine then_normal ?_
      refine wp_seq ?_
      refine wp_seq ?_
      -- region 7 law.go:124
      refine wp_region_lit ?_
      refine st_y S rfl rfl rfl (y_assign S rfl) ?_; clear S a; intro a S
      refine wpList_nil ?_
      replace S := S.sub [(0, _), (1, _), (2, _), (6, _), (14, _), (7, _), (8, _), (24, _), (9, _), (10, _)] rfl
      refine then_normal ?_
      refine wp_block ?_
      refine wp_loop_g (fun m a w' => ∃ (k lo hi : Nat) (v' : Value), k ≤ nOf bs.length ∧ m = nOf bs.length - k ∧ Sees 110 a [(0, v), (1, .int .i64 seq), (2, .int .i64 inc), (7, v1), (9, v'), (10, .int .i64 (k : Int))] ∧ Mem w w' [rowE lo hi 5 1 v' (bs.take (k * 45)).length (bcells (bs.take (k * 45))), .own lo1 hi1 (fun w => FrsC cs1 lo1 hi1 w v1 (cutR bs seq inc))]) (nOf bs.length) ?_ ?_
      · skip
        exact ⟨0, _, _, _, Nat.zero_le _, rfl, S.sub _ rfl, M.rowNil _ _⟩
      · clear S M a; intro m a wl
        rintro ⟨k, lo, hi, v', hk, rfl, S, M⟩
        refine wp_seq ?_
        refine wp_seq ?_
        -- region 8 law.go:124
        refine wp_region_lit ?_
        refine st_y S rfl rfl rfl (y_move S rfl) ?_; clear S a; intro a S
        refine st_y S rfl rfl rfl (y_move S rfl) ?_; clear S a; intro a S
        refine st_y S rfl rfl rfl (y_lenR (E := 33) S rfl ((M.own 1 rfl).1) (by kernel_rfl)) ?_; clear S a; intro a S
        refine st_y S rfl rfl rfl (y_int S rfl rfl rfl) ?_; clear S a; intro a S
        refine wpList_nil ?_
        replace S := S.sub [(0, _), (1, _), (2, _), (7, _), (9, _), (10, _), (34, _)] rfl
        refine then_normal ?_
        refine st_split (t := 34) S rfl ?_ ?_
        · clear S; intro h34 S
          first | replace h34 := nrmA h34 | replace h34 := nrmB h34 | skip
          first | replace h34 := nrm1 h34 | replace h34 := nrm2 h34 | replace h34 := nrm3 h34 | replace h34 := nrm4 h34 | replace h34 := nrm5 h34 | replace h34 := nrm6 h34 | replace h34 := of_decide_eq_true h34 | replace h34 := of_decide_eq_false h34 | skip
          refine st_condT S rfl ?_
          refine wp_skip ?_
          refine then_normal ?_
          refine wp_seq ?_
          refine wp_block ?_
          refine wp_seq ?_
          -- region 10 law.go:125
          refine wp_region_lit ?_
          have hk' : k < nOf bs.length := by omega
          have hx := cutR_get hok hk'
          have hx0 := cutR_get hok hn0
          obtain ⟨lv, hrow, hlv⟩ := (M.own 1 rfl).2 k _ _ hx
          obtain ⟨lv0, hrow0, -⟩ := (M.own 1 rfl).2 0 _ _ hx0
          obtain ⟨ad, cap, hlvE, -, -⟩ := hlv.form
          subst hlvE
          refine st_y S rfl rfl rfl (y_move S rfl) ?_; clear S a; intro a S
          refine st_y S rfl rfl rfl (y_move S rfl) ?_; clear S a; intro a S
          refine st_y S rfl rfl rfl (y_indexR (e := 33) (sz := 6) S (by kernel_rfl) rfl ((M.own 1 rfl).1) rfl (by first | omega | (simp; done) | (simp; omega))) ?_; clear S a; intro a S
          try simp only [Int.toNat_natCast, Nat.mul_one, Nat.zero_add] at S
          refine st_y S rfl rfl rfl (y_loadAgg S (by kernel_rfl) rfl rfl (((M.own 1 rfl).row hx hrow).1)) ?_; clear S a; intro a S
          refine st_alloc S M rfl rfl #[.int .i64 0, .int .i64 0, .int .i64 0, .int .i64 0, .int .u32 0, .slice none 0 0] (by kernel_rfl) ?_; clear S M a; intro a w4 b1 S M hB
          refine st_store (sz := 6) (us := [_, _, _, _, _, _]) S M 0 rfl (by kernel_rfl) rfl rfl rfl rfl rfl rfl (by first | decide | (simp; done) | (simp; omega)) ?_; clear M; intro w5 M
          simp only [putL, List.set_cons_zero, List.set_cons_succ, Nat.reduceAdd] at M
          refine wpList_nil ?_
          replace S := S.sub [(0, _), (1, _), (2, _), (7, _), (9, _), (10, _), (34, _), (11, _)] rfl
          refine then_normal ?_
          refine wp_seq ?_
          refine wp_seq ?_
          -- region 11 law.go:126
          skip
          refine wp_quiet M (by kernel_rfl) (by kernel_rfl) ?_
          refine qt_y S rfl rfl rfl (fun w M => y_fieldAddr (k := 0) S (by kernel_rfl) rfl) ?_; clear S a; intro a S
          refine qt_y S rfl rfl rfl (fun w M => y_load S (by kernel_rfl) rfl (M.cell 0 rfl rfl)) ?_; clear S a; intro a S
          refine qt_y S rfl rfl rfl (fun w M => y_move S rfl) ?_; clear S a; intro a S
          refine qt_y S rfl rfl rfl (fun w M => y_move S rfl) ?_; clear S a; intro a S
          (first | refine qt_y S rfl rfl rfl (fun w M => y_addN S rfl rfl (by omega)) ?_ | refine qt_y S rfl rfl rfl (fun w M => y_int S rfl rfl rfl) ?_); clear S a; intro a S
          refine qt_y S rfl rfl rfl (fun w M => y_int S rfl rfl rfl) ?_; clear S a; intro a S
          refine qt_y S rfl rfl rfl (fun w M => y_move S rfl) ?_; clear S a; intro a S
          refine st_split (t := 47) S rfl ?_ ?_
          · clear S; intro h47 S
            first | replace h47 := nrmA h47 | replace h47 := nrmB h47 | skip
            first | replace h47 := nrm1 h47 | replace h47 := nrm2 h47 | replace h47 := nrm3 h47 | replace h47 := nrm4 h47 | replace h47 := nrm5 h47 | replace h47 := nrm6 h47 | replace h47 := of_decide_eq_true h47 | replace h47 := of_decide_eq_false h47 | skip
            exact absurd rfl h47
          · clear S; intro h47 S
            first | replace h47 := nrmA h47 | replace h47 := nrmB h47 | skip
            first | replace h47 := nrm1 h47 | replace h47 := nrm2 h47 | replace h47 := nrm3 h47 | replace h47 := nrm4 h47 | replace h47 := nrm5 h47 | replace h47 := nrm6 h47 | replace h47 := of_decide_eq_true h47 | replace h47 := of_decide_eq_false h47 | skip
            refine qt_y S rfl rfl rfl (fun w M => y_fieldAddr (k := 1) S (by kernel_rfl) rfl) ?_; clear S a; intro a S
            refine qt_y S rfl rfl rfl (fun w M => y_load S (by kernel_rfl) rfl (M.cell 0 rfl rfl)) ?_; clear S a; intro a S
            refine qt_y S rfl rfl rfl (fun w M => y_move S rfl) ?_; clear S a; intro a S
            refine qt_y S rfl rfl rfl (fun w M => y_int S rfl rfl rfl) ?_; clear S a; intro a S
            refine qt_y S rfl rfl rfl (fun w M => y_pickF S rfl rfl) ?_; clear S a; intro a S
            refine qt_y S rfl rfl rfl (fun w M => y_move S rfl) ?_; clear S a; intro a S
            refine st_split (t := 53) S rfl ?_ ?_
            · clear S; intro h53 S
              first | replace h53 := nrmA h53 | replace h53 := nrmB h53 | skip
              first | replace h53 := nrm1 h53 | replace h53 := nrm2 h53 | replace h53 := nrm3 h53 | replace h53 := nrm4 h53 | replace h53 := nrm5 h53 | replace h53 := nrm6 h53 | replace h53 := of_decide_eq_true h53 | replace h53 := of_decide_eq_false h53 | skip
              exact absurd rfl h53
            · clear S; intro h53 S
              first | replace h53 := nrmA h53 | replace h53 := nrmB h53 | skip
              first | replace h53 := nrm1 h53 | replace h53 := nrm2 h53 | replace h53 := nrm3 h53 | replace h53 := nrm4 h53 | replace h53 := nrm5 h53 | replace h53 := nrm6 h53 | replace h53 := of_decide_eq_true h53 | replace h53 := of_decide_eq_false h53 | skip
              refine qt_y S rfl rfl rfl (fun w M => y_fieldAddr (k := 2) S (by kernel_rfl) rfl) ?_; clear S a; intro a S
              refine qt_y S rfl rfl rfl (fun w M => y_load S (by kernel_rfl) rfl (M.cell 0 rfl rfl)) ?_; clear S a; intro a S
              refine qt_y S rfl rfl rfl (fun w M => y_move S rfl) ?_; clear S a; intro a S
              refine qt_y S rfl rfl rfl (fun w M => y_int S rfl rfl rfl) ?_; clear S a; intro a S
              refine qt_y S rfl rfl rfl (fun w M => y_pickF S rfl rfl) ?_; clear S a; intro a S
              refine qt_y S rfl rfl rfl (fun w M => y_move S rfl) ?_; clear S a; intro a S
              refine st_split (t := 59) S rfl ?_ ?_
              · clear S; intro h59 S
                first | replace h59 := nrmA h59 | replace h59 := nrmB h59 | skip
                first | replace h59 := nrm1 h59 | replace h59 := nrm2 h59 | replace h59 := nrm3 h59 | replace h59 := nrm4 h59 | replace h59 := nrm5 h59 | replace h59 := nrm6 h59 | replace h59 := of_decide_eq_true h59 | replace h59 := of_decide_eq_false h59 | skip
                exact absurd rfl h59
              · clear S; intro h59 S
                first | replace h59 := nrmA h59 | replace h59 := nrmB h59 | skip
                first | replace h59 := nrm1 h59 | replace h59 := nrm2 h59 | replace h59 := nrm3 h59 | replace h59 := nrm4 h59 | replace h59 := nrm5 h59 | replace h59 := nrm6 h59 | replace h59 := of_decide_eq_true h59 | replace h59 := of_decide_eq_false h59 | skip
                refine qt_y S rfl rfl rfl (fun w M => y_fieldAddr (k := 3) S (by kernel_rfl) rfl) ?_; clear S a; intro a S
                refine qt_y S rfl rfl rfl (fun w M => y_load S (by kernel_rfl) rfl (M.cell 0 rfl rfl)) ?_; clear S a; intro a S
                refine qt_y S rfl rfl rfl (fun w M => y_move S rfl) ?_; clear S a; intro a S
                refine qt_y S rfl rfl rfl (fun w M => y_lenR (E := 33) S rfl ((M.own 2 rfl).1) (by kernel_rfl)) ?_; clear S a; intro a S
                refine qt_y S rfl rfl rfl (fun w M => y_int S rfl rfl rfl) ?_; clear S a; intro a S
                refine qt_y S rfl rfl rfl (fun w M => y_pickF S rfl rfl) ?_; clear S a; intro a S
                refine qt_y S rfl rfl rfl (fun w M => y_move S rfl) ?_; clear S a; intro a S
                refine st_split (t := 66) S rfl ?_ ?_
                · clear S; intro h66 S
                  first | replace h66 := nrmA h66 | replace h66 := nrmB h66 | skip
                  first | replace h66 := nrm1 h66 | replace h66 := nrm2 h66 | replace h66 := nrm3 h66 | replace h66 := nrm4 h66 | replace h66 := nrm5 h66 | replace h66 := nrm6 h66 | replace h66 := of_decide_eq_true h66 | replace h66 := of_decide_eq_false h66 | skip
                  exact absurd (by rw [hlen]) h66
                · clear S; intro h66 S
                  first | replace h66 := nrmA h66 | replace h66 := nrmB h66 | skip
                  first | replace h66 := nrm1 h66 | replace h66 := nrm2 h66 | replace h66 := nrm3 h66 | replace h66 := nrm4 h66 | replace h66 := nrm5 h66 | replace h66 := nrm6 h66 | replace h66 := of_decide_eq_true h66 | replace h66 := of_decide_eq_false h66 | skip
                  refine qt_y S rfl rfl rfl (fun w M => y_fieldAddr (k := 4) S (by kernel_rfl) rfl) ?_; clear S a; intro a S
                  refine qt_y S rfl rfl rfl (fun w M => y_load S (by kernel_rfl) rfl (M.cell 0 rfl rfl)) ?_; clear S a; intro a S
                  refine qt_y S rfl rfl rfl (fun w M => y_move S rfl) ?_; clear S a; intro a S
                  refine qt_y S rfl rfl rfl (fun w M => y_indexR (e := 33) (sz := 6) S (by kernel_rfl) rfl ((M.own 2 rfl).1) rfl (by first | omega | (simp; done) | (simp; omega))) ?_; clear S a; intro a S
                  refine qt_y S rfl rfl rfl (fun w M => y_fieldAddr (k := 4) S (by kernel_rfl) rfl) ?_; clear S a; intro a S
                  refine qt_y S rfl rfl rfl (fun w M => y_load S (by kernel_rfl) rfl (((M.own 2 rfl).row (i := 0) hx0 hrow0).1.one 4 rfl)) ?_; clear S a; intro a S
                  refine qt_y S rfl rfl rfl (fun w M => y_neq32 S rfl rfl) ?_; clear S a; intro a S
                  refine qt_y S rfl rfl rfl (fun w M => y_pickF S rfl rfl) ?_; clear S a; intro a S
                  refine qt_y S rfl rfl rfl (fun w M => y_move S rfl) ?_; clear S a; intro a S
                  refine st_split (t := 75) S rfl ?_ ?_
                  · clear S; intro h75 S
                    exact absurd h75 (by simp [frOf])
                  · clear S; intro h75 S
                    refine qt_y S rfl rfl rfl (fun w M => y_move S rfl) ?_; clear S a; intro a S
                    refine qt_y S rfl rfl rfl (fun w M => y_move S rfl) ?_; clear S a; intro a S
                    refine qt_y S rfl rfl rfl (fun w M => y_lenR (E := 33) S rfl ((M.own 2 rfl).1) (by kernel_rfl)) ?_; clear S a; intro a S
                    (first | refine qt_y S rfl rfl rfl (fun w M => y_subN S rfl rfl (by omega)) ?_ | refine qt_y S rfl rfl rfl (fun w M => y_int S rfl rfl rfl) ?_); clear S a; intro a S
                    refine qt_y S rfl rfl rfl (fun w M => y_int S rfl rfl rfl) ?_; clear S a; intro a S
                    refine qt_y S rfl rfl rfl (fun w M => y_move S rfl) ?_; clear S a; intro a S
                    refine st_split (t := 81) S rfl ?_ ?_
                    · clear S; intro h81 S
                      first | replace h81 := nrmA h81 | replace h81 := nrmB h81 | skip
                      first | replace h81 := nrm1 h81 | replace h81 := nrm2 h81 | replace h81 := nrm3 h81 | replace h81 := nrm4 h81 | replace h81 := nrm5 h81 | replace h81 := nrm6 h81 | replace h81 := of_decide_eq_true h81 | replace h81 := of_decide_eq_false h81 | skip
                      refine qt_y S rfl rfl rfl (fun w M => y_fieldAddr (k := 5) S (by kernel_rfl) rfl) ?_; clear S a; intro a S
                      refine qt_y S rfl rfl rfl (fun w M => y_load S (by kernel_rfl) rfl (M.cell 0 rfl rfl)) ?_; clear S a; intro a S
                      refine qt_y S rfl rfl rfl (fun w M => y_lenS (E := 5) S rfl (by kernel_rfl)) ?_; clear S a; intro a S
                      refine qt_y S rfl rfl rfl (fun w M => y_int S rfl rfl rfl) ?_; clear S a; intro a S
                      refine qt_y S rfl rfl rfl (fun w M => y_pickT S rfl rfl) ?_; clear S a; intro a S
                      refine qt_y S rfl rfl rfl (fun w M => y_pickF S rfl rfl) ?_; clear S a; intro a S
                      refine qt_y S rfl rfl rfl (fun w M => y_move S rfl) ?_; clear S a; intro a S
                      refine st_split (t := 88) S rfl ?_ ?_
                      · clear S; intro h88 S
                        first | replace h88 := nrmA h88 | replace h88 := nrmB h88 | skip
                        first | replace h88 := nrm1 h88 | replace h88 := nrm2 h88 | replace h88 := nrm3 h88 | replace h88 := nrm4 h88 | replace h88 := nrm5 h88 | replace h88 := nrm6 h88 | replace h88 := of_decide_eq_true h88 | replace h88 := of_decide_eq_false h88 | skip
                        exact absurd (by simp only [frOf, List.length_take, List.length_drop]; unfold nOf at *; omega) h88
                      · clear S; intro h88 S
                        first | replace h88 := nrmA h88 | replace h88 := nrmB h88 | skip
                        first | replace h88 := nrm1 h88 | replace h88 := nrm2 h88 | replace h88 := nrm3 h88 | replace h88 := nrm4 h88 | replace h88 := nrm5 h88 | replace h88 := nrm6 h88 | replace h88 := of_decide_eq_true h88 | replace h88 := of_decide_eq_false h88 | skip
                        refine qt_y S rfl rfl rfl (fun w M => y_loadAgg (cs := [_, _, _, _, _, _]) S (by kernel_rfl) rfl rfl (M.cellsAt (k := 6) 0 rfl rfl)) ?_; clear S a; intro a S
                        refine qt_call (xs := [(Operand.tmp 89)]) S (enters_of Try.func11 (by decide) rfl) rfl rfl rfl (quiet_of fun w M => mayF_any (frOf bs seq inc k).1 ad (frOf bs seq inc k).2.length cap w) ?_; clear S a; intro a S
                        refine qt_y S rfl rfl rfl (fun w M => y_not S rfl) ?_; clear S a; intro a S
                        refine qt_y S rfl rfl rfl (fun w M => y_pickF S rfl rfl) ?_; clear S a; intro a S
                        refine wpQuiet_nil ?_; clear M; intro w7 M
                        replace S := S.sub [(0, _), (1, _), (2, _), (7, _), (9, _), (10, _), (34, _), (11, _), (92, _)] rfl
                        refine then_normal ?_
                        refine st_split (t := 92) S rfl ?_ ?_
                        · clear S; intro h92 S
                          exact absurd h92 (by rw [frOf_may hok hk']; simp)
                        · clear S; intro h92 S
                          refine st_condF S rfl ?_
                          refine wp_skip ?_
                          refine then_normal ?_
                          -- region 13 law.go:129
                          refine wp_region_lit ?_
                          refine st_y S rfl rfl rfl (y_move S rfl) ?_; clear S a; intro a S
                          refine st_y S rfl rfl rfl (y_fieldAddr (k := 5) S (by kernel_rfl) rfl) ?_; clear S a; intro a S
                          refine st_y S rfl rfl rfl (y_load S (by kernel_rfl) rfl (M.cell 0 rfl rfl)) ?_; clear S a; intro a S
                          have ht1 : (bs.take (k * 45)).length ≤ 90 := by rw [List.length_take]; omega
                          have ht2 : (frOf bs seq inc k).2.length ≤ 90 := by simp only [frOf, List.length_take, List.length_drop]; omega
                          have ht3 : (List.take 45 (List.drop (k * 45) bs)).length ≤ 90 := ht2
                          refine st_append (e := 5) (sz := 1) (by_ := 1) (zc := [.int .u8 0]) S M 1 rfl rfl (by kernel_rfl) rfl (by decide) rfl rfl rfl (((M.own 2 rfl).row hx hrow).2) (allOne_bcells _) (by omega) (by unfold maxLen; omega) ?_; clear S M a; intro a w8 vA loA hiA S M
                          refine st_y S rfl rfl rfl (y_assign S rfl) ?_; clear S a; intro a S
                          refine wpList_nil ?_
                          replace S := S.sub [(0, _), (1, _), (2, _), (7, _), (10, _), (34, _), (11, _), (92, _), (9, _)] rfl
                          refine block_normal ?_
                          refine then_normal ?_
                          -- region 9 law.go:124
                          refine wp_region_lit ?_
                          refine st_y S rfl rfl rfl (y_move S rfl) ?_; clear S a; intro a S
                          (first | refine st_y S rfl rfl rfl (y_addN S rfl rfl (by omega)) ?_ | refine st_y S rfl rfl rfl (y_int S rfl rfl rfl) ?_); clear S a; intro a S
                          refine st_y S rfl rfl rfl (y_assign S rfl) ?_; clear S a; intro a S
                          refine wpList_nil ?_
                          replace S := S.sub [(0, _), (1, _), (2, _), (7, _), (34, _), (11, _), (92, _), (9, _), (10, _)] rfl
                          refine then_normal ?_
                          refine ⟨nOf bs.length - (k + 1), by omega, k + 1, loA, hiA, vA, by omega, rfl, S.sub _ rfl, ?_⟩
                          have M' := M.drop 1
                          have e : bs.take ((k + 1) * 45) = bs.take (k * 45) ++ (frOf bs seq inc k).2 := by
                            rw [show (k + 1) * 45 = k * 45 + 45 by omega, List.take_add]; rfl
                          rw [e, List.length_append, bcells_append]
                          exact M'
                    · clear S; intro h81 S
                      first | replace h81 := nrmA h81 | replace h81 := nrmB h81 | skip
                      first | replace h81 := nrm1 h81 | replace h81 := nrm2 h81 | replace h81 := nrm3 h81 | replace h81 := nrm4 h81 | replace h81 := nrm5 h81 | replace h81 := nrm6 h81 | replace h81 := of_decide_eq_true h81 | replace h81 := of_decide_eq_false h81 | skip
                      refine qt_no S rfl rfl rfl ?_; clear S a; intro a S
                      refine qt_no S rfl rfl rfl ?_; clear S a; intro a S
                      refine qt_no S rfl rfl rfl ?_; clear S a; intro a S
                      refine qt_no S rfl rfl rfl ?_; clear S a; intro a S
                      refine qt_y S rfl rfl rfl (fun w M => y_pickF S rfl rfl) ?_; clear S a; intro a S
                      refine qt_y S rfl rfl rfl (fun w M => y_pickF S rfl rfl) ?_; clear S a; intro a S
                      refine qt_y S rfl rfl rfl (fun w M => y_move S rfl) ?_; clear S a; intro a S
                      refine qt_y S rfl rfl rfl (fun w M => y_loadAgg (cs := [_, _, _, _, _, _]) S (by kernel_rfl) rfl rfl (M.cellsAt (k := 6) 0 rfl rfl)) ?_; clear S a; intro a S
                      refine qt_call (xs := [(Operand.tmp 89)]) S (enters_of Try.func11 (by decide) rfl) rfl rfl rfl (quiet_of fun w M => mayF_any (frOf bs seq inc k).1 ad (frOf bs seq inc k).2.length cap w) ?_; clear S a; intro a S
                      refine qt_y S rfl rfl rfl (fun w M => y_not S rfl) ?_; clear S a; intro a S
                      refine qt_y S rfl rfl rfl (fun w M => y_pickF S rfl rfl) ?_; clear S a; intro a S
                      refine wpQuiet_nil ?_; clear M; intro w10 M
                      replace S := S.sub [(0, _), (1, _), (2, _), (7, _), (9, _), (10, _), (34, _), (11, _), (92, _)] rfl
                      refine then_normal ?_
                      refine st_split (t := 92) S rfl ?_ ?_
                      · clear S; intro h92 S
                        exact absurd h92 (by rw [frOf_may hok hk']; simp)
                      · clear S; intro h92 S
                        refine st_condF S rfl ?_
                        refine wp_skip ?_
                        refine then_normal ?_
                        -- region 13 law.go:129
                        refine wp_region_lit ?_
                        refine st_y S rfl rfl rfl (y_move S rfl) ?_; clear S a; intro a S
                        refine st_y S rfl rfl rfl (y_fieldAddr (k := 5) S (by kernel_rfl) rfl) ?_; clear S a; intro a S
                        refine st_y S rfl rfl rfl (y_load S (by kernel_rfl) rfl (M.cell 0 rfl rfl)) ?_; clear S a; intro a S
                        have ht1 : (bs.take (k * 45)).length ≤ 90 := by rw [List.length_take]; omega
                        have ht2 : (frOf bs seq inc k).2.length ≤ 90 := by simp only [frOf, List.length_take, List.length_drop]; omega
                        have ht3 : (List.take 45 (List.drop (k * 45) bs)).length ≤ 90 := ht2
                        refine st_append (e := 5) (sz := 1) (by_ := 1) (zc := [.int .u8 0]) S M 1 rfl rfl (by kernel_rfl) rfl (by decide) rfl rfl rfl (((M.own 2 rfl).row hx hrow).2) (allOne_bcells _) (by omega) (by unfold maxLen; omega) ?_; clear S M a; intro a w11 vA loA hiA S M
                        refine st_y S rfl rfl rfl (y_assign S rfl) ?_; clear S a; intro a S
                        refine wpList_nil ?_
                        replace S := S.sub [(0, _), (1, _), (2, _), (7, _), (10, _), (34, _), (11, _), (92, _), (9, _)] rfl
                        refine block_normal ?_
                        refine then_normal ?_
                        -- region 9 law.go:124
                        refine wp_region_lit ?_
                        refine st_y S rfl rfl rfl (y_move S rfl) ?_; clear S a; intro a S
                        (first | refine st_y S rfl rfl rfl (y_addN S rfl rfl (by omega)) ?_ | refine st_y S rfl rfl rfl (y_int S rfl rfl rfl) ?_); clear S a; intro a S
                        refine st_y S rfl rfl rfl (y_assign S rfl) ?_; clear S a; intro a S
                        refine wpList_nil ?_
                        replace S := S.sub [(0, _), (1, _), (2, _), (7, _), (34, _), (11, _), (92, _), (9, _), (10, _)] rfl
                        refine then_normal ?_
                        refine ⟨nOf bs.length - (k + 1), by omega, k + 1, loA, hiA, vA, by omega, rfl, S.sub _ rfl, ?_⟩
                        have M' := M.drop 1
                        have e : bs.take ((k + 1) * 45) = bs.take (k * 45) ++ (frOf bs seq inc k).2 := by
                          rw [show (k + 1) * 45 = k * 45 + 45 by omega, List.take_add]; rfl
                        rw [e, List.length_append, bcells_append]
                        exact M'
        · clear S; intro h34 S
          first | replace h34 := nrmA h34 | replace h34 := nrmB h34 | skip
          first | replace h34 := nrm1 h34 | replace h34 := nrm2 h34 | replace h34 := nrm3 h34 | replace h34 := nrm4 h34 | replace h34 := nrm5 h34 | replace h34 := nrm6 h34 | replace h34 := of_decide_eq_true h34 | replace h34 := of_decide_eq_false h34 | skip
          refine st_condF S rfl ?_
          refine wp_exit ?_
          refine then_exit ?_
          refine then_exit ?_
          refine block_hit ?_
          refine then_normal ?_
          refine wp_seq ?_
          -- region 14 law.go:131
          refine wp_region_lit ?_
          obtain rfl : k = nOf bs.length := by omega
          have hall : bs.take (nOf bs.length * 45) = bs := List.take_of_length_le (by unfold nOf; omega)
          rw [hall] at M
          refine st_y S rfl rfl rfl (y_move S rfl) ?_; clear S a; intro a S
          refine st_y S rfl rfl rfl (y_bytesStr (e := 5) S rfl (by kernel_rfl) (by kernel_rfl) (by kernel_rfl) (M.readRow 0 rfl (by unfold maxLen; omega))) ?_; clear S a; intro a S
          refine st_y S rfl rfl rfl (y_move S rfl) ?_; clear S a; intro a S
          refine st_y S rfl rfl rfl (y_bytesStr (e := 5) S rfl (by kernel_rfl) (by kernel_rfl) (by kernel_rfl) (M.arg hv)) ?_; clear S a; intro a S
          refine st_y S rfl rfl rfl (y_eqlStr S rfl rfl) ?_; clear S a; intro a S
          refine st_y S rfl rfl rfl (y_move S rfl) ?_; clear S a; intro a S
          refine st_split (t := 102) S rfl ?_ ?_
          · clear S; intro h102 S
            refine st_y S rfl rfl rfl (y_move S rfl) ?_; clear S a; intro a S
            refine st_y S rfl rfl rfl (y_lenR (E := 33) S rfl ((M.own 1 rfl).1) (by kernel_rfl)) ?_; clear S a; intro a S
            refine st_y S rfl rfl rfl (y_int S rfl rfl rfl) ?_; clear S a; intro a S
            refine st_y S rfl rfl rfl (y_pickT S rfl rfl) ?_; clear S a; intro a S
            refine st_y S rfl rfl rfl (y_move S rfl) ?_; clear S a; intro a S
            refine st_split (t := 107) S rfl ?_ ?_
            · clear S; intro h107 S
              first | replace h107 := nrmA h107 | replace h107 := nrmB h107 | skip
              first | replace h107 := nrm1 h107 | replace h107 := nrm2 h107 | replace h107 := nrm3 h107 | replace h107 := nrm4 h107 | replace h107 := nrm5 h107 | replace h107 := nrm6 h107 | replace h107 := of_decide_eq_true h107 | replace h107 := of_decide_eq_false h107 | skip
              refine st_call (xs := []) S (enters_of Try.func7 (by decide) rfl) rfl rfl rfl (wakes04 _) ?_
              rintro _ w12 ⟨rfl, hK⟩; refine ⟨_, rfl, ?_⟩; clear S a; intro a S; replace M := M.grow hK
              refine st_y S rfl rfl rfl (y_pickT S rfl rfl) ?_; clear S a; intro a S
              refine st_y S rfl rfl rfl (y_assign S rfl) ?_; clear S a; intro a S
              refine wpList_nil ?_
              replace S := S.sub [(0, _), (1, _), (2, _), (7, _), (9, _), (10, _), (34, _), (6, _)] rfl
              refine then_normal ?_
              refine wp_ret ?_
              refine end_one S rfl (res_tmp rfl) ?_
              exact ⟨rfl, M.below⟩
            · clear S; intro h107 S
              first | replace h107 := nrmA h107 | replace h107 := nrmB h107 | skip
              first | replace h107 := nrm1 h107 | replace h107 := nrm2 h107 | replace h107 := nrm3 h107 | replace h107 := nrm4 h107 | replace h107 := nrm5 h107 | replace h107 := nrm6 h107 | replace h107 := of_decide_eq_true h107 | replace h107 := of_decide_eq_false h107 | skip
              all_goals (rw [hlen] at h107; omega)
          · clear S; intro h102 S
            exact absurd h102 (by rw [strEq]; simp)

end Go.Proofs.Ytdkdplahikoicaa
