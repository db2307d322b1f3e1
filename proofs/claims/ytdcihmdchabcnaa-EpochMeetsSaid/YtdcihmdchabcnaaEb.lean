/-
  Package cashboxlaw17: EpochRises.
-/
import Derived.Test.YtdcihmdchabcnaaEa
namespace Go.Proofs.Ytdcihmdchabcnaa
open Go.RowKit Go.Sort

/-- the slice v reads as these messages, each with its writes -/
def MsC (cs : List Value) (lo hi : Nat) (w : World) (v : Value) (ms : List (Msg × List Wr)) : Prop :=
  Rd lo hi w 24 v ms.length cs ∧ ∀ (i : Nat) (q : Msg × List Wr), ms[i]? = some q → ∃ lv, (cs.drop (i * 24)).take 24 = (q.1.cells lv).toList ∧ Ws lo hi w lv q.2
theorem MsC.same {cs : List Value} {lo hi : Nat} {w w' : World} {v : Value} {ms : List (Msg × List Wr)} (h : MsC cs lo hi w v ms) (hs : SameOn lo hi w w') : MsC cs lo hi w' v ms :=
  ⟨h.1.same hs, fun i q hi => let ⟨lv, e, hb⟩ := h.2 i q hi; ⟨lv, e, hb.same hs⟩⟩
theorem Mem.ms {w0 w : World} {H : List Ent} {cs : List Value} {v : Value} {ms : List (Msg × List Wr)} (M : Mem w0 w H) (h : MsC cs 0 w0.heap.size w0 v ms) : MsC cs 0 w0.heap.size w v ms := h.same fun k _ h2 => M.below.block k h2

/-- what is heard and taken: nothing falls -/
theorem hear_rises {k : Kn} {m : Msg} {x : List Wr} {o : Kn} {how : Int} (h : hearK k m x = (o, how, 0)) :
    ∃ F : Nat, m.frm = (F : Int) ∧ F < 5 ∧ (∀ i, i < 5 → k.of i ≤ o.of i) ∧ (∀ i, i < 5 → o.of i ≠ k.of i → i = F ∧ o.of i = m.inc ∧ 2 ≤ how) ∧ o.inc = k.inc ∧ o.node = k.node ∧ (how = 0 → o = k) ∧ (how = 3 ↔ (0 < k.of F ∧ k.of F < m.inc) ∧ 0 < how) := by
  unfold hearK at h
  split at h
  · rename_i hy
    obtain ⟨hk, hm, -⟩ := hy
    have hf := may_frm hm
    obtain ⟨F, hF⟩ := Int.eq_ofNat_of_zero_le hf.1.1
    have hF5 : F < 5 := by omega
    have hof := (Kn.may_iff.1 hk).2.2 F hF5
    rw [hF, Int.toNat_natCast] at h
    refine ⟨F, hF, hF5, ?_⟩
    split at h
    · simp only [Prod.mk.injEq, and_true] at h
      obtain ⟨rfl, rfl⟩ := h
      refine ⟨fun i _ => Int.le_refl _, fun i _ h => absurd rfl h, rfl, rfl, fun _ => rfl, by omega⟩
    · simp only [Prod.mk.injEq, and_true] at h
      obtain ⟨rfl, rfl⟩ := h
      refine ⟨fun i hi => ?_, fun i hi hne => ?_, Kn.set_inc _ _ _, Kn.set_node _ _ _, fun h0 => ?_, ?_⟩
      · rw [Kn.of_set hF5 hi]; split
        · subst_vars; omega
        · omega
      · rw [Kn.of_set hF5 hi] at hne ⊢
        split at hne
        · rename_i he
          subst he
          rw [if_pos rfl]
          refine ⟨rfl, rfl, ?_⟩
          split <;> (try split) <;> omega
        · exact absurd rfl hne
      · exfalso; revert h0; split <;> (try split) <;> omega
      · split <;> (try split) <;> omega
  · simp at h

theorem rises_any (k0 : Kn) (v : Value) (cs : List Value) (ms : List (Msg × List Wr)) (w : World) (hv : MsC cs 0 w.heap.size w v ms) :
    Calls Try.prog 3 #[.agg k0.cells, v] w fun e w' => e = .returned (.bool true) ∧ Below w.heap.size w w' := by
  have M := Mem.start w
  have hl := hv.1.2.1
  unfold maxLen at hl
  refine calls_enter Try.func3 rfl 130 rfl rfl ?_; intro a S
  refine wp_seq ?_
  -- region 0 law.go:39
  refine wp_region_lit ?_
  refine st_box S M rfl rfl rfl #[_, _, _, _, _, _, _] rfl ?_; clear S M a; intro a w1 bK S M hB
  refine st_y S rfl rfl rfl (y_assign S rfl) ?_; clear S a; intro a S
  refine wpList_nil ?_
  replace S := S.sub [(0, _), (1, _), (2, _), (4, _)] rfl
  refine then_normal ?_
  refine wp_seq ?_
  refine wp_seq ?_
  -- region 1 law.go:40
  refine wp_region_lit ?_
  refine st_y S rfl rfl rfl (y_move S rfl) ?_; clear S a; intro a S
  refine st_y S rfl rfl rfl (y_lenR (E := 36) S rfl ((M.ms hv).1) (by kernel_rfl)) ?_; clear S a; intro a S
  refine st_y S rfl rfl rfl (y_int S rfl rfl rfl) ?_; clear S a; intro a S
  refine st_y S rfl rfl rfl (y_move S rfl) ?_; clear S a; intro a S
  refine st_split (t := 14) S rfl ?_ ?_
  · clear S; intro h14 S
    first | replace h14 := nrmA h14 | replace h14 := nrmB h14 | skip
    first | replace h14 := nrm1 h14 | replace h14 := nrm2 h14 | replace h14 := nrm3 h14 | replace h14 := nrm4 h14 | replace h14 := nrm5 h14 | replace h14 := nrm6 h14 | replace h14 := of_decide_eq_true h14 | replace h14 := of_decide_eq_false h14 | skip
    refine st_skip 3 S rfl ?_; clear S a; intro a S
    refine st_y S rfl rfl rfl (y_pickT S rfl rfl) ?_; clear S a; intro a S
    refine wpList_nil ?_
    replace S := S.sub [(0, _), (1, _), (2, _), (4, _), (18, _)] rfl
    refine then_normal ?_
    refine st_condT S rfl ?_
    refine wp_seq ?_
    -- region 2 law.go:41
    refine wp_region_lit ?_
    refine st_call (xs := []) S (enters_of Try.func7 (by decide) rfl) rfl rfl rfl (wakes_any _) ?_
    rintro _ w2 ⟨rfl, hK⟩; refine ⟨_, rfl, ?_⟩; clear S a; intro a S; replace M := M.grow hK
    refine st_y S rfl rfl rfl (y_assign S rfl) ?_; clear S a; intro a S
    refine wpList_nil ?_
    replace S := S.sub [(0, _), (1, _), (2, _), (18, _), (4, _)] rfl
    refine then_normal ?_
    refine wp_ret ?_
    refine then_ret ?_
    refine end_one S rfl (res_tmp rfl) ?_
    exact ⟨rfl, M.below⟩
  · clear S; intro h14 S
    first | replace h14 := nrmA h14 | replace h14 := nrmB h14 | skip
    first | replace h14 := nrm1 h14 | replace h14 := nrm2 h14 | replace h14 := nrm3 h14 | replace h14 := nrm4 h14 | replace h14 := nrm5 h14 | replace h14 := nrm6 h14 | replace h14 := of_decide_eq_true h14 | replace h14 := of_decide_eq_false h14 | skip
    refine st_y S rfl rfl rfl (y_loadAgg (cs := [_, _, _, _, _, _, _]) S (by kernel_rfl) rfl rfl (M.cellsAt (k := 7) 0 rfl rfl)) ?_; clear S a; intro a S
    refine st_call (xs := [(Operand.tmp 15)]) S (enters_of Try.func6 (by decide) rfl) rfl rfl rfl (mayK_any k0 _) ?_
    rintro _ w3 ⟨rfl, hK⟩; refine ⟨_, rfl, ?_⟩; clear S a; intro a S; replace M := M.grow hK
    refine st_y S rfl rfl rfl (y_not S rfl) ?_; clear S a; intro a S
    refine st_y S rfl rfl rfl (y_pickF S rfl rfl) ?_; clear S a; intro a S
    refine wpList_nil ?_
    replace S := S.sub [(0, _), (1, _), (2, _), (4, _), (18, _)] rfl
    refine then_normal ?_
    refine st_split (t := 18) S rfl ?_ ?_
    · clear S; intro h18 S
      first | replace h18 := nrmA h18 | replace h18 := nrmB h18 | skip
      first | replace h18 := nrm1 h18 | replace h18 := nrm2 h18 | replace h18 := nrm3 h18 | replace h18 := nrm4 h18 | replace h18 := nrm5 h18 | replace h18 := nrm6 h18 | replace h18 := of_decide_eq_true h18 | replace h18 := of_decide_eq_false h18 | skip
      refine st_condT S rfl ?_
      refine wp_seq ?_
      -- region 2 law.go:41
      refine wp_region_lit ?_
      refine st_call (xs := []) S (enters_of Try.func7 (by decide) rfl) rfl rfl rfl (wakes_any _) ?_
      rintro _ w4 ⟨rfl, hK⟩; refine ⟨_, rfl, ?_⟩; clear S a; intro a S; replace M := M.grow hK
      refine st_y S rfl rfl rfl (y_assign S rfl) ?_; clear S a; intro a S
      refine wpList_nil ?_
      replace S := S.sub [(0, _), (1, _), (2, _), (18, _), (4, _)] rfl
      refine then_normal ?_
      refine wp_ret ?_
      refine then_ret ?_
      refine end_one S rfl (res_tmp rfl) ?_
      exact ⟨rfl, M.below⟩
    · clear S; intro h18 S
      first | replace h18 := nrmA h18 | replace h18 := nrmB h18 | skip
      first | replace h18 := nrm1 h18 | replace h18 := nrm2 h18 | replace h18 := nrm3 h18 | replace h18 := nrm4 h18 | replace h18 := nrm5 h18 | replace h18 := nrm6 h18 | replace h18 := of_decide_eq_true h18 | replace h18 := of_decide_eq_false h18 | skip
      refine st_condF S rfl ?_
      refine wp_skip ?_
      refine then_normal ?_
      refine wp_seq ?_
      refine wp_seq ?_
      -- region 3 law.go:43
      refine wp_region_lit ?_
      refine st_y S rfl rfl rfl (y_move S rfl) ?_; clear S a; intro a S
      refine st_y S rfl rfl rfl (y_lenR (E := 36) S rfl ((M.ms hv).1) (by kernel_rfl)) ?_; clear S a; intro a S
      refine st_y S rfl rfl rfl (y_move S rfl) ?_; clear S a; intro a S
      refine wpList_nil ?_
      replace S := S.sub [(0, _), (1, _), (2, _), (4, _), (18, _), (20, _), (21, _), (22, _)] rfl
      refine then_normal ?_
      refine wp_block ?_
      refine wp_loop_g (fun q a w' => ∃ (j : Nat) (k : Kn), j ≤ ms.length ∧ q = ms.length - j ∧ Sees 130 a [(2, .pointer (some ⟨bK, 0, none⟩)), (20, v), (21, .int .i64 (ms.length : Int)), (22, .int .i64 (j : Int))] ∧ Mem w w' [.blk bK k.cells 24]) (ms.length) ?_ ?_
      · skip
        exact ⟨0, k0, Nat.zero_le _, rfl, S.sub _ rfl, M⟩
      · clear S M a; intro m a wl
        rintro ⟨j, k, hj, rfl, S, M⟩
        refine wp_seq ?_
        -- region 4 law.go:43
        refine wp_region_lit ?_
        refine st_y S rfl rfl rfl (y_int S rfl rfl rfl) ?_; clear S a; intro a S
        refine wpList_nil ?_
        replace S := S.sub [(2, _), (20, _), (21, _), (22, _), (23, _)] rfl
        refine then_normal ?_
        refine wp_seq ?_
        refine st_split (t := 23) S rfl ?_ ?_
        · clear S; intro h23 S
          first | replace h23 := nrmA h23 | replace h23 := nrmB h23 | skip
          first | replace h23 := nrm1 h23 | replace h23 := nrm2 h23 | replace h23 := nrm3 h23 | replace h23 := nrm4 h23 | replace h23 := nrm5 h23 | replace h23 := nrm6 h23 | replace h23 := of_decide_eq_true h23 | replace h23 := of_decide_eq_false h23 | skip
          refine st_condT S rfl ?_
          refine wp_skip ?_
          refine then_normal ?_
          refine wp_seq ?_
          refine wp_block ?_
          refine wp_seq ?_
          -- region 5 law.go:43
          refine wp_region_lit ?_
          obtain ⟨⟨m, x⟩, hq⟩ : ∃ q, ms[j]? = some q := ⟨_, List.getElem?_eq_getElem (by omega)⟩
          obtain ⟨lv, hrow, hlv⟩ := hv.2 j _ hq
          obtain ⟨ad, cp, hE, -, -⟩ := hlv.form
          subst hE
          refine st_y S rfl rfl rfl (y_indexR (e := 36) (sz := 24) S (by kernel_rfl) rfl ((M.ms hv).1) rfl (by first | omega | (simp; done) | (simp; omega))) ?_; clear S a; intro a S
          try simp only [Int.toNat_natCast, Nat.mul_one, Nat.zero_add] at S
          refine st_y S rfl rfl rfl (y_loadAgg S (by kernel_rfl) rfl rfl ((M.ms hv).1.at_.row (i := j) hrow rfl)) ?_; clear S a; intro a S
          refine st_alloc S M rfl rfl #[.int .i8 0, .int .i64 0, .int .i64 0, .int .i64 0, .int .i64 0, .int .i64 0, .int .i64 0, .int .i64 0, .int .i64 0, .int .i8 0, .int .i64 0, .int .u8 0, .int .u8 0, .int .u8 0, .int .u8 0, .int .u8 0, .int .u8 0, .int .u8 0, .int .u8 0, .int .i64 0, .bool false, .int .i64 0, .int .i64 0, .slice none 0 0] (by kernel_rfl) ?_; clear S M a; intro a w5 bG S M hB
          refine st_store (sz := 24) (us := [_, _, _, _, _, _, _, _, _, _, _, _, _, _, _, _, _, _, _, _, _, _, _, _]) S M 0 rfl (by kernel_rfl) rfl rfl rfl rfl rfl rfl (by first | decide | (simp; done) | (simp; omega)) ?_; clear M; intro w6 M
          simp only [putL, List.set_cons_zero, List.set_cons_succ, Nat.reduceAdd] at M
          refine wpList_nil ?_
          replace S := S.sub [(2, _), (20, _), (21, _), (22, _), (23, _), (6, _)] rfl
          refine then_normal ?_
          refine wp_seq ?_
          refine wp_seq ?_
          -- region 6 law.go:44
          refine wp_region_lit ?_
          refine st_y S rfl rfl rfl (y_loadAgg (cs := [_, _, _, _, _, _, _, _, _, _, _, _, _, _, _, _, _, _, _, _, _, _, _, _]) S (by kernel_rfl) rfl rfl (M.cellsAt (k := 24) 0 rfl rfl)) ?_; clear S a; intro a S
          refine st_call (xs := [(Operand.tmp 26)]) S (enters_of Try.func8 (by decide) rfl) rfl rfl rfl (great15_any m _ _ _ _) ?_
          rintro _ w7 ⟨rfl, hK⟩; refine ⟨_, rfl, ?_⟩; clear S a; intro a S; replace M := M.grow hK
          refine wpList_nil ?_
          replace S := S.sub [(2, _), (20, _), (21, _), (22, _), (23, _), (6, _), (27, _)] rfl
          refine then_normal ?_
          refine st_split (t := 27) S rfl ?_ ?_
          · clear S; intro h27 S
            first | replace h27 := nrmA h27 | replace h27 := nrmB h27 | skip
            first | replace h27 := nrm1 h27 | replace h27 := nrm2 h27 | replace h27 := nrm3 h27 | replace h27 := nrm4 h27 | replace h27 := nrm5 h27 | replace h27 := nrm6 h27 | replace h27 := of_decide_eq_true h27 | replace h27 := of_decide_eq_false h27 | skip
            refine st_condT S rfl ?_
            refine wp_seq ?_
            -- region 7 law.go:45
            refine wp_region_lit ?_
            refine st_call (xs := []) S (enters_of Try.func7 (by decide) rfl) rfl rfl rfl (wakes_any _) ?_
            rintro _ w8 ⟨rfl, hK⟩; refine ⟨_, rfl, ?_⟩; clear S a; intro a S; replace M := M.grow hK
            refine st_y S rfl rfl rfl (y_assign S rfl) ?_; clear S a; intro a S
            refine wpList_nil ?_
            replace S := S.sub [(2, _), (20, _), (21, _), (22, _), (23, _), (6, _), (27, _), (4, _)] rfl
            refine then_normal ?_
            refine wp_ret ?_
            refine then_ret ?_
            refine block_ret ?_
            refine then_ret ?_
            refine then_ret ?_
            refine block_ret ?_
            refine then_ret ?_
            refine end_one S rfl (res_tmp rfl) ?_
            exact ⟨rfl, M.below⟩
          · clear S; intro h27 S
            first | replace h27 := nrmA h27 | replace h27 := nrmB h27 | skip
            first | replace h27 := nrm1 h27 | replace h27 := nrm2 h27 | replace h27 := nrm3 h27 | replace h27 := nrm4 h27 | replace h27 := nrm5 h27 | replace h27 := nrm6 h27 | replace h27 := of_decide_eq_true h27 | replace h27 := of_decide_eq_false h27 | skip
            refine st_condF S rfl ?_
            refine wp_skip ?_
            refine then_normal ?_
            refine wp_seq ?_
            -- region 8 law.go:47
            refine wp_region_lit ?_
            refine st_y S rfl rfl rfl (y_loadAgg (cs := [_, _, _, _, _, _, _]) S (by kernel_rfl) rfl rfl (M.cellsAt (k := 7) 1 rfl rfl)) ?_; clear S a; intro a S
            refine st_y S rfl rfl rfl (y_loadAgg (cs := [_, _, _, _, _, _, _, _, _, _, _, _, _, _, _, _, _, _, _, _, _, _, _, _]) S (by kernel_rfl) rfl rfl (M.cellsAt (k := 24) 0 rfl rfl)) ?_; clear S a; intro a S
            refine st_call (xs := [(Operand.tmp 30), (Operand.tmp 31)]) S (enters_of Try.func9 (by decide) rfl) rfl rfl rfl (hear_any k m ad x.length cp x _ (M.argW hlv)) ?_
            rintro _ w9 ⟨rfl, hK⟩; refine ⟨_, rfl, ?_⟩; clear S a; intro a S; replace M := M.grow hK
            obtain ⟨q, hqq⟩ : ∃ q, hearK k m x = q := ⟨_, rfl⟩
            rw [hqq] at S
            obtain ⟨o, how, e⟩ := q
            refine st_y S rfl rfl rfl (y_move S rfl) ?_; clear S a; intro a S
            refine st_y S rfl rfl rfl (y_extract S rfl rfl) ?_; clear S a; intro a S
            refine st_y S rfl rfl rfl (y_extract S rfl rfl) ?_; clear S a; intro a S
            refine st_y S rfl rfl rfl (y_extract S rfl rfl) ?_; clear S a; intro a S
            refine st_alloc S M rfl rfl #[.int .i64 0, .int .i64 0, .int .i64 0, .int .i64 0, .int .i64 0, .int .i64 0, .int .i64 0] (by kernel_rfl) ?_; clear S M a; intro a w10 bO S M hB
            refine st_store (sz := 7) (us := [_, _, _, _, _, _, _]) S M 0 rfl (by kernel_rfl) rfl rfl rfl rfl rfl rfl (by first | decide | (simp; done) | (simp; omega)) ?_; clear M; intro w11 M
            simp only [putL, List.set_cons_zero, List.set_cons_succ, Nat.reduceAdd] at M
            refine st_y S rfl rfl rfl (y_assign S rfl) ?_; clear S a; intro a S
            refine st_y S rfl rfl rfl (y_assign S rfl) ?_; clear S a; intro a S
            refine wpList_nil ?_
            replace S := S.sub [(2, _), (20, _), (21, _), (22, _), (23, _), (6, _), (27, _), (7, _), (8, _), (9, _)] rfl
            refine then_normal ?_
            refine wp_seq ?_
            refine wp_seq ?_
            -- region 9 law.go:48
            refine wp_region_lit ?_
            refine st_y S rfl rfl rfl (y_move S rfl) ?_; clear S a; intro a S
            refine st_y S rfl rfl rfl (y_int S rfl rfl rfl) ?_; clear S a; intro a S
            refine wpList_nil ?_
            replace S := S.sub [(2, _), (20, _), (21, _), (22, _), (23, _), (6, _), (27, _), (7, _), (8, _), (9, _), (37, _)] rfl
            refine then_normal ?_
            refine st_split (t := 37) S rfl ?_ ?_
            · clear S; intro h37 S
              first | replace h37 := nrmA h37 | replace h37 := nrmB h37 | skip
              first | replace h37 := nrm1 h37 | replace h37 := nrm2 h37 | replace h37 := nrm3 h37 | replace h37 := nrm4 h37 | replace h37 := nrm5 h37 | replace h37 := nrm6 h37 | replace h37 := of_decide_eq_true h37 | replace h37 := of_decide_eq_false h37 | skip
              refine st_condT S rfl ?_
              refine wp_exit ?_
              refine then_exit ?_
              refine block_hit ?_
              refine then_normal ?_
              -- region 19 law.go:43
              refine wp_region_lit ?_
              (first | refine st_y S rfl rfl rfl (y_addN S rfl rfl (by omega)) ?_ | refine st_y S rfl rfl rfl (y_int S rfl rfl rfl) ?_); clear S a; intro a S
              refine st_y S rfl rfl rfl (y_move S rfl) ?_; clear S a; intro a S
              refine wpList_nil ?_
              replace S := S.sub [(2, _), (20, _), (21, _), (23, _), (6, _), (27, _), (7, _), (8, _), (9, _), (37, _), (22, _)] rfl
              refine then_normal ?_
              replace M := M.front 2 rfl
              simp only [List.eraseIdx_cons_succ, List.eraseIdx_cons_zero] at M
              first
                | exact ⟨ms.length - (j + 1), by omega, j + 1, k, by omega, rfl, S.sub _ rfl, (M.drop 1).drop 1⟩
                | exact ⟨ms.length - (j + 1), by omega, j + 1, o, by omega, rfl, S.sub _ rfl, (M.drop 1).drop 1⟩
            · clear S; intro h37 S
              first | replace h37 := nrmA h37 | replace h37 := nrmB h37 | skip
              first | replace h37 := nrm1 h37 | replace h37 := nrm2 h37 | replace h37 := nrm3 h37 | replace h37 := nrm4 h37 | replace h37 := nrm5 h37 | replace h37 := nrm6 h37 | replace h37 := of_decide_eq_true h37 | replace h37 := of_decide_eq_false h37 | skip
              refine st_condF S rfl ?_
              refine wp_skip ?_
              refine then_normal ?_
              refine wp_seq ?_
              refine wp_seq ?_
              -- region 10 law.go:51
              have he : e = 0 := by omega
              subst he
              obtain ⟨F, hF, hF5, R1, R2, R3, R4, R5, R6⟩ := hear_rises hqq
              obtain ⟨mk, fr, mt, mi, my, mn, mnn, mop, mb, mv, me, mye, mg, mtk⟩ := m
              simp only at hF R2 R6
              subst hF
              refine wp_region_lit ?_
              refine st_y S rfl rfl rfl (y_move S rfl) ?_; clear S a; intro a S
              refine wpList_nil ?_
              replace S := S.sub [(2, _), (20, _), (21, _), (22, _), (23, _), (6, _), (27, _), (7, _), (8, _), (9, _), (37, _), (38, _)] rfl
              refine then_normal ?_
              refine wp_block ?_
              refine wp_loop_g (fun q a w' => ∃ (i : Nat), i ≤ 5 ∧ q = 5 - i ∧ Sees 130 a [(2, .pointer (some ⟨bK, 0, none⟩)), (6, .pointer (some ⟨bG, 0, none⟩)), (7, .pointer (some ⟨bO, 0, none⟩)), (8, .int .i8 how), (20, v), (21, .int .i64 (ms.length : Int)), (22, .int .i64 (j : Int)), (38, .int .i64 (i : Int))] ∧ Mem w w' [.blk bO o.cells 24, .blk bG (Msg.cells ⟨mk, (F : Int), mt, mi, my, mn, mnn, mop, mb, mv, me, mye, mg, mtk⟩ (.slice ad x.length cp)) 36, .blk bK k.cells 24]) (5) ?_ ?_
              · skip
                exact ⟨0, by omega, rfl, S.sub _ rfl, M⟩
              · clear S M a; intro m a wl
                rintro ⟨i, hi, rfl, S, M⟩
                refine wp_seq ?_
                -- region 11 law.go:51
                refine wp_region_lit ?_
                refine st_y S rfl rfl rfl (y_int S rfl rfl rfl) ?_; clear S a; intro a S
                refine wpList_nil ?_
                replace S := S.sub [(2, _), (6, _), (7, _), (8, _), (20, _), (21, _), (22, _), (38, _), (39, _)] rfl
                refine then_normal ?_
                refine wp_seq ?_
                refine st_split (t := 39) S rfl ?_ ?_
                · clear S; intro h39 S
                  first | replace h39 := nrmA h39 | replace h39 := nrmB h39 | skip
                  first | replace h39 := nrm1 h39 | replace h39 := nrm2 h39 | replace h39 := nrm3 h39 | replace h39 := nrm4 h39 | replace h39 := nrm5 h39 | replace h39 := nrm6 h39 | replace h39 := of_decide_eq_true h39 | replace h39 := of_decide_eq_false h39 | skip
                  refine st_condT S rfl ?_
                  refine wp_skip ?_
                  refine then_normal ?_
                  refine wp_seq ?_
                  refine wp_block ?_
                  refine wp_seq ?_
                  -- region 12 law.go:51
                  refine wp_region_lit ?_
                  refine st_y S rfl rfl rfl (y_move S rfl) ?_; clear S a; intro a S
                  refine st_y S rfl rfl rfl (y_assign S rfl) ?_; clear S a; intro a S
                  refine wpList_nil ?_
                  replace S := S.sub [(2, _), (6, _), (7, _), (8, _), (20, _), (21, _), (22, _), (38, _), (39, _), (10, _)] rfl
                  refine then_normal ?_
                  refine wp_seq ?_
                  -- region 13 law.go:52
                  have r1 := R1 i (by omega)
                  have r2 := R2 i (by omega)
                  refine wp_quiet M (by kernel_rfl) (by kernel_rfl) ?_
                  refine qt_y S rfl rfl rfl (fun w M => y_move S rfl) ?_; clear S a; intro a S
                  refine qt_y S rfl rfl rfl (fun w M => y_fieldAddr (k := 2) S (by kernel_rfl) rfl) ?_; clear S a; intro a S
                  refine qt_y S rfl rfl rfl (fun w M => y_indexA (m := 5) (sz := 1) S (by kernel_rfl) rfl rfl (by first | omega | (simp; done) | (simp; omega))) ?_; clear S a; intro a S
                  try simp only [Int.toNat_natCast, Nat.mul_one, Nat.zero_add] at S
                  refine qt_y S rfl rfl rfl (fun w M => y_load S (by kernel_rfl) rfl (M.cell 0 rfl (kn_get (k := o) (by omega)))) ?_; clear S a; intro a S
                  refine qt_y S rfl rfl rfl (fun w M => y_move S rfl) ?_; clear S a; intro a S
                  refine qt_y S rfl rfl rfl (fun w M => y_fieldAddr (k := 2) S (by kernel_rfl) rfl) ?_; clear S a; intro a S
                  refine qt_y S rfl rfl rfl (fun w M => y_indexA (m := 5) (sz := 1) S (by kernel_rfl) rfl rfl (by first | omega | (simp; done) | (simp; omega))) ?_; clear S a; intro a S
                  try simp only [Int.toNat_natCast, Nat.mul_one, Nat.zero_add] at S
                  refine qt_y S rfl rfl rfl (fun w M => y_load S (by kernel_rfl) rfl (M.cell 2 rfl (kn_get (k := k) (by omega)))) ?_; clear S a; intro a S
                  refine qt_y S rfl rfl rfl (fun w M => y_int S rfl rfl rfl) ?_; clear S a; intro a S
                  refine qt_y S rfl rfl rfl (fun w M => y_move S rfl) ?_; clear S a; intro a S
                  refine st_split (t := 50) S rfl ?_ ?_
                  · clear S; intro h50 S
                    first | replace h50 := nrmA h50 | replace h50 := nrmB h50 | skip
                    first | replace h50 := nrm1 h50 | replace h50 := nrm2 h50 | replace h50 := nrm3 h50 | replace h50 := nrm4 h50 | replace h50 := nrm5 h50 | replace h50 := nrm6 h50 | replace h50 := of_decide_eq_true h50 | replace h50 := of_decide_eq_false h50 | skip
                    omega
                  · clear S; intro h50 S
                    first | replace h50 := nrmA h50 | replace h50 := nrmB h50 | skip
                    first | replace h50 := nrm1 h50 | replace h50 := nrm2 h50 | replace h50 := nrm3 h50 | replace h50 := nrm4 h50 | replace h50 := nrm5 h50 | replace h50 := nrm6 h50 | replace h50 := of_decide_eq_true h50 | replace h50 := of_decide_eq_false h50 | skip
                    refine qt_y S rfl rfl rfl (fun w M => y_move S rfl) ?_; clear S a; intro a S
                    refine qt_y S rfl rfl rfl (fun w M => y_fieldAddr (k := 2) S (by kernel_rfl) rfl) ?_; clear S a; intro a S
                    refine qt_y S rfl rfl rfl (fun w M => y_indexA (m := 5) (sz := 1) S (by kernel_rfl) rfl rfl (by first | omega | (simp; done) | (simp; omega))) ?_; clear S a; intro a S
                    try simp only [Int.toNat_natCast, Nat.mul_one, Nat.zero_add] at S
                    refine qt_y S rfl rfl rfl (fun w M => y_load S (by kernel_rfl) rfl (M.cell 0 rfl (kn_get (k := o) (by omega)))) ?_; clear S a; intro a S
                    refine qt_y S rfl rfl rfl (fun w M => y_move S rfl) ?_; clear S a; intro a S
                    refine qt_y S rfl rfl rfl (fun w M => y_fieldAddr (k := 2) S (by kernel_rfl) rfl) ?_; clear S a; intro a S
                    refine qt_y S rfl rfl rfl (fun w M => y_indexA (m := 5) (sz := 1) S (by kernel_rfl) rfl rfl (by first | omega | (simp; done) | (simp; omega))) ?_; clear S a; intro a S
                    try simp only [Int.toNat_natCast, Nat.mul_one, Nat.zero_add] at S
                    refine qt_y S rfl rfl rfl (fun w M => y_load S (by kernel_rfl) rfl (M.cell 2 rfl (kn_get (k := k) (by omega)))) ?_; clear S a; intro a S
                    refine qt_y S rfl rfl rfl (fun w M => y_int S rfl rfl rfl) ?_; clear S a; intro a S
                    refine qt_y S rfl rfl rfl (fun w M => y_move S rfl) ?_; clear S a; intro a S
                    refine st_split (t := 60) S rfl ?_ ?_
                    · clear S; intro h60 S
                      first | replace h60 := nrmA h60 | replace h60 := nrmB h60 | skip
                      first | replace h60 := nrm1 h60 | replace h60 := nrm2 h60 | replace h60 := nrm3 h60 | replace h60 := nrm4 h60 | replace h60 := nrm5 h60 | replace h60 := nrm6 h60 | replace h60 := of_decide_eq_true h60 | replace h60 := of_decide_eq_false h60 | skip
                      refine qt_y S rfl rfl rfl (fun w M => y_move S rfl) ?_; clear S a; intro a S
                      refine qt_y S rfl rfl rfl (fun w M => y_fieldAddr (k := 1) S (by kernel_rfl) rfl) ?_; clear S a; intro a S
                      refine qt_y S rfl rfl rfl (fun w M => y_load S (by kernel_rfl) rfl (M.cell 1 rfl rfl)) ?_; clear S a; intro a S
                      refine qt_y S rfl rfl rfl (fun w M => y_int S rfl rfl rfl) ?_; clear S a; intro a S
                      refine qt_y S rfl rfl rfl (fun w M => y_move S rfl) ?_; clear S a; intro a S
                      refine st_split (t := 65) S rfl ?_ ?_
                      · clear S; intro h65 S
                        first | replace h65 := nrmA h65 | replace h65 := nrmB h65 | skip
                        first | replace h65 := nrm1 h65 | replace h65 := nrm2 h65 | replace h65 := nrm3 h65 | replace h65 := nrm4 h65 | replace h65 := nrm5 h65 | replace h65 := nrm6 h65 | replace h65 := of_decide_eq_true h65 | replace h65 := of_decide_eq_false h65 | skip
                        exfalso; have := r2 h60; clear S M; (try simp only at *); omega
                      · clear S; intro h65 S
                        first | replace h65 := nrmA h65 | replace h65 := nrmB h65 | skip
                        first | replace h65 := nrm1 h65 | replace h65 := nrm2 h65 | replace h65 := nrm3 h65 | replace h65 := nrm4 h65 | replace h65 := nrm5 h65 | replace h65 := nrm6 h65 | replace h65 := of_decide_eq_true h65 | replace h65 := of_decide_eq_false h65 | skip
                        refine qt_y S rfl rfl rfl (fun w M => y_move S rfl) ?_; clear S a; intro a S
                        refine qt_y S rfl rfl rfl (fun w M => y_fieldAddr (k := 2) S (by kernel_rfl) rfl) ?_; clear S a; intro a S
                        refine qt_y S rfl rfl rfl (fun w M => y_indexA (m := 5) (sz := 1) S (by kernel_rfl) rfl rfl (by first | omega | (simp; done) | (simp; omega))) ?_; clear S a; intro a S
                        try simp only [Int.toNat_natCast, Nat.mul_one, Nat.zero_add] at S
                        refine qt_y S rfl rfl rfl (fun w M => y_load S (by kernel_rfl) rfl (M.cell 0 rfl (kn_get (k := o) (by omega)))) ?_; clear S a; intro a S
                        refine qt_y S rfl rfl rfl (fun w M => y_fieldAddr (k := 3) S (by kernel_rfl) rfl) ?_; clear S a; intro a S
                        refine qt_y S rfl rfl rfl (fun w M => y_load S (by kernel_rfl) rfl (M.cell 1 rfl rfl)) ?_; clear S a; intro a S
                        refine qt_y S rfl rfl rfl (fun w M => y_int S rfl rfl rfl) ?_; clear S a; intro a S
                        refine qt_y S rfl rfl rfl (fun w M => y_pickF S rfl rfl) ?_; clear S a; intro a S
                        refine qt_y S rfl rfl rfl (fun w M => y_move S rfl) ?_; clear S a; intro a S
                        refine st_split (t := 74) S rfl ?_ ?_
                        · clear S; intro h74 S
                          first | replace h74 := nrmA h74 | replace h74 := nrmB h74 | skip
                          first | replace h74 := nrm1 h74 | replace h74 := nrm2 h74 | replace h74 := nrm3 h74 | replace h74 := nrm4 h74 | replace h74 := nrm5 h74 | replace h74 := nrm6 h74 | replace h74 := of_decide_eq_true h74 | replace h74 := of_decide_eq_false h74 | skip
                          exfalso; have := r2 h60; clear S M; (try simp only at *); omega
                        · clear S; intro h74 S
                          first | replace h74 := nrmA h74 | replace h74 := nrmB h74 | skip
                          first | replace h74 := nrm1 h74 | replace h74 := nrm2 h74 | replace h74 := nrm3 h74 | replace h74 := nrm4 h74 | replace h74 := nrm5 h74 | replace h74 := nrm6 h74 | replace h74 := of_decide_eq_true h74 | replace h74 := of_decide_eq_false h74 | skip
                          refine qt_y S rfl rfl rfl (fun w M => y_move S rfl) ?_; clear S a; intro a S
                          refine qt_y S rfl rfl rfl (fun w M => y_int S rfl rfl rfl) ?_; clear S a; intro a S
                          refine qt_y S rfl rfl rfl (fun w M => y_pickF S rfl rfl) ?_; clear S a; intro a S
                          refine qt_y S rfl rfl rfl (fun w M => y_pickT S rfl rfl) ?_; clear S a; intro a S
                          refine qt_y S rfl rfl rfl (fun w M => y_pickF S rfl rfl) ?_; clear S a; intro a S
                          refine wpQuiet_nil ?_; clear M; intro w12 M
                          replace S := S.sub [(2, _), (6, _), (7, _), (8, _), (20, _), (21, _), (22, _), (38, _), (39, _), (10, _), (79, _)] rfl
                          refine then_normal ?_
                          refine st_split (t := 79) S rfl ?_ ?_
                          · clear S; intro h79 S
                            first | replace h79 := nrmA h79 | replace h79 := nrmB h79 | skip
                            first | replace h79 := nrm1 h79 | replace h79 := nrm2 h79 | replace h79 := nrm3 h79 | replace h79 := nrm4 h79 | replace h79 := nrm5 h79 | replace h79 := nrm6 h79 | replace h79 := of_decide_eq_true h79 | replace h79 := of_decide_eq_false h79 | skip
                            exfalso; have := r2 h60; clear S M; (try simp only at *); omega
                          · clear S; intro h79 S
                            first | replace h79 := nrmA h79 | replace h79 := nrmB h79 | skip
                            first | replace h79 := nrm1 h79 | replace h79 := nrm2 h79 | replace h79 := nrm3 h79 | replace h79 := nrm4 h79 | replace h79 := nrm5 h79 | replace h79 := nrm6 h79 | replace h79 := of_decide_eq_true h79 | replace h79 := of_decide_eq_false h79 | skip
                            refine st_condF S rfl ?_
                            refine wp_skip ?_
                            refine block_normal ?_
                            refine then_normal ?_
                            -- region 15 law.go:51
                            refine wp_region_lit ?_
                            (first | refine st_y S rfl rfl rfl (y_addN S rfl rfl (by omega)) ?_ | refine st_y S rfl rfl rfl (y_int S rfl rfl rfl) ?_); clear S a; intro a S
                            refine st_y S rfl rfl rfl (y_move S rfl) ?_; clear S a; intro a S
                            refine wpList_nil ?_
                            replace S := S.sub [(2, _), (6, _), (7, _), (8, _), (20, _), (21, _), (22, _), (39, _), (10, _), (79, _), (38, _)] rfl
                            refine then_normal ?_
                            exact ⟨5 - (i + 1), by omega, i + 1, by omega, rfl, S.sub _ rfl, M⟩
                    · clear S; intro h60 S
                      first | replace h60 := nrmA h60 | replace h60 := nrmB h60 | skip
                      first | replace h60 := nrm1 h60 | replace h60 := nrm2 h60 | replace h60 := nrm3 h60 | replace h60 := nrm4 h60 | replace h60 := nrm5 h60 | replace h60 := nrm6 h60 | replace h60 := of_decide_eq_true h60 | replace h60 := of_decide_eq_false h60 | skip
                      refine qt_skip 4 S rfl ?_; clear S a; intro a S
                      refine qt_no S rfl rfl rfl ?_; clear S a; intro a S
                      refine qt_skip 8 S rfl ?_; clear S a; intro a S
                      refine qt_no S rfl rfl rfl ?_; clear S a; intro a S
                      refine qt_skip 3 S rfl ?_; clear S a; intro a S
                      refine qt_y S rfl rfl rfl (fun w M => y_pickF S rfl rfl) ?_; clear S a; intro a S
                      refine qt_y S rfl rfl rfl (fun w M => y_pickF S rfl rfl) ?_; clear S a; intro a S
                      refine wpQuiet_nil ?_; clear M; intro w13 M
                      replace S := S.sub [(2, _), (6, _), (7, _), (8, _), (20, _), (21, _), (22, _), (38, _), (39, _), (10, _), (79, _)] rfl
                      refine then_normal ?_
                      refine st_condF S rfl ?_
                      refine wp_skip ?_
                      refine block_normal ?_
                      refine then_normal ?_
                      -- region 15 law.go:51
                      refine wp_region_lit ?_
                      (first | refine st_y S rfl rfl rfl (y_addN S rfl rfl (by omega)) ?_ | refine st_y S rfl rfl rfl (y_int S rfl rfl rfl) ?_); clear S a; intro a S
                      refine st_y S rfl rfl rfl (y_move S rfl) ?_; clear S a; intro a S
                      refine wpList_nil ?_
                      replace S := S.sub [(2, _), (6, _), (7, _), (8, _), (20, _), (21, _), (22, _), (39, _), (10, _), (79, _), (38, _)] rfl
                      refine then_normal ?_
                      exact ⟨5 - (i + 1), by omega, i + 1, by omega, rfl, S.sub _ rfl, M⟩
                · clear S; intro h39 S
                  first | replace h39 := nrmA h39 | replace h39 := nrmB h39 | skip
                  first | replace h39 := nrm1 h39 | replace h39 := nrm2 h39 | replace h39 := nrm3 h39 | replace h39 := nrm4 h39 | replace h39 := nrm5 h39 | replace h39 := nrm6 h39 | replace h39 := of_decide_eq_true h39 | replace h39 := of_decide_eq_false h39 | skip
                  refine st_condF S rfl ?_
                  refine wp_exit ?_
                  refine then_exit ?_
                  refine then_exit ?_
                  refine block_hit ?_
                  refine then_normal ?_
                  refine wp_seq ?_
                  refine wp_seq ?_
                  -- region 16 law.go:56
                  refine wp_quiet M (by kernel_rfl) (by kernel_rfl) ?_
                  refine qt_y S rfl rfl rfl (fun w M => y_fieldAddr (k := 1) S (by kernel_rfl) rfl) ?_; clear S a; intro a S
                  refine qt_y S rfl rfl rfl (fun w M => y_load S (by kernel_rfl) rfl (M.cell 0 rfl rfl)) ?_; clear S a; intro a S
                  refine qt_y S rfl rfl rfl (fun w M => y_fieldAddr (k := 1) S (by kernel_rfl) rfl) ?_; clear S a; intro a S
                  refine qt_y S rfl rfl rfl (fun w M => y_load S (by kernel_rfl) rfl (M.cell 2 rfl rfl)) ?_; clear S a; intro a S
                  refine qt_y S rfl rfl rfl (fun w M => y_int S rfl rfl rfl) ?_; clear S a; intro a S
                  refine qt_y S rfl rfl rfl (fun w M => y_move S rfl) ?_; clear S a; intro a S
                  refine st_split (t := 86) S rfl ?_ ?_
                  · clear S; intro h86 S
                    first | replace h86 := nrmA h86 | replace h86 := nrmB h86 | skip
                    first | replace h86 := nrm1 h86 | replace h86 := nrm2 h86 | replace h86 := nrm3 h86 | replace h86 := nrm4 h86 | replace h86 := nrm5 h86 | replace h86 := nrm6 h86 | replace h86 := of_decide_eq_true h86 | replace h86 := of_decide_eq_false h86 | skip
                    omega
                  · clear S; intro h86 S
                    first | replace h86 := nrmA h86 | replace h86 := nrmB h86 | skip
                    first | replace h86 := nrm1 h86 | replace h86 := nrm2 h86 | replace h86 := nrm3 h86 | replace h86 := nrm4 h86 | replace h86 := nrm5 h86 | replace h86 := nrm6 h86 | replace h86 := of_decide_eq_true h86 | replace h86 := of_decide_eq_false h86 | skip
                    refine qt_y S rfl rfl rfl (fun w M => y_fieldAddr (k := 0) S (by kernel_rfl) rfl) ?_; clear S a; intro a S
                    refine qt_y S rfl rfl rfl (fun w M => y_load S (by kernel_rfl) rfl (M.cell 0 rfl rfl)) ?_; clear S a; intro a S
                    refine qt_y S rfl rfl rfl (fun w M => y_fieldAddr (k := 0) S (by kernel_rfl) rfl) ?_; clear S a; intro a S
                    refine qt_y S rfl rfl rfl (fun w M => y_load S (by kernel_rfl) rfl (M.cell 2 rfl rfl)) ?_; clear S a; intro a S
                    refine qt_y S rfl rfl rfl (fun w M => y_int S rfl rfl rfl) ?_; clear S a; intro a S
                    refine qt_y S rfl rfl rfl (fun w M => y_pickF S rfl rfl) ?_; clear S a; intro a S
                    refine qt_y S rfl rfl rfl (fun w M => y_move S rfl) ?_; clear S a; intro a S
                    refine st_split (t := 93) S rfl ?_ ?_
                    · clear S; intro h93 S
                      first | replace h93 := nrmA h93 | replace h93 := nrmB h93 | skip
                      first | replace h93 := nrm1 h93 | replace h93 := nrm2 h93 | replace h93 := nrm3 h93 | replace h93 := nrm4 h93 | replace h93 := nrm5 h93 | replace h93 := nrm6 h93 | replace h93 := of_decide_eq_true h93 | replace h93 := of_decide_eq_false h93 | skip
                      omega
                    · clear S; intro h93 S
                      first | replace h93 := nrmA h93 | replace h93 := nrmB h93 | skip
                      first | replace h93 := nrm1 h93 | replace h93 := nrm2 h93 | replace h93 := nrm3 h93 | replace h93 := nrm4 h93 | replace h93 := nrm5 h93 | replace h93 := nrm6 h93 | replace h93 := of_decide_eq_true h93 | replace h93 := of_decide_eq_false h93 | skip
                      refine qt_y S rfl rfl rfl (fun w M => y_move S rfl) ?_; clear S a; intro a S
                      refine qt_y S rfl rfl rfl (fun w M => y_int S rfl rfl rfl) ?_; clear S a; intro a S
                      refine qt_y S rfl rfl rfl (fun w M => y_move S rfl) ?_; clear S a; intro a S
                      refine st_split (t := 96) S rfl ?_ ?_
                      · clear S; intro h96 S
                        first | replace h96 := nrmA h96 | replace h96 := nrmB h96 | skip
                        first | replace h96 := nrm1 h96 | replace h96 := nrm2 h96 | replace h96 := nrm3 h96 | replace h96 := nrm4 h96 | replace h96 := nrm5 h96 | replace h96 := nrm6 h96 | replace h96 := of_decide_eq_true h96 | replace h96 := of_decide_eq_false h96 | skip
                        refine qt_y S rfl rfl rfl (fun w M => y_loadAgg (cs := [_, _, _, _, _, _, _]) S (by kernel_rfl) rfl rfl (M.cellsAt (k := 7) 0 rfl rfl)) ?_; clear S a; intro a S
                        refine qt_y S rfl rfl rfl (fun w M => y_loadAgg (cs := [_, _, _, _, _, _, _]) S (by kernel_rfl) rfl rfl (M.cellsAt (k := 7) 2 rfl rfl)) ?_; clear S a; intro a S
                        refine qt_y S rfl rfl rfl (fun w M => y_neqG (by kernel_rfl) S rfl rfl (fun w => equalKn 9997 o k w)) ?_; clear S a; intro a S
                        refine qt_y S rfl rfl rfl (fun w M => y_pickT S rfl rfl) ?_; clear S a; intro a S
                        refine qt_y S rfl rfl rfl (fun w M => y_pickF S rfl rfl) ?_; clear S a; intro a S
                        refine qt_y S rfl rfl rfl (fun w M => y_move S rfl) ?_; clear S a; intro a S
                        refine st_split (t := 102) S rfl ?_ ?_
                        · clear S; intro h102 S
                          exfalso; rw [R5 h96, Kn.eqb_iff.2 rfl] at h102; simp at h102
                        · clear S; intro h102 S
                          refine qt_y S rfl rfl rfl (fun w M => y_move S rfl) ?_; clear S a; intro a S
                          refine qt_y S rfl rfl rfl (fun w M => y_int S rfl rfl rfl) ?_; clear S a; intro a S
                          refine qt_y S rfl rfl rfl (fun w M => y_fieldAddr (k := 1) S (by kernel_rfl) rfl) ?_; clear S a; intro a S
                          refine qt_y S rfl rfl rfl (fun w M => y_load S (by kernel_rfl) rfl (M.cell 1 rfl rfl)) ?_; clear S a; intro a S
                          refine qt_y S rfl rfl rfl (fun w M => y_fieldAddr (k := 2) S (by kernel_rfl) rfl) ?_; clear S a; intro a S
                          refine qt_y S rfl rfl rfl (fun w M => y_indexA (m := 5) (sz := 1) S (by kernel_rfl) rfl rfl (by first | omega | (simp; done) | (simp; omega))) ?_; clear S a; intro a S
                          try simp only [Int.toNat_natCast, Nat.mul_one, Nat.zero_add] at S
                          refine qt_y S rfl rfl rfl (fun w M => y_load S (by kernel_rfl) rfl (M.cell 2 rfl (kn_get (k := k) (by omega)))) ?_; clear S a; intro a S
                          refine qt_y S rfl rfl rfl (fun w M => y_int S rfl rfl rfl) ?_; clear S a; intro a S
                          refine qt_y S rfl rfl rfl (fun w M => y_move S rfl) ?_; clear S a; intro a S
                          refine st_split (t := 111) S rfl ?_ ?_
                          · clear S; intro h111 S
                            first | replace h111 := nrmA h111 | replace h111 := nrmB h111 | skip
                            first | replace h111 := nrm1 h111 | replace h111 := nrm2 h111 | replace h111 := nrm3 h111 | replace h111 := nrm4 h111 | replace h111 := nrm5 h111 | replace h111 := nrm6 h111 | replace h111 := of_decide_eq_true h111 | replace h111 := of_decide_eq_false h111 | skip
                            refine qt_y S rfl rfl rfl (fun w M => y_fieldAddr (k := 3) S (by kernel_rfl) rfl) ?_; clear S a; intro a S
                            refine qt_y S rfl rfl rfl (fun w M => y_load S (by kernel_rfl) rfl (M.cell 1 rfl rfl)) ?_; clear S a; intro a S
                            refine qt_y S rfl rfl rfl (fun w M => y_fieldAddr (k := 1) S (by kernel_rfl) rfl) ?_; clear S a; intro a S
                            refine qt_y S rfl rfl rfl (fun w M => y_load S (by kernel_rfl) rfl (M.cell 1 rfl rfl)) ?_; clear S a; intro a S
                            refine qt_y S rfl rfl rfl (fun w M => y_fieldAddr (k := 2) S (by kernel_rfl) rfl) ?_; clear S a; intro a S
                            refine qt_y S rfl rfl rfl (fun w M => y_indexA (m := 5) (sz := 1) S (by kernel_rfl) rfl rfl (by first | omega | (simp; done) | (simp; omega))) ?_; clear S a; intro a S
                            try simp only [Int.toNat_natCast, Nat.mul_one, Nat.zero_add] at S
                            refine qt_y S rfl rfl rfl (fun w M => y_load S (by kernel_rfl) rfl (M.cell 2 rfl (kn_get (k := k) (by omega)))) ?_; clear S a; intro a S
                            refine qt_y S rfl rfl rfl (fun w M => y_int S rfl rfl rfl) ?_; clear S a; intro a S
                            refine qt_y S rfl rfl rfl (fun w M => y_pickT S rfl rfl) ?_; clear S a; intro a S
                            refine qt_y S rfl rfl rfl (fun w M => y_move S rfl) ?_; clear S a; intro a S
                            refine st_split (t := 121) S rfl ?_ ?_
                            · clear S; intro h121 S
                              first | replace h121 := nrmA h121 | replace h121 := nrmB h121 | skip
                              first | replace h121 := nrm1 h121 | replace h121 := nrm2 h121 | replace h121 := nrm3 h121 | replace h121 := nrm4 h121 | replace h121 := nrm5 h121 | replace h121 := nrm6 h121 | replace h121 := of_decide_eq_true h121 | replace h121 := of_decide_eq_false h121 | skip
                              refine qt_y S rfl rfl rfl (fun w M => y_move S rfl) ?_; clear S a; intro a S
                              refine qt_y S rfl rfl rfl (fun w M => y_int S rfl rfl rfl) ?_; clear S a; intro a S
                              refine qt_y S rfl rfl rfl (fun w M => y_pickT S rfl rfl) ?_; clear S a; intro a S
                              refine qt_y S rfl rfl rfl (fun w M => y_neqBool (by kernel_rfl) S rfl rfl) ?_; clear S a; intro a S
                              refine qt_y S rfl rfl rfl (fun w M => y_pickF S rfl rfl) ?_; clear S a; intro a S
                              refine wpQuiet_nil ?_; clear M; intro w14 M
                              replace S := S.sub [(2, _), (6, _), (7, _), (8, _), (20, _), (21, _), (22, _), (38, _), (39, _), (126, _)] rfl
                              refine then_normal ?_
                              refine st_split (t := 126) S rfl ?_ ?_
                              · clear S; intro h126 S
                                exfalso; clear S M
                                have R6' : (how == 3) = decide ((0 < k.of F ∧ k.of F < mi) ∧ 0 < how) := by rw [Bool.eq_iff_iff]; simpa using R6
                                rw [R6'] at h126
                                (try simp only at h121); (try simp only at h111)
                                by_cases h0 : 0 < how
                                · by_cases h1 : 0 < k.of F
                                  · by_cases h2 : k.of F < mi
                                    · first | (simp [h0, h1, h2] at h126; done) | omega
                                    · first | (simp [h0, h1, h2] at h126; done) | omega
                                  · first | (simp [h0, h1] at h126; done) | omega
                                · first | (simp [h0] at h126; done) | omega
                              · clear S; intro h126 S
                                refine st_condF S rfl ?_
                                refine wp_skip ?_
                                refine then_normal ?_
                                -- region 18 law.go:59
                                refine wp_region_lit ?_
                                refine st_y S rfl rfl rfl (y_loadAgg (cs := [_, _, _, _, _, _, _]) S (by kernel_rfl) rfl rfl (M.cellsAt (k := 7) 0 rfl rfl)) ?_; clear S a; intro a S
                                refine st_store (sz := 7) (us := [_, _, _, _, _, _, _]) S M 2 rfl (by kernel_rfl) rfl rfl rfl rfl rfl rfl (by first | decide | (simp; done) | (simp; omega)) ?_; clear M; intro w15 M
                                simp only [putL, List.set_cons_zero, List.set_cons_succ, Nat.reduceAdd] at M
                                refine wpList_nil ?_
                                replace S := S.sub [(2, _), (6, _), (7, _), (8, _), (20, _), (21, _), (22, _), (38, _), (39, _), (126, _)] rfl
                                refine block_normal ?_
                                refine then_normal ?_
                                -- region 19 law.go:43
                                refine wp_region_lit ?_
                                (first | refine st_y S rfl rfl rfl (y_addN S rfl rfl (by omega)) ?_ | refine st_y S rfl rfl rfl (y_int S rfl rfl rfl) ?_); clear S a; intro a S
                                refine st_y S rfl rfl rfl (y_move S rfl) ?_; clear S a; intro a S
                                refine wpList_nil ?_
                                replace S := S.sub [(2, _), (6, _), (7, _), (8, _), (20, _), (21, _), (38, _), (39, _), (126, _), (22, _)] rfl
                                refine then_normal ?_
                                replace M := M.front 2 rfl
                                simp only [List.eraseIdx_cons_succ, List.eraseIdx_cons_zero] at M
                                first
                                  | exact ⟨ms.length - (j + 1), by omega, j + 1, k, by omega, rfl, S.sub _ rfl, (M.drop 1).drop 1⟩
                                  | exact ⟨ms.length - (j + 1), by omega, j + 1, o, by omega, rfl, S.sub _ rfl, (M.drop 1).drop 1⟩
                            · clear S; intro h121 S
                              first | replace h121 := nrmA h121 | replace h121 := nrmB h121 | skip
                              first | replace h121 := nrm1 h121 | replace h121 := nrm2 h121 | replace h121 := nrm3 h121 | replace h121 := nrm4 h121 | replace h121 := nrm5 h121 | replace h121 := nrm6 h121 | replace h121 := of_decide_eq_true h121 | replace h121 := of_decide_eq_false h121 | skip
                              refine qt_skip 2 S rfl ?_; clear S a; intro a S
                              refine qt_y S rfl rfl rfl (fun w M => y_pickF S rfl rfl) ?_; clear S a; intro a S
                              refine qt_y S rfl rfl rfl (fun w M => y_neqBool (by kernel_rfl) S rfl rfl) ?_; clear S a; intro a S
                              refine qt_y S rfl rfl rfl (fun w M => y_pickF S rfl rfl) ?_; clear S a; intro a S
                              refine wpQuiet_nil ?_; clear M; intro w16 M
                              replace S := S.sub [(2, _), (6, _), (7, _), (8, _), (20, _), (21, _), (22, _), (38, _), (39, _), (126, _)] rfl
                              refine then_normal ?_
                              refine st_split (t := 126) S rfl ?_ ?_
                              · clear S; intro h126 S
                                exfalso; clear S M
                                have R6' : (how == 3) = decide ((0 < k.of F ∧ k.of F < mi) ∧ 0 < how) := by rw [Bool.eq_iff_iff]; simpa using R6
                                rw [R6'] at h126
                                (try simp only at h121); (try simp only at h111)
                                by_cases h0 : 0 < how
                                · by_cases h1 : 0 < k.of F
                                  · by_cases h2 : k.of F < mi
                                    · first | (simp [h0, h1, h2] at h126; done) | omega
                                    · first | (simp [h0, h1, h2] at h126; done) | omega
                                  · first | (simp [h0, h1] at h126; done) | omega
                                · first | (simp [h0] at h126; done) | omega
                              · clear S; intro h126 S
                                refine st_condF S rfl ?_
                                refine wp_skip ?_
                                refine then_normal ?_
                                -- region 18 law.go:59
                                refine wp_region_lit ?_
                                refine st_y S rfl rfl rfl (y_loadAgg (cs := [_, _, _, _, _, _, _]) S (by kernel_rfl) rfl rfl (M.cellsAt (k := 7) 0 rfl rfl)) ?_; clear S a; intro a S
                                refine st_store (sz := 7) (us := [_, _, _, _, _, _, _]) S M 2 rfl (by kernel_rfl) rfl rfl rfl rfl rfl rfl (by first | decide | (simp; done) | (simp; omega)) ?_; clear M; intro w17 M
                                simp only [putL, List.set_cons_zero, List.set_cons_succ, Nat.reduceAdd] at M
                                refine wpList_nil ?_
                                replace S := S.sub [(2, _), (6, _), (7, _), (8, _), (20, _), (21, _), (22, _), (38, _), (39, _), (126, _)] rfl
                                refine block_normal ?_
                                refine then_normal ?_
                                -- region 19 law.go:43
                                refine wp_region_lit ?_
                                (first | refine st_y S rfl rfl rfl (y_addN S rfl rfl (by omega)) ?_ | refine st_y S rfl rfl rfl (y_int S rfl rfl rfl) ?_); clear S a; intro a S
                                refine st_y S rfl rfl rfl (y_move S rfl) ?_; clear S a; intro a S
                                refine wpList_nil ?_
                                replace S := S.sub [(2, _), (6, _), (7, _), (8, _), (20, _), (21, _), (38, _), (39, _), (126, _), (22, _)] rfl
                                refine then_normal ?_
                                replace M := M.front 2 rfl
                                simp only [List.eraseIdx_cons_succ, List.eraseIdx_cons_zero] at M
                                first
                                  | exact ⟨ms.length - (j + 1), by omega, j + 1, k, by omega, rfl, S.sub _ rfl, (M.drop 1).drop 1⟩
                                  | exact ⟨ms.length - (j + 1), by omega, j + 1, o, by omega, rfl, S.sub _ rfl, (M.drop 1).drop 1⟩
                          · clear S; intro h111 S
                            first | replace h111 := nrmA h111 | replace h111 := nrmB h111 | skip
                            first | replace h111 := nrm1 h111 | replace h111 := nrm2 h111 | replace h111 := nrm3 h111 | replace h111 := nrm4 h111 | replace h111 := nrm5 h111 | replace h111 := nrm6 h111 | replace h111 := of_decide_eq_true h111 | replace h111 := of_decide_eq_false h111 | skip
                            refine qt_skip 8 S rfl ?_; clear S a; intro a S
                            refine qt_y S rfl rfl rfl (fun w M => y_pickF S rfl rfl) ?_; clear S a; intro a S
                            refine qt_y S rfl rfl rfl (fun w M => y_move S rfl) ?_; clear S a; intro a S
                            refine qt_skip 2 S rfl ?_; clear S a; intro a S
                            refine qt_y S rfl rfl rfl (fun w M => y_pickF S rfl rfl) ?_; clear S a; intro a S
                            refine qt_y S rfl rfl rfl (fun w M => y_neqBool (by kernel_rfl) S rfl rfl) ?_; clear S a; intro a S
                            refine qt_y S rfl rfl rfl (fun w M => y_pickF S rfl rfl) ?_; clear S a; intro a S
                            refine wpQuiet_nil ?_; clear M; intro w18 M
                            replace S := S.sub [(2, _), (6, _), (7, _), (8, _), (20, _), (21, _), (22, _), (38, _), (39, _), (126, _)] rfl
                            refine then_normal ?_
                            refine st_split (t := 126) S rfl ?_ ?_
                            · clear S; intro h126 S
                              exfalso; clear S M
                              have R6' : (how == 3) = decide ((0 < k.of F ∧ k.of F < mi) ∧ 0 < how) := by rw [Bool.eq_iff_iff]; simpa using R6
                              rw [R6'] at h126
                              (try simp only at h121); (try simp only at h111)
                              by_cases h0 : 0 < how
                              · by_cases h1 : 0 < k.of F
                                · by_cases h2 : k.of F < mi
                                  · first | (simp [h0, h1, h2] at h126; done) | omega
                                  · first | (simp [h0, h1, h2] at h126; done) | omega
                                · first | (simp [h0, h1] at h126; done) | omega
                              · first | (simp [h0] at h126; done) | omega
                            · clear S; intro h126 S
                              refine st_condF S rfl ?_
                              refine wp_skip ?_
                              refine then_normal ?_
                              -- region 18 law.go:59
                              refine wp_region_lit ?_
                              refine st_y S rfl rfl rfl (y_loadAgg (cs := [_, _, _, _, _, _, _]) S (by kernel_rfl) rfl rfl (M.cellsAt (k := 7) 0 rfl rfl)) ?_; clear S a; intro a S
                              refine st_store (sz := 7) (us := [_, _, _, _, _, _, _]) S M 2 rfl (by kernel_rfl) rfl rfl rfl rfl rfl rfl (by first | decide | (simp; done) | (simp; omega)) ?_; clear M; intro w19 M
                              simp only [putL, List.set_cons_zero, List.set_cons_succ, Nat.reduceAdd] at M
                              refine wpList_nil ?_
                              replace S := S.sub [(2, _), (6, _), (7, _), (8, _), (20, _), (21, _), (22, _), (38, _), (39, _), (126, _)] rfl
                              refine block_normal ?_
                              refine then_normal ?_
                              -- region 19 law.go:43
                              refine wp_region_lit ?_
                              (first | refine st_y S rfl rfl rfl (y_addN S rfl rfl (by omega)) ?_ | refine st_y S rfl rfl rfl (y_int S rfl rfl rfl) ?_); clear S a; intro a S
                              refine st_y S rfl rfl rfl (y_move S rfl) ?_; clear S a; intro a S
                              refine wpList_nil ?_
                              replace S := S.sub [(2, _), (6, _), (7, _), (8, _), (20, _), (21, _), (38, _), (39, _), (126, _), (22, _)] rfl
                              refine then_normal ?_
                              replace M := M.front 2 rfl
                              simp only [List.eraseIdx_cons_succ, List.eraseIdx_cons_zero] at M
                              first
                                | exact ⟨ms.length - (j + 1), by omega, j + 1, k, by omega, rfl, S.sub _ rfl, (M.drop 1).drop 1⟩
                                | exact ⟨ms.length - (j + 1), by omega, j + 1, o, by omega, rfl, S.sub _ rfl, (M.drop 1).drop 1⟩
                      · clear S; intro h96 S
                        first | replace h96 := nrmA h96 | replace h96 := nrmB h96 | skip
                        first | replace h96 := nrm1 h96 | replace h96 := nrm2 h96 | replace h96 := nrm3 h96 | replace h96 := nrm4 h96 | replace h96 := nrm5 h96 | replace h96 := nrm6 h96 | replace h96 := of_decide_eq_true h96 | replace h96 := of_decide_eq_false h96 | skip
                        refine qt_skip 3 S rfl ?_; clear S a; intro a S
                        refine qt_y S rfl rfl rfl (fun w M => y_pickF S rfl rfl) ?_; clear S a; intro a S
                        refine qt_y S rfl rfl rfl (fun w M => y_pickF S rfl rfl) ?_; clear S a; intro a S
                        refine qt_y S rfl rfl rfl (fun w M => y_move S rfl) ?_; clear S a; intro a S
                        refine qt_y S rfl rfl rfl (fun w M => y_move S rfl) ?_; clear S a; intro a S
                        refine qt_y S rfl rfl rfl (fun w M => y_int S rfl rfl rfl) ?_; clear S a; intro a S
                        refine qt_y S rfl rfl rfl (fun w M => y_fieldAddr (k := 1) S (by kernel_rfl) rfl) ?_; clear S a; intro a S
                        refine qt_y S rfl rfl rfl (fun w M => y_load S (by kernel_rfl) rfl (M.cell 1 rfl rfl)) ?_; clear S a; intro a S
                        refine qt_y S rfl rfl rfl (fun w M => y_fieldAddr (k := 2) S (by kernel_rfl) rfl) ?_; clear S a; intro a S
                        refine qt_y S rfl rfl rfl (fun w M => y_indexA (m := 5) (sz := 1) S (by kernel_rfl) rfl rfl (by first | omega | (simp; done) | (simp; omega))) ?_; clear S a; intro a S
                        try simp only [Int.toNat_natCast, Nat.mul_one, Nat.zero_add] at S
                        refine qt_y S rfl rfl rfl (fun w M => y_load S (by kernel_rfl) rfl (M.cell 2 rfl (kn_get (k := k) (by omega)))) ?_; clear S a; intro a S
                        refine qt_y S rfl rfl rfl (fun w M => y_int S rfl rfl rfl) ?_; clear S a; intro a S
                        refine qt_y S rfl rfl rfl (fun w M => y_move S rfl) ?_; clear S a; intro a S
                        refine st_split (t := 111) S rfl ?_ ?_
                        · clear S; intro h111 S
                          first | replace h111 := nrmA h111 | replace h111 := nrmB h111 | skip
                          first | replace h111 := nrm1 h111 | replace h111 := nrm2 h111 | replace h111 := nrm3 h111 | replace h111 := nrm4 h111 | replace h111 := nrm5 h111 | replace h111 := nrm6 h111 | replace h111 := of_decide_eq_true h111 | replace h111 := of_decide_eq_false h111 | skip
                          refine qt_y S rfl rfl rfl (fun w M => y_fieldAddr (k := 3) S (by kernel_rfl) rfl) ?_; clear S a; intro a S
                          refine qt_y S rfl rfl rfl (fun w M => y_load S (by kernel_rfl) rfl (M.cell 1 rfl rfl)) ?_; clear S a; intro a S
                          refine qt_y S rfl rfl rfl (fun w M => y_fieldAddr (k := 1) S (by kernel_rfl) rfl) ?_; clear S a; intro a S
                          refine qt_y S rfl rfl rfl (fun w M => y_load S (by kernel_rfl) rfl (M.cell 1 rfl rfl)) ?_; clear S a; intro a S
                          refine qt_y S rfl rfl rfl (fun w M => y_fieldAddr (k := 2) S (by kernel_rfl) rfl) ?_; clear S a; intro a S
                          refine qt_y S rfl rfl rfl (fun w M => y_indexA (m := 5) (sz := 1) S (by kernel_rfl) rfl rfl (by first | omega | (simp; done) | (simp; omega))) ?_; clear S a; intro a S
                          try simp only [Int.toNat_natCast, Nat.mul_one, Nat.zero_add] at S
                          refine qt_y S rfl rfl rfl (fun w M => y_load S (by kernel_rfl) rfl (M.cell 2 rfl (kn_get (k := k) (by omega)))) ?_; clear S a; intro a S
                          refine qt_y S rfl rfl rfl (fun w M => y_int S rfl rfl rfl) ?_; clear S a; intro a S
                          refine qt_y S rfl rfl rfl (fun w M => y_pickT S rfl rfl) ?_; clear S a; intro a S
                          refine qt_y S rfl rfl rfl (fun w M => y_move S rfl) ?_; clear S a; intro a S
                          refine st_split (t := 121) S rfl ?_ ?_
                          · clear S; intro h121 S
                            first | replace h121 := nrmA h121 | replace h121 := nrmB h121 | skip
                            first | replace h121 := nrm1 h121 | replace h121 := nrm2 h121 | replace h121 := nrm3 h121 | replace h121 := nrm4 h121 | replace h121 := nrm5 h121 | replace h121 := nrm6 h121 | replace h121 := of_decide_eq_true h121 | replace h121 := of_decide_eq_false h121 | skip
                            refine qt_y S rfl rfl rfl (fun w M => y_move S rfl) ?_; clear S a; intro a S
                            refine qt_y S rfl rfl rfl (fun w M => y_int S rfl rfl rfl) ?_; clear S a; intro a S
                            refine qt_y S rfl rfl rfl (fun w M => y_pickT S rfl rfl) ?_; clear S a; intro a S
                            refine qt_y S rfl rfl rfl (fun w M => y_neqBool (by kernel_rfl) S rfl rfl) ?_; clear S a; intro a S
                            refine qt_y S rfl rfl rfl (fun w M => y_pickF S rfl rfl) ?_; clear S a; intro a S
                            refine wpQuiet_nil ?_; clear M; intro w20 M
                            replace S := S.sub [(2, _), (6, _), (7, _), (8, _), (20, _), (21, _), (22, _), (38, _), (39, _), (126, _)] rfl
                            refine then_normal ?_
                            refine st_split (t := 126) S rfl ?_ ?_
                            · clear S; intro h126 S
                              exfalso; clear S M
                              have R6' : (how == 3) = decide ((0 < k.of F ∧ k.of F < mi) ∧ 0 < how) := by rw [Bool.eq_iff_iff]; simpa using R6
                              rw [R6'] at h126
                              (try simp only at h121); (try simp only at h111)
                              by_cases h0 : 0 < how
                              · by_cases h1 : 0 < k.of F
                                · by_cases h2 : k.of F < mi
                                  · first | (simp [h0, h1, h2] at h126; done) | omega
                                  · first | (simp [h0, h1, h2] at h126; done) | omega
                                · first | (simp [h0, h1] at h126; done) | omega
                              · first | (simp [h0] at h126; done) | omega
                            · clear S; intro h126 S
                              refine st_condF S rfl ?_
                              refine wp_skip ?_
                              refine then_normal ?_
                              -- region 18 law.go:59
                              refine wp_region_lit ?_
                              refine st_y S rfl rfl rfl (y_loadAgg (cs := [_, _, _, _, _, _, _]) S (by kernel_rfl) rfl rfl (M.cellsAt (k := 7) 0 rfl rfl)) ?_; clear S a; intro a S
                              refine st_store (sz := 7) (us := [_, _, _, _, _, _, _]) S M 2 rfl (by kernel_rfl) rfl rfl rfl rfl rfl rfl (by first | decide | (simp; done) | (simp; omega)) ?_; clear M; intro w21 M
                              simp only [putL, List.set_cons_zero, List.set_cons_succ, Nat.reduceAdd] at M
                              refine wpList_nil ?_
                              replace S := S.sub [(2, _), (6, _), (7, _), (8, _), (20, _), (21, _), (22, _), (38, _), (39, _), (126, _)] rfl
                              refine block_normal ?_
                              refine then_normal ?_
                              -- region 19 law.go:43
                              refine wp_region_lit ?_
                              (first | refine st_y S rfl rfl rfl (y_addN S rfl rfl (by omega)) ?_ | refine st_y S rfl rfl rfl (y_int S rfl rfl rfl) ?_); clear S a; intro a S
                              refine st_y S rfl rfl rfl (y_move S rfl) ?_; clear S a; intro a S
                              refine wpList_nil ?_
                              replace S := S.sub [(2, _), (6, _), (7, _), (8, _), (20, _), (21, _), (38, _), (39, _), (126, _), (22, _)] rfl
                              refine then_normal ?_
                              replace M := M.front 2 rfl
                              simp only [List.eraseIdx_cons_succ, List.eraseIdx_cons_zero] at M
                              first
                                | exact ⟨ms.length - (j + 1), by omega, j + 1, k, by omega, rfl, S.sub _ rfl, (M.drop 1).drop 1⟩
                                | exact ⟨ms.length - (j + 1), by omega, j + 1, o, by omega, rfl, S.sub _ rfl, (M.drop 1).drop 1⟩
                          · clear S; intro h121 S
                            first | replace h121 := nrmA h121 | replace h121 := nrmB h121 | skip
                            first | replace h121 := nrm1 h121 | replace h121 := nrm2 h121 | replace h121 := nrm3 h121 | replace h121 := nrm4 h121 | replace h121 := nrm5 h121 | replace h121 := nrm6 h121 | replace h121 := of_decide_eq_true h121 | replace h121 := of_decide_eq_false h121 | skip
                            refine qt_skip 2 S rfl ?_; clear S a; intro a S
                            refine qt_y S rfl rfl rfl (fun w M => y_pickF S rfl rfl) ?_; clear S a; intro a S
                            refine qt_y S rfl rfl rfl (fun w M => y_neqBool (by kernel_rfl) S rfl rfl) ?_; clear S a; intro a S
                            refine qt_y S rfl rfl rfl (fun w M => y_pickF S rfl rfl) ?_; clear S a; intro a S
                            refine wpQuiet_nil ?_; clear M; intro w22 M
                            replace S := S.sub [(2, _), (6, _), (7, _), (8, _), (20, _), (21, _), (22, _), (38, _), (39, _), (126, _)] rfl
                            refine then_normal ?_
                            refine st_split (t := 126) S rfl ?_ ?_
                            · clear S; intro h126 S
                              exfalso; clear S M
                              have R6' : (how == 3) = decide ((0 < k.of F ∧ k.of F < mi) ∧ 0 < how) := by rw [Bool.eq_iff_iff]; simpa using R6
                              rw [R6'] at h126
                              (try simp only at h121); (try simp only at h111)
                              by_cases h0 : 0 < how
                              · by_cases h1 : 0 < k.of F
                                · by_cases h2 : k.of F < mi
                                  · first | (simp [h0, h1, h2] at h126; done) | omega
                                  · first | (simp [h0, h1, h2] at h126; done) | omega
                                · first | (simp [h0, h1] at h126; done) | omega
                              · first | (simp [h0] at h126; done) | omega
                            · clear S; intro h126 S
                              refine st_condF S rfl ?_
                              refine wp_skip ?_
                              refine then_normal ?_
                              -- region 18 law.go:59
                              refine wp_region_lit ?_
                              refine st_y S rfl rfl rfl (y_loadAgg (cs := [_, _, _, _, _, _, _]) S (by kernel_rfl) rfl rfl (M.cellsAt (k := 7) 0 rfl rfl)) ?_; clear S a; intro a S
                              refine st_store (sz := 7) (us := [_, _, _, _, _, _, _]) S M 2 rfl (by kernel_rfl) rfl rfl rfl rfl rfl rfl (by first | decide | (simp; done) | (simp; omega)) ?_; clear M; intro w23 M
                              simp only [putL, List.set_cons_zero, List.set_cons_succ, Nat.reduceAdd] at M
                              refine wpList_nil ?_
                              replace S := S.sub [(2, _), (6, _), (7, _), (8, _), (20, _), (21, _), (22, _), (38, _), (39, _), (126, _)] rfl
                              refine block_normal ?_
                              refine then_normal ?_
                              -- region 19 law.go:43
                              refine wp_region_lit ?_
                              (first | refine st_y S rfl rfl rfl (y_addN S rfl rfl (by omega)) ?_ | refine st_y S rfl rfl rfl (y_int S rfl rfl rfl) ?_); clear S a; intro a S
                              refine st_y S rfl rfl rfl (y_move S rfl) ?_; clear S a; intro a S
                              refine wpList_nil ?_
                              replace S := S.sub [(2, _), (6, _), (7, _), (8, _), (20, _), (21, _), (38, _), (39, _), (126, _), (22, _)] rfl
                              refine then_normal ?_
                              replace M := M.front 2 rfl
                              simp only [List.eraseIdx_cons_succ, List.eraseIdx_cons_zero] at M
                              first
                                | exact ⟨ms.length - (j + 1), by omega, j + 1, k, by omega, rfl, S.sub _ rfl, (M.drop 1).drop 1⟩
                                | exact ⟨ms.length - (j + 1), by omega, j + 1, o, by omega, rfl, S.sub _ rfl, (M.drop 1).drop 1⟩
                        · clear S; intro h111 S
                          first | replace h111 := nrmA h111 | replace h111 := nrmB h111 | skip
                          first | replace h111 := nrm1 h111 | replace h111 := nrm2 h111 | replace h111 := nrm3 h111 | replace h111 := nrm4 h111 | replace h111 := nrm5 h111 | replace h111 := nrm6 h111 | replace h111 := of_decide_eq_true h111 | replace h111 := of_decide_eq_false h111 | skip
                          refine qt_skip 8 S rfl ?_; clear S a; intro a S
                          refine qt_y S rfl rfl rfl (fun w M => y_pickF S rfl rfl) ?_; clear S a; intro a S
                          refine qt_y S rfl rfl rfl (fun w M => y_move S rfl) ?_; clear S a; intro a S
                          refine qt_skip 2 S rfl ?_; clear S a; intro a S
                          refine qt_y S rfl rfl rfl (fun w M => y_pickF S rfl rfl) ?_; clear S a; intro a S
                          refine qt_y S rfl rfl rfl (fun w M => y_neqBool (by kernel_rfl) S rfl rfl) ?_; clear S a; intro a S
                          refine qt_y S rfl rfl rfl (fun w M => y_pickF S rfl rfl) ?_; clear S a; intro a S
                          refine wpQuiet_nil ?_; clear M; intro w24 M
                          replace S := S.sub [(2, _), (6, _), (7, _), (8, _), (20, _), (21, _), (22, _), (38, _), (39, _), (126, _)] rfl
                          refine then_normal ?_
                          refine st_split (t := 126) S rfl ?_ ?_
                          · clear S; intro h126 S
                            exfalso; clear S M
                            have R6' : (how == 3) = decide ((0 < k.of F ∧ k.of F < mi) ∧ 0 < how) := by rw [Bool.eq_iff_iff]; simpa using R6
                            rw [R6'] at h126
                            (try simp only at h121); (try simp only at h111)
                            by_cases h0 : 0 < how
                            · by_cases h1 : 0 < k.of F
                              · by_cases h2 : k.of F < mi
                                · first | (simp [h0, h1, h2] at h126; done) | omega
                                · first | (simp [h0, h1, h2] at h126; done) | omega
                              · first | (simp [h0, h1] at h126; done) | omega
                            · first | (simp [h0] at h126; done) | omega
                          · clear S; intro h126 S
                            refine st_condF S rfl ?_
                            refine wp_skip ?_
                            refine then_normal ?_
                            -- region 18 law.go:59
                            refine wp_region_lit ?_
                            refine st_y S rfl rfl rfl (y_loadAgg (cs := [_, _, _, _, _, _, _]) S (by kernel_rfl) rfl rfl (M.cellsAt (k := 7) 0 rfl rfl)) ?_; clear S a; intro a S
                            refine st_store (sz := 7) (us := [_, _, _, _, _, _, _]) S M 2 rfl (by kernel_rfl) rfl rfl rfl rfl rfl rfl (by first | decide | (simp; done) | (simp; omega)) ?_; clear M; intro w25 M
                            simp only [putL, List.set_cons_zero, List.set_cons_succ, Nat.reduceAdd] at M
                            refine wpList_nil ?_
                            replace S := S.sub [(2, _), (6, _), (7, _), (8, _), (20, _), (21, _), (22, _), (38, _), (39, _), (126, _)] rfl
                            refine block_normal ?_
                            refine then_normal ?_
                            -- region 19 law.go:43
                            refine wp_region_lit ?_
                            (first | refine st_y S rfl rfl rfl (y_addN S rfl rfl (by omega)) ?_ | refine st_y S rfl rfl rfl (y_int S rfl rfl rfl) ?_); clear S a; intro a S
                            refine st_y S rfl rfl rfl (y_move S rfl) ?_; clear S a; intro a S
                            refine wpList_nil ?_
                            replace S := S.sub [(2, _), (6, _), (7, _), (8, _), (20, _), (21, _), (38, _), (39, _), (126, _), (22, _)] rfl
                            refine then_normal ?_
                            replace M := M.front 2 rfl
                            simp only [List.eraseIdx_cons_succ, List.eraseIdx_cons_zero] at M
                            first
                              | exact ⟨ms.length - (j + 1), by omega, j + 1, k, by omega, rfl, S.sub _ rfl, (M.drop 1).drop 1⟩
                              | exact ⟨ms.length - (j + 1), by omega, j + 1, o, by omega, rfl, S.sub _ rfl, (M.drop 1).drop 1⟩
        · clear S; intro h23 S
          first | replace h23 := nrmA h23 | replace h23 := nrmB h23 | skip
          first | replace h23 := nrm1 h23 | replace h23 := nrm2 h23 | replace h23 := nrm3 h23 | replace h23 := nrm4 h23 | replace h23 := nrm5 h23 | replace h23 := nrm6 h23 | replace h23 := of_decide_eq_true h23 | replace h23 := of_decide_eq_false h23 | skip
          refine st_condF S rfl ?_
          refine wp_exit ?_
          refine then_exit ?_
          refine then_exit ?_
          refine block_hit ?_
          refine then_normal ?_
          refine wp_seq ?_
          -- region 20 law.go:61
          refine wp_region_lit ?_
          refine st_call (xs := []) S (enters_of Try.func7 (by decide) rfl) rfl rfl rfl (wakes_any _) ?_
          rintro _ w26 ⟨rfl, hK⟩; refine ⟨_, rfl, ?_⟩; clear S a; intro a S; replace M := M.grow hK
          refine st_y S rfl rfl rfl (y_assign S rfl) ?_; clear S a; intro a S
          refine wpList_nil ?_
          replace S := S.sub [(2, _), (20, _), (21, _), (22, _), (23, _), (4, _)] rfl
          refine then_normal ?_
          refine wp_ret ?_
          refine end_one S rfl (res_tmp rfl) ?_
          exact ⟨rfl, M.below⟩

end Go.Proofs.Ytdcihmdchabcnaa
