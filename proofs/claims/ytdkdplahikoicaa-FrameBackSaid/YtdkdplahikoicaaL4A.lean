/-
  Package cashboxlaw04: wakes.
-/
import Derived.Test.YtdkdplahikoicaaFrD
namespace Go.Proofs.Ytdkdplahikoicaa
open Go.RowKit Go.Sort

theorem madeL_bytes (k : Nat) : madeL [.int .u8 0] k = bcells (List.replicate k 0) := by
  apply List.ext_getElem?
  intro i
  simp only [madeL, madeCells, bcells, List.map_replicate]
  rcases Nat.lt_or_ge i k with h | h
  · simp [h, Nat.mod_one]
  · simp [h]

/-- the frames from the i-th on -/
theorem FrsC.drop {cs : List Value} {lo hi : Nat} {w : World} {v : Value} {fs : List (Fr × List UInt8)} (h : FrsC cs lo hi w v fs) (i : Nat) (hi' : i ≤ fs.length) :
    FrsC ((cs.drop (i * 6)).take ((fs.length - i) * 6)) lo hi w (cutV v i fs.length (capV v) 6) (fs.drop i) := by
  have hc := h.1.cap
  refine ⟨?_, fun j f bs hj => ?_⟩
  · have := h.1.cutv (i := i) (j := fs.length) (mx := capV v) hi' (Nat.le_refl _) hc.1 (Nat.le_refl _)
    rw [List.length_drop]; exact this
  · rw [List.getElem?_drop] at hj
    obtain ⟨lv, e, hb⟩ := h.2 (i + j) f bs hj
    refine ⟨lv, ?_, hb⟩
    have hlt := (List.getElem?_eq_some_iff.1 hj).1
    rw [← e, List.drop_take, List.drop_drop, List.take_take]
    rw [show i * 6 + j * 6 = (i + j) * 6 by omega, Nat.min_eq_left (by omega)]

def wk0 : List UInt8 := List.replicate 85 0
def wkF : List (Fr × List UInt8) := [(⟨7, 1, 0, 2, sumT wk0⟩, List.replicate 45 0), (⟨8, 1, 1, 2, sumT wk0⟩, List.replicate 40 0)]
theorem wk_ok : cutOk wk0 7 1 := by
  refine ⟨by simp [wk0], by omega, by omega, by simp [wk0], by simp [wk0, nOf]⟩
theorem wk_cutF : cutF wk0 7 1 = wkF := by
  have h2 : nOf wk0.length = 2 := by simp [wk0, nOf]
  unfold cutF
  rw [h2]
  simp only [List.range, List.range.loop, List.map_cons, List.map_nil, frOf, h2, wkF]
  simp [wk0]
theorem wk_cutR : cutR wk0 7 1 = wkF := by unfold cutR; rw [if_pos wk_ok, wk_cutF]
theorem wk_cutE : cutE wk0 7 1 = 0 := by unfold cutE; rw [if_pos wk_ok]
theorem wk_out : outF wkF = wk0 := by
  simp only [outF, wkF, List.flatMap_cons, List.flatMap_nil, List.append_nil, wk0]
  rw [List.replicate_append_replicate]
theorem wk_join : joinOk wkF := by
  refine ⟨_, _, _, rfl, by simp [wkF], ?_, ?_, ?_⟩
  · intro x hx
    simp only [wkF, List.mem_cons, List.not_mem_nil, or_false] at hx
    rcases hx with rfl | rfl <;> simp [Fr.may]
  · rw [wk_out]; exact wk_ok
  · rw [wk_out]; exact wk_cutF
theorem wk_no : ¬ joinOk (wkF.drop 1) := by
  rintro ⟨f, bs, r, e, _, _, _, h⟩
  simp only [wkF, List.drop_succ_cons, List.drop_zero] at e h
  have e1 := (List.cons.inj e).1
  have e2 : f = ⟨8, 1, 1, 2, sumT wk0⟩ := (congrArg Prod.fst e1).symm
  subst e2
  have h2 := congrArg (fun l => (l[0]?).map (fun x => x.1.part)) h
  simp [cutF, outF, nOf, frOf] at h2

theorem wakes04 (w : World) : Calls Try.prog 7 #[] w fun e w' => e = .returned (.bool true) ∧ Below w.heap.size w w' := by
  have M := Mem.start w
  refine calls_enter Try.func7 rfl 71 rfl rfl ?_; intro a S
  refine wp_seq ?_
  -- region 0 law.go:12
  refine wp_region_lit ?_
  refine st_y S rfl rfl rfl (y_assign S rfl) ?_; clear S a; intro a S
  refine wpList_nil ?_
  replace S := S.sub [(0, _)] rfl
  refine then_normal ?_
  refine wp_seq ?_
  -- region 1 law.go:13
  refine wp_region_lit ?_
  refine st_make (e := 5) (sz := 1) (by_ := 1) (zc := [.int .u8 0]) S M rfl rfl (by kernel_rfl) rfl rfl (by omega) (by omega) (by omega) (by omega) ?_; clear S M a; intro a w1 b1 S M hB
  try simp only [Int.toNat_natCast, Int.reduceToNat, Nat.reduceMul] at S M
  rw [madeL_bytes] at M
  have hb0 := (Rd.of_blk (sz := 1) (M.blk 0 rfl) (xs := bcells wk0) (m := 85) (cap := 85) (by simp [bcells, wk0]) (Nat.le_refl _) (by unfold maxLen; omega) (by simp [bcells, wk0])).wide (Nat.zero_le _) (M.fits _ (List.mem_of_getElem? (show _[0]? = _ from rfl))).2
  refine st_call (xs := [(Operand.tmp 8), (Operand.const (Value.int IntKind.i64 7)), (Operand.const (Value.int IntKind.i64 1))]) S (enters_of Try.func8 (by decide) rfl) rfl rfl rfl (cut_any _ wk0 7 1 _ (by unfold Bs; rw [show wk0.length = 85 from by simp [wk0]]; exact hb0) (by omega)) ?_
  rintro _ w2 ⟨v2, rfl, hK, cs2, hF⟩; refine ⟨_, rfl, ?_⟩; clear S a; intro a S
  rw [wk_cutR] at hF
  rw [wk_cutE] at S
  obtain ⟨lo2, hi2, hlo2, M⟩ := M.pushFrs hK hF
  have hfit := (M.fits _ (List.mem_of_getElem? (show _[0]? = _ from rfl)))
  simp only [Ent.lo, Ent.hi] at hfit
  refine st_y S rfl rfl rfl (y_move S rfl) ?_; clear S a; intro a S
  refine st_y S rfl rfl rfl (y_extract S rfl rfl) ?_; clear S a; intro a S
  refine st_y S rfl rfl rfl (y_extract S rfl rfl) ?_; clear S a; intro a S
  refine st_y S rfl rfl rfl (y_assign S rfl) ?_; clear S a; intro a S
  refine st_y S rfl rfl rfl (y_assign S rfl) ?_; clear S a; intro a S
  refine wpList_nil ?_
  replace S := S.sub [(0, _), (1, _), (2, _)] rfl
  refine then_normal ?_
  refine wp_seq ?_
  refine wp_seq ?_
  -- region 2 law.go:14
  refine wp_region_lit ?_
  refine st_y S rfl rfl rfl (y_move S rfl) ?_; clear S a; intro a S
  refine st_y S rfl rfl rfl (y_int S rfl rfl rfl) ?_; clear S a; intro a S
  refine st_y S rfl rfl rfl (y_move S rfl) ?_; clear S a; intro a S
  refine st_split (t := 14) S rfl ?_ ?_
  · clear S; intro h14 S
    first | replace h14 := nrmA h14 | replace h14 := nrmB h14 | skip
    first | replace h14 := nrm1 h14 | replace h14 := nrm2 h14 | replace h14 := nrm3 h14 | replace h14 := nrm4 h14 | replace h14 := nrm5 h14 | replace h14 := nrm6 h14 | replace h14 := of_decide_eq_true h14 | replace h14 := of_decide_eq_false h14 | skip
    all_goals (simp at h14)
  · clear S; intro h14 S
    first | replace h14 := nrmA h14 | replace h14 := nrmB h14 | skip
    first | replace h14 := nrm1 h14 | replace h14 := nrm2 h14 | replace h14 := nrm3 h14 | replace h14 := nrm4 h14 | replace h14 := nrm5 h14 | replace h14 := nrm6 h14 | replace h14 := of_decide_eq_true h14 | replace h14 := of_decide_eq_false h14 | skip
    refine st_y S rfl rfl rfl (y_move S rfl) ?_; clear S a; intro a S
    refine st_y S rfl rfl rfl (y_lenR (E := 33) S rfl ((M.own 0 rfl).1) (by kernel_rfl)) ?_; clear S a; intro a S
    refine st_y S rfl rfl rfl (y_int S rfl rfl rfl) ?_; clear S a; intro a S
    refine st_y S rfl rfl rfl (y_pickF S rfl rfl) ?_; clear S a; intro a S
    refine wpList_nil ?_
    replace S := S.sub [(0, _), (1, _), (2, _), (18, _)] rfl
    refine then_normal ?_
    refine st_split (t := 18) S rfl ?_ ?_
    · clear S; intro h18 S
      first | replace h18 := nrmA h18 | replace h18 := nrmB h18 | skip
      first | replace h18 := nrm1 h18 | replace h18 := nrm2 h18 | replace h18 := nrm3 h18 | replace h18 := nrm4 h18 | replace h18 := nrm5 h18 | replace h18 := nrm6 h18 | replace h18 := of_decide_eq_true h18 | replace h18 := of_decide_eq_false h18 | skip
      all_goals (simp [wkF] at h18)
    · clear S; intro h18 S
      first | replace h18 := nrmA h18 | replace h18 := nrmB h18 | skip
      first | replace h18 := nrm1 h18 | replace h18 := nrm2 h18 | replace h18 := nrm3 h18 | replace h18 := nrm4 h18 | replace h18 := nrm5 h18 | replace h18 := nrm6 h18 | replace h18 := of_decide_eq_true h18 | replace h18 := of_decide_eq_false h18 | skip
      refine st_condF S rfl ?_
      refine wp_skip ?_
      refine then_normal ?_
      refine wp_seq ?_
      -- region 4 law.go:17
      refine wp_region_lit ?_
      refine st_y S rfl rfl rfl (y_move S rfl) ?_; clear S a; intro a S
      refine st_call (xs := [(Operand.tmp 20)]) S (enters_of Try.func10 (by decide) rfl) rfl rfl rfl (join_any v2 cs2 wkF _ ((M.own 0 rfl).wide (Nat.zero_le _) hfit.2) (by intro x hx; simp only [wkF, List.mem_cons, List.not_mem_nil, or_false] at hx; rcases hx with rfl | rfl <;> simp) (by intro x hx; simp only [wkF, List.mem_cons, List.not_mem_nil, or_false] at hx; rcases hx with rfl | rfl <;> simp)) ?_
      rintro _ w3 ⟨v3, rfl, hK, hj1, -⟩; refine ⟨_, rfl, ?_⟩; clear S a; intro a S
      replace hj1 := hj1 wk_join
      rw [show joinE wkF = 0 from by unfold joinE; rw [if_pos wk_join]] at S
      obtain ⟨lo3, hi3, hlo3, M⟩ := M.pushFresh hj1
      have hfit := (M.fits _ (List.mem_of_getElem? (show _[1]? = _ from rfl)))
      simp only [Ent.lo, Ent.hi] at hfit
      refine st_y S rfl rfl rfl (y_move S rfl) ?_; clear S a; intro a S
      refine st_y S rfl rfl rfl (y_extract S rfl rfl) ?_; clear S a; intro a S
      refine st_y S rfl rfl rfl (y_extract S rfl rfl) ?_; clear S a; intro a S
      refine st_y S rfl rfl rfl (y_assign S rfl) ?_; clear S a; intro a S
      refine st_y S rfl rfl rfl (y_assign S rfl) ?_; clear S a; intro a S
      refine wpList_nil ?_
      replace S := S.sub [(0, _), (1, _), (2, _), (18, _), (3, _), (4, _)] rfl
      refine then_normal ?_
      refine wp_seq ?_
      -- region 5 law.go:18
      refine wp_region_lit ?_
      refine st_y S rfl rfl rfl (y_move S rfl) ?_; clear S a; intro a S
      refine st_y S rfl rfl rfl (y_slice1R (e := 33) (sz := 6) S (by kernel_rfl) rfl ((M.own 1 rfl).1) rfl (by first | omega | (simp; done) | (simp; omega))) ?_; clear S a; intro a S
      refine st_call (xs := [(Operand.tmp 26)]) S (enters_of Try.func10 (by decide) rfl) rfl rfl rfl (join_any _ _ (wkF.drop 1) _ (((M.own 1 rfl).drop 1 (by simp [wkF])).wide (Nat.zero_le _) hfit.2) (by intro x hx; simp only [wkF, List.drop_succ_cons, List.drop_zero, List.mem_cons, List.not_mem_nil, or_false] at hx; rcases hx with rfl; simp) (by intro x hx; simp only [wkF, List.drop_succ_cons, List.drop_zero, List.mem_cons, List.not_mem_nil, or_false] at hx; rcases hx with rfl; simp)) ?_
      rintro _ w4 ⟨v4, rfl, hK, -, -⟩; refine ⟨_, rfl, ?_⟩; clear S a; intro a S
      rw [show joinE (wkF.drop 1) = 40 from by unfold joinE; rw [if_neg wk_no]] at S
      replace M := M.grow hK
      obtain ⟨lv0, hr0, -⟩ := (M.own 1 rfl).2 0 _ _ rfl
      obtain ⟨lv1, hr1, -⟩ := (M.own 1 rfl).2 1 _ _ rfl
      refine st_y S rfl rfl rfl (y_move S rfl) ?_; clear S a; intro a S
      refine st_y S rfl rfl rfl (y_extract S rfl rfl) ?_; clear S a; intro a S
      refine st_y S rfl rfl rfl (y_extract S rfl rfl) ?_; clear S a; intro a S
      refine st_y S rfl rfl rfl (y_assign S rfl) ?_; clear S a; intro a S
      refine st_y S rfl rfl rfl (y_assign S rfl) ?_; clear S a; intro a S
      refine wpList_nil ?_
      replace S := S.sub [(0, _), (1, _), (2, _), (18, _), (3, _), (4, _), (6, _)] rfl
      refine then_normal ?_
      refine wp_seq ?_
      -- region 6 law.go:19
      refine wp_region_lit ?_
      refine st_y S rfl rfl rfl (y_move S rfl) ?_; clear S a; intro a S
      refine st_y S rfl rfl rfl (y_indexR (e := 33) (sz := 6) S (by kernel_rfl) rfl ((M.own 1 rfl).1) rfl (by first | omega | (simp; done) | (simp; omega))) ?_; clear S a; intro a S
      refine st_y S rfl rfl rfl (y_fieldAddr (k := 5) S (by kernel_rfl) rfl) ?_; clear S a; intro a S
      refine st_y S rfl rfl rfl (y_load S (by kernel_rfl) rfl (((M.own 1 rfl).row (i := 0) rfl hr0).1.one 5 rfl)) ?_; clear S a; intro a S
      refine st_y S rfl rfl rfl (y_lenR (E := 5) S rfl (((M.own 1 rfl).row (i := 0) rfl hr0).2) (by kernel_rfl)) ?_; clear S a; intro a S
      refine st_y S rfl rfl rfl (y_int S rfl rfl rfl) ?_; clear S a; intro a S
      refine st_y S rfl rfl rfl (y_move S rfl) ?_; clear S a; intro a S
      refine st_split (t := 36) S rfl ?_ ?_
      · clear S; intro h36 S
        first | replace h36 := nrmA h36 | replace h36 := nrmB h36 | skip
        first | replace h36 := nrm1 h36 | replace h36 := nrm2 h36 | replace h36 := nrm3 h36 | replace h36 := nrm4 h36 | replace h36 := nrm5 h36 | replace h36 := nrm6 h36 | replace h36 := of_decide_eq_true h36 | replace h36 := of_decide_eq_false h36 | skip
        refine st_y S rfl rfl rfl (y_move S rfl) ?_; clear S a; intro a S
        refine st_y S rfl rfl rfl (y_indexR (e := 33) (sz := 6) S (by kernel_rfl) rfl ((M.own 1 rfl).1) rfl (by first | omega | (simp; done) | (simp; omega))) ?_; clear S a; intro a S
        refine st_y S rfl rfl rfl (y_fieldAddr (k := 5) S (by kernel_rfl) rfl) ?_; clear S a; intro a S
        refine st_y S rfl rfl rfl (y_load S (by kernel_rfl) rfl (((M.own 1 rfl).row (i := 1) rfl hr1).1.one 5 rfl)) ?_; clear S a; intro a S
        refine st_y S rfl rfl rfl (y_lenR (E := 5) S rfl (((M.own 1 rfl).row (i := 1) rfl hr1).2) (by kernel_rfl)) ?_; clear S a; intro a S
        refine st_y S rfl rfl rfl (y_int S rfl rfl rfl) ?_; clear S a; intro a S
        refine st_y S rfl rfl rfl (y_pickT S rfl rfl) ?_; clear S a; intro a S
        refine st_y S rfl rfl rfl (y_move S rfl) ?_; clear S a; intro a S
        refine st_split (t := 44) S rfl ?_ ?_
        · clear S; intro h44 S
          first | replace h44 := nrmA h44 | replace h44 := nrmB h44 | skip
          first | replace h44 := nrm1 h44 | replace h44 := nrm2 h44 | replace h44 := nrm3 h44 | replace h44 := nrm4 h44 | replace h44 := nrm5 h44 | replace h44 := nrm6 h44 | replace h44 := of_decide_eq_true h44 | replace h44 := of_decide_eq_false h44 | skip
          refine st_y S rfl rfl rfl (y_move S rfl) ?_; clear S a; intro a S
          refine st_y S rfl rfl rfl (y_indexR (e := 33) (sz := 6) S (by kernel_rfl) rfl ((M.own 1 rfl).1) rfl (by first | omega | (simp; done) | (simp; omega))) ?_; clear S a; intro a S
          refine st_y S rfl rfl rfl (y_fieldAddr (k := 0) S (by kernel_rfl) rfl) ?_; clear S a; intro a S
          refine st_y S rfl rfl rfl (y_load S (by kernel_rfl) rfl (((M.own 1 rfl).row (i := 1) rfl hr1).1.one 0 rfl)) ?_; clear S a; intro a S
          refine st_y S rfl rfl rfl (y_int S rfl rfl rfl) ?_; clear S a; intro a S
          refine st_y S rfl rfl rfl (y_pickT S rfl rfl) ?_; clear S a; intro a S
          refine st_y S rfl rfl rfl (y_move S rfl) ?_; clear S a; intro a S
          refine st_split (t := 51) S rfl ?_ ?_
          · clear S; intro h51 S
            first | replace h51 := nrmA h51 | replace h51 := nrmB h51 | skip
            first | replace h51 := nrm1 h51 | replace h51 := nrm2 h51 | replace h51 := nrm3 h51 | replace h51 := nrm4 h51 | replace h51 := nrm5 h51 | replace h51 := nrm6 h51 | replace h51 := of_decide_eq_true h51 | replace h51 := of_decide_eq_false h51 | skip
            refine st_y S rfl rfl rfl (y_move S rfl) ?_; clear S a; intro a S
            refine st_y S rfl rfl rfl (y_indexR (e := 33) (sz := 6) S (by kernel_rfl) rfl ((M.own 1 rfl).1) rfl (by first | omega | (simp; done) | (simp; omega))) ?_; clear S a; intro a S
            refine st_y S rfl rfl rfl (y_fieldAddr (k := 2) S (by kernel_rfl) rfl) ?_; clear S a; intro a S
            refine st_y S rfl rfl rfl (y_load S (by kernel_rfl) rfl (((M.own 1 rfl).row (i := 1) rfl hr1).1.one 2 rfl)) ?_; clear S a; intro a S
            refine st_y S rfl rfl rfl (y_int S rfl rfl rfl) ?_; clear S a; intro a S
            refine st_y S rfl rfl rfl (y_pickT S rfl rfl) ?_; clear S a; intro a S
            refine st_y S rfl rfl rfl (y_move S rfl) ?_; clear S a; intro a S
            refine st_split (t := 58) S rfl ?_ ?_
            · clear S; intro h58 S
              first | replace h58 := nrmA h58 | replace h58 := nrmB h58 | skip
              first | replace h58 := nrm1 h58 | replace h58 := nrm2 h58 | replace h58 := nrm3 h58 | replace h58 := nrm4 h58 | replace h58 := nrm5 h58 | replace h58 := nrm6 h58 | replace h58 := of_decide_eq_true h58 | replace h58 := of_decide_eq_false h58 | skip
              refine st_y S rfl rfl rfl (y_move S rfl) ?_; clear S a; intro a S
              refine st_y S rfl rfl rfl (y_int S rfl rfl rfl) ?_; clear S a; intro a S
              refine st_y S rfl rfl rfl (y_pickT S rfl rfl) ?_; clear S a; intro a S
              refine st_y S rfl rfl rfl (y_move S rfl) ?_; clear S a; intro a S
              refine st_split (t := 62) S rfl ?_ ?_
              · clear S; intro h62 S
                first | replace h62 := nrmA h62 | replace h62 := nrmB h62 | skip
                first | replace h62 := nrm1 h62 | replace h62 := nrm2 h62 | replace h62 := nrm3 h62 | replace h62 := nrm4 h62 | replace h62 := nrm5 h62 | replace h62 := nrm6 h62 | replace h62 := of_decide_eq_true h62 | replace h62 := of_decide_eq_false h62 | skip
                refine st_y S rfl rfl rfl (y_move S rfl) ?_; clear S a; intro a S
                refine st_y S rfl rfl rfl (y_lenR (E := 5) S rfl ((M.readRow 0 rfl (by rw [wk_out]; simp [wk0, maxLen]))) (by kernel_rfl)) ?_; clear S a; intro a S
                refine st_y S rfl rfl rfl (y_int S rfl rfl rfl) ?_; clear S a; intro a S
                refine st_y S rfl rfl rfl (y_pickT S rfl rfl) ?_; clear S a; intro a S
                refine st_y S rfl rfl rfl (y_move S rfl) ?_; clear S a; intro a S
                refine st_split (t := 67) S rfl ?_ ?_
                · clear S; intro h67 S
                  first | replace h67 := nrmA h67 | replace h67 := nrmB h67 | skip
                  first | replace h67 := nrm1 h67 | replace h67 := nrm2 h67 | replace h67 := nrm3 h67 | replace h67 := nrm4 h67 | replace h67 := nrm5 h67 | replace h67 := nrm6 h67 | replace h67 := of_decide_eq_true h67 | replace h67 := of_decide_eq_false h67 | skip
                  refine st_y S rfl rfl rfl (y_move S rfl) ?_; clear S a; intro a S
                  refine st_y S rfl rfl rfl (y_int S rfl rfl rfl) ?_; clear S a; intro a S
                  refine st_y S rfl rfl rfl (y_pickT S rfl rfl) ?_; clear S a; intro a S
                  refine st_y S rfl rfl rfl (y_assign S rfl) ?_; clear S a; intro a S
                  refine wpList_nil ?_
                  replace S := S.sub [(1, _), (2, _), (18, _), (3, _), (4, _), (6, _), (0, _)] rfl
                  refine then_normal ?_
                  refine wp_ret ?_
                  refine end_one S rfl (res_tmp rfl) ?_
                  exact ⟨rfl, M.below⟩
                · clear S; intro h67 S
                  first | replace h67 := nrmA h67 | replace h67 := nrmB h67 | skip
                  first | replace h67 := nrm1 h67 | replace h67 := nrm2 h67 | replace h67 := nrm3 h67 | replace h67 := nrm4 h67 | replace h67 := nrm5 h67 | replace h67 := nrm6 h67 | replace h67 := of_decide_eq_true h67 | replace h67 := of_decide_eq_false h67 | skip
                  all_goals (simp [wk_out, wk0] at h67)
              · clear S; intro h62 S
                first | replace h62 := nrmA h62 | replace h62 := nrmB h62 | skip
                first | replace h62 := nrm1 h62 | replace h62 := nrm2 h62 | replace h62 := nrm3 h62 | replace h62 := nrm4 h62 | replace h62 := nrm5 h62 | replace h62 := nrm6 h62 | replace h62 := of_decide_eq_true h62 | replace h62 := of_decide_eq_false h62 | skip
                all_goals (simp at h62)
            · clear S; intro h58 S
              first | replace h58 := nrmA h58 | replace h58 := nrmB h58 | skip
              first | replace h58 := nrm1 h58 | replace h58 := nrm2 h58 | replace h58 := nrm3 h58 | replace h58 := nrm4 h58 | replace h58 := nrm5 h58 | replace h58 := nrm6 h58 | replace h58 := of_decide_eq_true h58 | replace h58 := of_decide_eq_false h58 | skip
              all_goals (simp at h58)
          · clear S; intro h51 S
            first | replace h51 := nrmA h51 | replace h51 := nrmB h51 | skip
            first | replace h51 := nrm1 h51 | replace h51 := nrm2 h51 | replace h51 := nrm3 h51 | replace h51 := nrm4 h51 | replace h51 := nrm5 h51 | replace h51 := nrm6 h51 | replace h51 := of_decide_eq_true h51 | replace h51 := of_decide_eq_false h51 | skip
            all_goals (simp at h51)
        · clear S; intro h44 S
          first | replace h44 := nrmA h44 | replace h44 := nrmB h44 | skip
          first | replace h44 := nrm1 h44 | replace h44 := nrm2 h44 | replace h44 := nrm3 h44 | replace h44 := nrm4 h44 | replace h44 := nrm5 h44 | replace h44 := nrm6 h44 | replace h44 := of_decide_eq_true h44 | replace h44 := of_decide_eq_false h44 | skip
          all_goals (simp at h44)
      · clear S; intro h36 S
        first | replace h36 := nrmA h36 | replace h36 := nrmB h36 | skip
        first | replace h36 := nrm1 h36 | replace h36 := nrm2 h36 | replace h36 := nrm3 h36 | replace h36 := nrm4 h36 | replace h36 := nrm5 h36 | replace h36 := nrm6 h36 | replace h36 := of_decide_eq_true h36 | replace h36 := of_decide_eq_false h36 | skip
        all_goals (simp at h36)

end Go.Proofs.Ytdkdplahikoicaa
