/-
  FrameBytes.
-/
import Derived.Test.YtdkdplahikoicaaRef4C
import Derived.Test.YtdkdplahikoicaaL4A
namespace Go.Proofs.Ytdkdplahikoicaa
open Go.RowKit Go.Sort

theorem great_any (f : Fr) (ad : Option Addr) (l c : Nat) (w : World) : Calls Try.prog 12 #[.agg (f.cells (.slice ad l c)).toArray] w fun e w' => e = .returned (.bool (decide ((1000 : Int) < (l : Int)))) ∧ Below w.heap.size w w' := by
  have M := Mem.start w
  refine calls_enter Try.func12 rfl 7 rfl rfl ?_; intro a S
  refine wp_seq ?_
  -- region 0 law.go:22
  refine wp_region_lit ?_
  refine st_box S M rfl rfl rfl #[_, _, _, _, _, _] rfl ?_; clear S M a; intro a w1 b1 S M hB
  refine st_y S rfl rfl rfl (y_assign S rfl) ?_; clear S a; intro a S
  refine wpList_nil ?_
  replace S := S.sub [(0, _), (1, _), (2, _)] rfl
  refine then_normal ?_
  refine wp_seq ?_
  -- region 1 law.go:22
  refine wp_region_lit ?_
  refine st_y S rfl rfl rfl (y_fieldAddr (k := 5) S (by kernel_rfl) rfl) ?_; clear S a; intro a S
  refine st_y S rfl rfl rfl (y_load S (by kernel_rfl) rfl (M.cell 0 rfl rfl)) ?_; clear S a; intro a S
  refine st_y S rfl rfl rfl (y_lenS (E := 5) S rfl (by kernel_rfl)) ?_; clear S a; intro a S
  refine st_y S rfl rfl rfl (y_int S rfl rfl rfl) ?_; clear S a; intro a S
  refine st_y S rfl rfl rfl (y_assign S rfl) ?_; clear S a; intro a S
  refine wpList_nil ?_
  replace S := S.sub [(0, _), (1, _), (2, _)] rfl
  refine then_normal ?_
  refine wp_ret ?_
  refine end_one S rfl (res_tmp rfl) ?_
  exact ⟨rfl, M.below⟩

noncomputable def rdF (bs : List UInt8) : Fr := match readF bs with | some x => x.1 | none => zeroFr
noncomputable def rdL (bs : List UInt8) : List UInt8 := match readF bs with | some x => x.2 | none => []
noncomputable def rdE (bs : List UInt8) : Int := match readF bs with | some _ => 0 | none => 40
theorem ldIn_le (x : List UInt8) : (ldIn x).length ≤ 255 := by
  have := getN_bd1 x 10; have := getN_bd x 10 1 (by omega)
  simp only [ldIn, List.length_take]; omega
theorem rdL_le (bs : List UInt8) : (rdL bs).length ≤ 255 := by
  unfold rdL readF
  split
  · rename_i x h
    split at h
    · cases h; exact ldIn_le _
    · cases h
  · exact Nat.zero_le _
/-- Read's answer, in one form -/
theorem read_uni {bs : List UInt8} {w0 w w' : World} {H : List Ent} {e : Ending} (M : Mem w0 w H) (h : ReadPost bs w e w') :
    ∃ (ad : Option Addr) (cap lo hi : Nat), e = .returned (.tuple #[.agg ((rdF bs).cells (.slice ad (rdL bs).length cap)).toArray, .int .i64 (rdE bs)]) ∧ Below w.heap.size w w' ∧ Mem w0 w' (rowE lo hi 5 1 (.slice ad (rdL bs).length cap) (rdL bs).length (bcells (rdL bs)) :: H) := by
  obtain ⟨f, lv, E, rfl, hb, h1, h2⟩ := h
  have hle := rdL_le bs
  unfold rdL rdF rdE at *
  cases hR : readF bs with
  | none =>
    rw [hR] at hle
    obtain ⟨rfl, rfl, rfl⟩ := h2 hR
    exact ⟨none, 0, _, _, rfl, hb, (M.grow hb).rowNil 5 1⟩
  | some x =>
    rw [hR] at hle
    replace hle : x.2.length ≤ 255 := hle
    obtain ⟨rfl, rfl, hF⟩ := h1 x.1 x.2 hR
    obtain ⟨lo, hi, -, M⟩ := M.pushFresh hF
    obtain ⟨ad, cap, rfl, -, -⟩ := (hF.rd (by unfold maxLen; omega)).form
    exact ⟨ad, cap, lo, hi, rfl, hb, M⟩
/-- Bytes' answer, in one form -/
theorem bytes_uni {f : Fr} {ld : List UInt8} {w0 w w' : World} {H : List Ent} {e : Ending} (M : Mem w0 w H) (h : BytesPost f ld w e w') :
    ∃ (v : Value) (lo hi : Nat), e = .returned (.tuple #[v, .int .i64 (if f.may ld.length then 0 else 2)]) ∧ Below w.heap.size w w' ∧ Mem w0 w' (rowE lo hi 5 1 v (ifL (f.may ld.length = true) (bytesF f ld)).length (bcells (ifL (f.may ld.length = true) (bytesF f ld))) :: H) := by
  obtain ⟨v', rfl, hb, h1, h2⟩ := h
  obtain ⟨lo, hi, -, M⟩ := M.pushFresh (fresh_if hb h1 (fun h => h2 (by simpa using h)))
  exact ⟨v', lo, hi, rfl, hb, M⟩
theorem ifL_bytesF (f : Fr) (ld : List UInt8) : (ifL (f.may ld.length = true) (bytesF f ld)).length ≤ 64 := by
  by_cases h : f.may ld.length = true
  · rw [ifL_pos h, bytesF_length h]; exact Nat.le_refl _
  · rw [ifL_neg h]; exact Nat.zero_le _

set_option maxHeartbeats 2000000 in
theorem bytesLaw_any (f g : Fr) (fv gv v : Value) (fl gl bs : List UInt8) (w : World) (hf : Bs 0 w.heap.size w fv fl) (hg : Bs 0 w.heap.size w gv gl) (hv : Bs 0 w.heap.size w v bs) :
    Calls Try.prog 5 #[.agg (f.cells fv).toArray, .agg (g.cells gv).toArray, v] w fun e w' => e = .returned (.bool true) ∧ Below w.heap.size w w' := by
  obtain ⟨adF, cpF, rfl, -, -⟩ := hf.form
  obtain ⟨adG, cpG, rfl, -, -⟩ := hg.form
  have M := Mem.start w
  have hz := ifL_bytesF f fl
  have hz2 := rdL_le bs
  refine calls_enter Try.func5 rfl 86 rfl rfl ?_; intro a S
  refine wp_seq ?_
  -- region 0 law.go:25
  refine wp_region_lit ?_
  refine st_box S M rfl rfl rfl #[_, _, _, _, _, _] rfl ?_; clear S M a; intro a w1 b1 S M hB
  refine st_box S M rfl rfl rfl #[_, _, _, _, _, _] rfl ?_; clear S M a; intro a w2 b2 S M hB
  refine st_y S rfl rfl rfl (y_assign S rfl) ?_; clear S a; intro a S
  refine wpList_nil ?_
  replace S := S.sub [(0, _), (1, _), (2, _), (3, _), (4, _), (6, _)] rfl
  refine then_normal ?_
  refine wp_seq ?_
  refine wp_seq ?_
  -- region 1 law.go:26
  refine wp_region_lit ?_
  refine st_y S rfl rfl rfl (y_loadAgg (cs := [_, _, _, _, _, _]) S (by kernel_rfl) rfl rfl (M.cellsAt (k := 6) 1 rfl rfl)) ?_; clear S a; intro a S
  refine st_call (xs := [(Operand.tmp 15)]) S (enters_of Try.func12 (by decide) rfl) rfl rfl rfl (great_any f adF fl.length cpF _) ?_
  rintro _ w3 ⟨rfl, hK⟩; refine ⟨_, rfl, ?_⟩; clear S a; intro a S; replace M := M.grow hK
  refine st_y S rfl rfl rfl (y_move S rfl) ?_; clear S a; intro a S
  refine st_split (t := 17) S rfl ?_ ?_
  · clear S; intro h17 S
    first | replace h17 := nrmA h17 | replace h17 := nrmB h17 | skip
    first | replace h17 := nrm1 h17 | replace h17 := nrm2 h17 | replace h17 := nrm3 h17 | replace h17 := nrm4 h17 | replace h17 := nrm5 h17 | replace h17 := nrm6 h17 | replace h17 := of_decide_eq_true h17 | replace h17 := of_decide_eq_false h17 | skip
    refine st_no S rfl rfl rfl ?_; clear S a; intro a S
    refine st_no S rfl rfl rfl ?_; clear S a; intro a S
    refine st_y S rfl rfl rfl (y_pickT S rfl rfl) ?_; clear S a; intro a S
    refine st_y S rfl rfl rfl (y_move S rfl) ?_; clear S a; intro a S
    refine st_no S rfl rfl rfl ?_; clear S a; intro a S
    refine st_no S rfl rfl rfl ?_; clear S a; intro a S
    refine st_no S rfl rfl rfl ?_; clear S a; intro a S
    refine st_y S rfl rfl rfl (y_pickT S rfl rfl) ?_; clear S a; intro a S
    refine wpList_nil ?_
    replace S := S.sub [(0, _), (1, _), (2, _), (3, _), (4, _), (6, _), (25, _)] rfl
    refine then_normal ?_
    refine st_condT S rfl ?_
    refine wp_seq ?_
    -- region 2 law.go:27
    refine wp_region_lit ?_
    refine st_call (xs := []) S (enters_of Try.func7 (by decide) rfl) rfl rfl rfl (wakes04 _) ?_
    rintro _ w4 ⟨rfl, hK⟩; refine ⟨_, rfl, ?_⟩; clear S a; intro a S; replace M := M.grow hK
    refine st_y S rfl rfl rfl (y_assign S rfl) ?_; clear S a; intro a S
    refine wpList_nil ?_
    replace S := S.sub [(0, _), (1, _), (2, _), (3, _), (4, _), (25, _), (6, _)] rfl
    refine then_normal ?_
    refine wp_ret ?_
    refine then_ret ?_
    refine end_one S rfl (res_tmp rfl) ?_
    exact ⟨rfl, M.below⟩
  · clear S; intro h17 S
    first | replace h17 := nrmA h17 | replace h17 := nrmB h17 | skip
    first | replace h17 := nrm1 h17 | replace h17 := nrm2 h17 | replace h17 := nrm3 h17 | replace h17 := nrm4 h17 | replace h17 := nrm5 h17 | replace h17 := nrm6 h17 | replace h17 := of_decide_eq_true h17 | replace h17 := of_decide_eq_false h17 | skip
    refine st_y S rfl rfl rfl (y_loadAgg (cs := [_, _, _, _, _, _]) S (by kernel_rfl) rfl rfl (M.cellsAt (k := 6) 0 rfl rfl)) ?_; clear S a; intro a S
    refine st_call (xs := [(Operand.tmp 18)]) S (enters_of Try.func12 (by decide) rfl) rfl rfl rfl (great_any g adG gl.length cpG _) ?_
    rintro _ w5 ⟨rfl, hK⟩; refine ⟨_, rfl, ?_⟩; clear S a; intro a S; replace M := M.grow hK
    refine st_y S rfl rfl rfl (y_pickF S rfl rfl) ?_; clear S a; intro a S
    refine st_y S rfl rfl rfl (y_move S rfl) ?_; clear S a; intro a S
    refine st_split (t := 21) S rfl ?_ ?_
    · clear S; intro h21 S
      first | replace h21 := nrmA h21 | replace h21 := nrmB h21 | skip
      first | replace h21 := nrm1 h21 | replace h21 := nrm2 h21 | replace h21 := nrm3 h21 | replace h21 := nrm4 h21 | replace h21 := nrm5 h21 | replace h21 := nrm6 h21 | replace h21 := of_decide_eq_true h21 | replace h21 := of_decide_eq_false h21 | skip
      refine st_no S rfl rfl rfl ?_; clear S a; intro a S
      refine st_no S rfl rfl rfl ?_; clear S a; intro a S
      refine st_no S rfl rfl rfl ?_; clear S a; intro a S
      refine st_y S rfl rfl rfl (y_pickT S rfl rfl) ?_; clear S a; intro a S
      refine wpList_nil ?_
      replace S := S.sub [(0, _), (1, _), (2, _), (3, _), (4, _), (6, _), (25, _)] rfl
      refine then_normal ?_
      refine st_condT S rfl ?_
      refine wp_seq ?_
      -- region 2 law.go:27
      refine wp_region_lit ?_
      refine st_call (xs := []) S (enters_of Try.func7 (by decide) rfl) rfl rfl rfl (wakes04 _) ?_
      rintro _ w6 ⟨rfl, hK⟩; refine ⟨_, rfl, ?_⟩; clear S a; intro a S; replace M := M.grow hK
      refine st_y S rfl rfl rfl (y_assign S rfl) ?_; clear S a; intro a S
      refine wpList_nil ?_
      replace S := S.sub [(0, _), (1, _), (2, _), (3, _), (4, _), (25, _), (6, _)] rfl
      refine then_normal ?_
      refine wp_ret ?_
      refine then_ret ?_
      refine end_one S rfl (res_tmp rfl) ?_
      exact ⟨rfl, M.below⟩
    · clear S; intro h21 S
      first | replace h21 := nrmA h21 | replace h21 := nrmB h21 | skip
      first | replace h21 := nrm1 h21 | replace h21 := nrm2 h21 | replace h21 := nrm3 h21 | replace h21 := nrm4 h21 | replace h21 := nrm5 h21 | replace h21 := nrm6 h21 | replace h21 := of_decide_eq_true h21 | replace h21 := of_decide_eq_false h21 | skip
      refine st_y S rfl rfl rfl (y_move S rfl) ?_; clear S a; intro a S
      refine st_y S rfl rfl rfl (y_lenR (E := 5) S rfl (M.arg hv) (by kernel_rfl)) ?_; clear S a; intro a S
      refine st_y S rfl rfl rfl (y_int S rfl rfl rfl) ?_; clear S a; intro a S
      refine st_y S rfl rfl rfl (y_pickF S rfl rfl) ?_; clear S a; intro a S
      refine wpList_nil ?_
      replace S := S.sub [(0, _), (1, _), (2, _), (3, _), (4, _), (6, _), (25, _)] rfl
      refine then_normal ?_
      refine st_split (t := 25) S rfl ?_ ?_
      · clear S; intro h25 S
        first | replace h25 := nrmA h25 | replace h25 := nrmB h25 | skip
        first | replace h25 := nrm1 h25 | replace h25 := nrm2 h25 | replace h25 := nrm3 h25 | replace h25 := nrm4 h25 | replace h25 := nrm5 h25 | replace h25 := nrm6 h25 | replace h25 := of_decide_eq_true h25 | replace h25 := of_decide_eq_false h25 | skip
        refine st_condT S rfl ?_
        refine wp_seq ?_
        -- region 2 law.go:27
        refine wp_region_lit ?_
        refine st_call (xs := []) S (enters_of Try.func7 (by decide) rfl) rfl rfl rfl (wakes04 _) ?_
        rintro _ w7 ⟨rfl, hK⟩; refine ⟨_, rfl, ?_⟩; clear S a; intro a S; replace M := M.grow hK
        refine st_y S rfl rfl rfl (y_assign S rfl) ?_; clear S a; intro a S
        refine wpList_nil ?_
        replace S := S.sub [(0, _), (1, _), (2, _), (3, _), (4, _), (25, _), (6, _)] rfl
        refine then_normal ?_
        refine wp_ret ?_
        refine then_ret ?_
        refine end_one S rfl (res_tmp rfl) ?_
        exact ⟨rfl, M.below⟩
      · clear S; intro h25 S
        first | replace h25 := nrmA h25 | replace h25 := nrmB h25 | skip
        first | replace h25 := nrm1 h25 | replace h25 := nrm2 h25 | replace h25 := nrm3 h25 | replace h25 := nrm4 h25 | replace h25 := nrm5 h25 | replace h25 := nrm6 h25 | replace h25 := of_decide_eq_true h25 | replace h25 := of_decide_eq_false h25 | skip
        refine st_condF S rfl ?_
        refine wp_skip ?_
        refine then_normal ?_
        refine wp_seq ?_
        -- region 3 law.go:29
        refine wp_region_lit ?_
        refine st_y S rfl rfl rfl (y_loadAgg (cs := [_, _, _, _, _, _]) S (by kernel_rfl) rfl rfl (M.cellsAt (k := 6) 1 rfl rfl)) ?_; clear S a; intro a S
        refine st_call (xs := [(Operand.tmp 28)]) S (enters_of Try.func13 (by decide) rfl) rfl rfl rfl (bytes_any f _ fl _ (M.argW hf)) ?_
        rintro e w8 hP
        obtain ⟨v1, lo1, hi1, rfl, hK, M1⟩ := bytes_uni M hP
        refine ⟨_, rfl, ?_⟩; clear S a M; intro a S
        have M := M1
        clear M1 hP
        refine st_y S rfl rfl rfl (y_move S rfl) ?_; clear S a; intro a S
        refine st_y S rfl rfl rfl (y_extract S rfl rfl) ?_; clear S a; intro a S
        refine st_y S rfl rfl rfl (y_extract S rfl rfl) ?_; clear S a; intro a S
        refine st_y S rfl rfl rfl (y_assign S rfl) ?_; clear S a; intro a S
        refine st_y S rfl rfl rfl (y_assign S rfl) ?_; clear S a; intro a S
        refine wpList_nil ?_
        replace S := S.sub [(0, _), (1, _), (2, _), (3, _), (4, _), (6, _), (25, _), (7, _), (8, _)] rfl
        refine then_normal ?_
        refine wp_seq ?_
        -- region 4 law.go:30
        refine wp_region_lit ?_
        refine st_y S rfl rfl rfl (y_loadAgg (cs := [_, _, _, _, _, _]) S (by kernel_rfl) rfl rfl (M.cellsAt (k := 6) 2 rfl rfl)) ?_; clear S a; intro a S
        refine st_call (xs := [(Operand.tmp 33)]) S (enters_of Try.func14 (by decide) rfl) rfl rfl rfl (refBytes_any f _ fl _ (M.argW hf)) ?_
        rintro e w9 hP
        obtain ⟨v2, lo2, hi2, rfl, hK, M1⟩ := bytes_uni M hP
        refine ⟨_, rfl, ?_⟩; clear S a M; intro a S
        have M := M1
        clear M1 hP
        refine st_y S rfl rfl rfl (y_move S rfl) ?_; clear S a; intro a S
        refine st_y S rfl rfl rfl (y_extract S rfl rfl) ?_; clear S a; intro a S
        refine st_y S rfl rfl rfl (y_extract S rfl rfl) ?_; clear S a; intro a S
        refine st_y S rfl rfl rfl (y_assign S rfl) ?_; clear S a; intro a S
        refine st_y S rfl rfl rfl (y_assign S rfl) ?_; clear S a; intro a S
        refine wpList_nil ?_
        replace S := S.sub [(0, _), (1, _), (2, _), (3, _), (4, _), (6, _), (25, _), (7, _), (8, _), (9, _), (10, _)] rfl
        refine then_normal ?_
        refine wp_seq ?_
        -- region 5 law.go:31
        refine wp_region_lit ?_
        refine st_y S rfl rfl rfl (y_move S rfl) ?_; clear S a; intro a S
        refine st_call (xs := [(Operand.tmp 38)]) S (enters_of Try.func15 (by decide) rfl) rfl rfl rfl (read_any v bs _ (M.argW hv) (by omega)) ?_
        rintro e w10 hP
        obtain ⟨ad3, cp3, lo3, hi3, rfl, hK, M1⟩ := read_uni M hP
        refine ⟨_, rfl, ?_⟩; clear S a M; intro a S
        have M := M1
        clear M1 hP
        refine st_y S rfl rfl rfl (y_move S rfl) ?_; clear S a; intro a S
        refine st_y S rfl rfl rfl (y_extract S rfl rfl) ?_; clear S a; intro a S
        refine st_y S rfl rfl rfl (y_extract S rfl rfl) ?_; clear S a; intro a S
        refine st_alloc S M rfl rfl #[.int .i64 0, .int .i64 0, .int .i64 0, .int .i64 0, .int .u32 0, .slice none 0 0] (by kernel_rfl) ?_; clear S M a; intro a w11 b3 S M hB
        refine st_store (sz := 6) (us := [_, _, _, _, _, _]) S M 0 rfl (by kernel_rfl) rfl rfl rfl rfl rfl rfl (by first | decide | (simp; done) | (simp; omega)) ?_; clear M; intro w12 M
        simp only [putL, List.set_cons_zero, List.set_cons_succ, Nat.reduceAdd] at M
        refine st_y S rfl rfl rfl (y_assign S rfl) ?_; clear S a; intro a S
        refine wpList_nil ?_
        replace S := S.sub [(0, _), (1, _), (2, _), (3, _), (4, _), (6, _), (25, _), (7, _), (8, _), (9, _), (10, _), (11, _), (12, _)] rfl
        refine then_normal ?_
        refine wp_seq ?_
        -- region 6 law.go:32
        refine wp_region_lit ?_
        refine st_y S rfl rfl rfl (y_move S rfl) ?_; clear S a; intro a S
        refine st_call (xs := [(Operand.tmp 43)]) S (enters_of Try.func16 (by decide) rfl) rfl rfl rfl (refRead_any v bs _ (M.argW hv) (by omega)) ?_
        rintro e w13 hP
        obtain ⟨ad4, cp4, lo4, hi4, rfl, hK, M1⟩ := read_uni M hP
        refine ⟨_, rfl, ?_⟩; clear S a M; intro a S
        have M := M1
        clear M1 hP
        refine st_y S rfl rfl rfl (y_move S rfl) ?_; clear S a; intro a S
        refine st_y S rfl rfl rfl (y_extract S rfl rfl) ?_; clear S a; intro a S
        refine st_y S rfl rfl rfl (y_extract S rfl rfl) ?_; clear S a; intro a S
        refine st_alloc S M rfl rfl #[.int .i64 0, .int .i64 0, .int .i64 0, .int .i64 0, .int .u32 0, .slice none 0 0] (by kernel_rfl) ?_; clear S M a; intro a w14 b4 S M hB
        refine st_store (sz := 6) (us := [_, _, _, _, _, _]) S M 0 rfl (by kernel_rfl) rfl rfl rfl rfl rfl rfl (by first | decide | (simp; done) | (simp; omega)) ?_; clear M; intro w15 M
        simp only [putL, List.set_cons_zero, List.set_cons_succ, Nat.reduceAdd] at M
        refine st_y S rfl rfl rfl (y_assign S rfl) ?_; clear S a; intro a S
        refine wpList_nil ?_
        replace S := S.sub [(0, _), (1, _), (2, _), (3, _), (4, _), (6, _), (25, _), (7, _), (8, _), (9, _), (10, _), (11, _), (12, _), (13, _), (14, _)] rfl
        refine then_normal ?_
        refine wp_seq ?_
        -- region 7 law.go:33
        refine wp_regionK [] #[false, false, false, false, false, false, false, false, false, false, false, false, false, false, false, false, false, false, false, false, false, false, false, false, false, false, false, false, false, false, false, false, false, false, false, false, false, false, false, false] rfl M (by kernel_rfl) ?_; clear M; intro w16 M
        refine k_read (listed' := #[true, false, false, false, false, false, false, false, false, false, false, false, false, false, false, false, false, false, false, false, false, false, false, false, false, false, false, false, false, false, false, false, false, false, false, false, false, false, false, false]) 0 S rfl rfl rfl rfl (by kernel_rfl) rfl (fun _ d _ _ _ h => by cases d <;> exact h) (fun w hW => have M := M.grow hW; y_move S rfl) ?_; clear S a; intro a S
        refine k_read (listed' := #[true, true, false, false, false, false, false, false, false, false, false, false, false, false, false, false, false, false, false, false, false, false, false, false, false, false, false, false, false, false, false, false, false, false, false, false, false, false, false, false]) 1 S rfl rfl rfl rfl (by kernel_rfl) rfl (fun _ d _ _ _ h => by cases d <;> exact h) (fun w hW => have M := M.grow hW; y_bytesStr (e := 5) S rfl (by kernel_rfl) (by kernel_rfl) (by kernel_rfl) (M.readRow 5 rfl (by unfold maxLen; omega))) ?_; clear S a; intro a S
        refine k_read (listed' := #[true, true, true, false, false, false, false, false, false, false, false, false, false, false, false, false, false, false, false, false, false, false, false, false, false, false, false, false, false, false, false, false, false, false, false, false, false, false, false, false]) 2 S rfl rfl rfl rfl (by kernel_rfl) rfl (fun _ d _ _ _ h => by cases d <;> exact h) (fun w hW => have M := M.grow hW; y_move S rfl) ?_; clear S a; intro a S
        refine k_read (listed' := #[true, true, true, true, false, false, false, false, false, false, false, false, false, false, false, false, false, false, false, false, false, false, false, false, false, false, false, false, false, false, false, false, false, false, false, false, false, false, false, false]) 3 S rfl rfl rfl rfl (by kernel_rfl) rfl (fun _ d _ _ _ h => by cases d <;> exact h) (fun w hW => have M := M.grow hW; y_bytesStr (e := 5) S rfl (by kernel_rfl) (by kernel_rfl) (by kernel_rfl) (M.readRow 4 rfl (by unfold maxLen; omega))) ?_; clear S a; intro a S
        refine k_read (listed' := #[true, true, true, true, true, false, false, false, false, false, false, false, false, false, false, false, false, false, false, false, false, false, false, false, false, false, false, false, false, false, false, false, false, false, false, false, false, false, false, false]) 4 S rfl rfl rfl rfl (by kernel_rfl) rfl (fun _ d _ _ _ h => by cases d <;> exact h) (fun w hW => have M := M.grow hW; y_eqlStr S rfl rfl) ?_; clear S a; intro a S
        refine k_read (listed' := #[true, true, true, true, true, true, false, false, false, false, false, false, false, false, false, false, false, false, false, false, false, false, false, false, false, false, false, false, false, false, false, false, false, false, false, false, false, false, false, false]) 5 S rfl rfl rfl rfl (by kernel_rfl) rfl (fun _ d _ _ _ h => by cases d <;> exact h) (fun w hW => have M := M.grow hW; y_move S rfl) ?_; clear S a; intro a S
        refine st_split (t := 52) S rfl ?_ ?_
        · clear S; intro h52 S
          refine k_read (listed' := #[true, true, true, true, true, true, true, false, false, false, false, false, false, false, false, false, false, false, false, false, false, false, false, false, false, false, false, false, false, false, false, false, false, false, false, false, false, false, false, false]) 6 S rfl rfl rfl rfl (by kernel_rfl) rfl (fun _ d _ _ _ h => by cases d <;> exact h) (fun w hW => have M := M.grow hW; y_move S rfl) ?_; clear S a; intro a S
          refine k_read (listed' := #[true, true, true, true, true, true, true, true, false, false, false, false, false, false, false, false, false, false, false, false, false, false, false, false, false, false, false, false, false, false, false, false, false, false, false, false, false, false, false, false]) 7 S rfl rfl rfl rfl (by kernel_rfl) rfl (fun _ d _ _ _ h => by cases d <;> exact h) (fun w hW => have M := M.grow hW; y_move S rfl) ?_; clear S a; intro a S
          refine k_read (listed' := #[true, true, true, true, true, true, true, true, true, false, false, false, false, false, false, false, false, false, false, false, false, false, false, false, false, false, false, false, false, false, false, false, false, false, false, false, false, false, false, false]) 8 S rfl rfl rfl rfl (by kernel_rfl) rfl (fun _ d _ _ _ h => by cases d <;> exact h) (fun w hW => have M := M.grow hW; y_int S rfl rfl rfl) ?_; clear S a; intro a S
          refine k_read (listed' := #[true, true, true, true, true, true, true, true, true, true, false, false, false, false, false, false, false, false, false, false, false, false, false, false, false, false, false, false, false, false, false, false, false, false, false, false, false, false, false, false]) 9 S rfl rfl rfl rfl (by kernel_rfl) rfl (fun _ d _ _ _ h => by cases d <;> exact h) (fun w hW => have M := M.grow hW; y_pickT S rfl rfl) ?_; clear S a; intro a S
          refine k_read (listed' := #[true, true, true, true, true, true, true, true, true, true, true, false, false, false, false, false, false, false, false, false, false, false, false, false, false, false, false, false, false, false, false, false, false, false, false, false, false, false, false, false]) 10 S rfl rfl rfl rfl (by kernel_rfl) rfl (fun _ d _ _ _ h => by cases d <;> exact h) (fun w hW => have M := M.grow hW; y_move S rfl) ?_; clear S a; intro a S
          refine st_split (t := 57) S rfl ?_ ?_
          · clear S; intro h57 S
            refine k_read (listed' := #[true, true, true, true, true, true, true, true, true, true, true, true, false, false, false, false, false, false, false, false, false, false, false, false, false, false, false, false, false, false, false, false, false, false, false, false, false, false, false, false]) 11 S rfl rfl rfl rfl (by kernel_rfl) rfl (fun _ d _ _ _ h => by cases d <;> exact h) (fun w hW => have M := M.grow hW; y_loadAgg (cs := [_, _, _, _, _, _]) S (by kernel_rfl) rfl rfl (M.cellsAt (k := 6) 2 rfl rfl)) ?_; clear S a; intro a S
            refine k_read (listed' := #[true, true, true, true, true, true, true, true, true, true, true, true, true, false, false, false, false, false, false, false, false, false, false, false, false, false, false, false, false, false, false, false, false, false, false, false, false, false, false, false]) 12 S rfl rfl rfl rfl (by kernel_rfl) rfl (fun _ d _ _ _ h => by cases d <;> exact h) (fun w hW => have M := M.grow hW; y_loadAgg (cs := [_, _, _, _, _, _]) S (by kernel_rfl) rfl rfl (M.cellsAt (k := 6) 0 rfl rfl)) ?_; clear S a; intro a S
            refine k_one (listed' := #[true, true, true, true, true, true, true, true, true, true, true, true, true, true, false, false, false, false, false, false, false, false, false, false, false, false, false, false, false, false, false, false, false, false, false, false, false, false, false, false]) 13 rfl (by kernel_rfl) rfl ?_
            refine st_call (xs := [(Operand.tmp 58), (Operand.tmp 59)]) S (enters_of Try.func17 (by decide) rfl) rfl rfl rfl (refSameF_any (rdF bs) (rdF bs) _ _ (rdL bs) (rdL bs) _ (M.wide (k := 3) rfl (by unfold maxLen; omega)) (M.wide (k := 1) rfl (by unfold maxLen; omega))) ?_
            rintro _ w17 ⟨rfl, hK⟩; refine ⟨_, rfl, ?_⟩; clear S a; intro a S; replace M := M.grow hK
            refine wpList_nil ?_; refine then_normal ?_; refine ⟨fun _ => hK, ?_⟩
            refine k_read (listed' := #[true, true, true, true, true, true, true, true, true, true, true, true, true, true, true, false, false, false, false, false, false, false, false, false, false, false, false, false, false, false, false, false, false, false, false, false, false, false, false, false]) 14 S rfl rfl rfl rfl (by kernel_rfl) rfl (fun _ d _ _ _ h => by cases d <;> exact h) (fun w hW => have M := M.grow hW; y_pickT S rfl rfl) ?_; clear S a; intro a S
            refine k_read (listed' := #[true, true, true, true, true, true, true, true, true, true, true, true, true, true, true, true, false, false, false, false, false, false, false, false, false, false, false, false, false, false, false, false, false, false, false, false, false, false, false, false]) 15 S rfl rfl rfl rfl (by kernel_rfl) rfl (fun _ d _ _ _ h => by cases d <;> exact h) (fun w hW => have M := M.grow hW; y_move S rfl) ?_; clear S a; intro a S
            refine st_split (t := 62) S rfl ?_ ?_
            · clear S; intro h62 S
              refine k_read (listed' := #[true, true, true, true, true, true, true, true, true, true, true, true, true, true, true, true, true, false, false, false, false, false, false, false, false, false, false, false, false, false, false, false, false, false, false, false, false, false, false, false]) 16 S rfl rfl rfl rfl (by kernel_rfl) rfl (fun _ d _ _ _ h => by cases d <;> exact h) (fun w hW => have M := M.grow hW; y_move S rfl) ?_; clear S a; intro a S
              refine k_read (listed' := #[true, true, true, true, true, true, true, true, true, true, true, true, true, true, true, true, true, true, false, false, false, false, false, false, false, false, false, false, false, false, false, false, false, false, false, false, false, false, false, false]) 17 S rfl rfl rfl rfl (by kernel_rfl) rfl (fun _ d _ _ _ h => by cases d <;> exact h) (fun w hW => have M := M.grow hW; y_move S rfl) ?_; clear S a; intro a S
              refine k_read (listed' := #[true, true, true, true, true, true, true, true, true, true, true, true, true, true, true, true, true, true, true, false, false, false, false, false, false, false, false, false, false, false, false, false, false, false, false, false, false, false, false, false]) 18 S rfl rfl rfl rfl (by kernel_rfl) rfl (fun _ d _ _ _ h => by cases d <;> exact h) (fun w hW => have M := M.grow hW; y_int S rfl rfl rfl) ?_; clear S a; intro a S
              refine k_read (listed' := #[true, true, true, true, true, true, true, true, true, true, true, true, true, true, true, true, true, true, true, true, false, false, false, false, false, false, false, false, false, false, false, false, false, false, false, false, false, false, false, false]) 19 S rfl rfl rfl rfl (by kernel_rfl) rfl (fun _ d _ _ _ h => by cases d <;> exact h) (fun w hW => have M := M.grow hW; y_pickT S rfl rfl) ?_; clear S a; intro a S
              refine k_read (listed' := #[true, true, true, true, true, true, true, true, true, true, true, true, true, true, true, true, true, true, true, true, true, false, false, false, false, false, false, false, false, false, false, false, false, false, false, false, false, false, false, false]) 20 S rfl rfl rfl rfl (by kernel_rfl) rfl (fun _ d _ _ _ h => by cases d <;> exact h) (fun w hW => have M := M.grow hW; y_move S rfl) ?_; clear S a; intro a S
              refine st_split (t := 67) S rfl ?_ ?_
              · clear S; intro h67 S
                refine k_read (listed' := #[true, true, true, true, true, true, true, true, true, true, true, true, true, true, true, true, true, true, true, true, true, true, false, false, false, false, false, false, false, false, false, false, false, false, false, false, false, false, false, false]) 21 S rfl rfl rfl rfl (by kernel_rfl) rfl (fun _ d _ _ _ h => by cases d <;> exact h) (fun w hW => have M := M.grow hW; y_loadAgg (cs := [_, _, _, _, _, _]) S (by kernel_rfl) rfl rfl (M.cellsAt (k := 6) 7 rfl rfl)) ?_; clear S a; intro a S
                refine k_read (listed' := #[true, true, true, true, true, true, true, true, true, true, true, true, true, true, true, true, true, true, true, true, true, true, false, true, false, false, false, false, false, false, false, false, false, false, false, false, false, false, false, false]) 23 S rfl rfl rfl rfl (by kernel_rfl) rfl (fun _ d _ _ _ h => by cases d <;> exact h) (fun w hW => have M := M.grow hW; y_loadAgg (cs := [_, _, _, _, _, _]) S (by kernel_rfl) rfl rfl (M.cellsAt (k := 6) 7 rfl rfl)) ?_; clear S a; intro a S
                refine k_one (listed' := #[true, true, true, true, true, true, true, true, true, true, true, true, true, true, true, true, true, true, true, true, true, true, true, true, false, false, false, false, false, false, false, false, false, false, false, false, false, false, false, false]) 22 rfl (by kernel_rfl) rfl ?_
                refine st_call (xs := [(Operand.tmp 68)]) S (enters_of Try.func11 (by decide) rfl) rfl rfl rfl (mayF_any f adF fl.length cpF _) ?_
                rintro _ w18 ⟨rfl, hK⟩; refine ⟨_, rfl, ?_⟩; clear S a; intro a S; replace M := M.grow hK
                refine wpList_nil ?_; refine then_normal ?_; refine ⟨fun _ => hK, ?_⟩
                refine k_one (listed' := #[true, true, true, true, true, true, true, true, true, true, true, true, true, true, true, true, true, true, true, true, true, true, true, true, true, false, false, false, false, false, false, false, false, false, false, false, false, false, false, false]) 24 rfl (by kernel_rfl) rfl ?_
                refine st_call (xs := [(Operand.tmp 70)]) S (enters_of Try.func18 (by decide) rfl) rfl rfl rfl (refMay_any f adF fl.length cpF _) ?_
                rintro _ w19 ⟨rfl, hK⟩; refine ⟨_, rfl, ?_⟩; clear S a; intro a S; replace M := M.grow hK
                refine wpList_nil ?_; refine then_normal ?_; refine ⟨fun _ => hK, ?_⟩
                refine k_read (listed' := #[true, true, true, true, true, true, true, true, true, true, true, true, true, true, true, true, true, true, true, true, true, true, true, true, true, true, false, false, false, false, false, false, false, false, false, false, false, false, false, false]) 25 S rfl rfl rfl rfl (by kernel_rfl) rfl (fun _ d _ _ _ h => by cases d <;> exact h) (fun w hW => have M := M.grow hW; y_eqlBool (by kernel_rfl) S rfl rfl) ?_; clear S a; intro a S
                refine k_read (listed' := #[true, true, true, true, true, true, true, true, true, true, true, true, true, true, true, true, true, true, true, true, true, true, true, true, true, true, true, false, false, false, false, false, false, false, false, false, false, false, false, false]) 26 S rfl rfl rfl rfl (by kernel_rfl) rfl (fun _ d _ _ _ h => by cases d <;> exact h) (fun w hW => have M := M.grow hW; y_pickT S rfl rfl) ?_; clear S a; intro a S
                refine k_read (listed' := #[true, true, true, true, true, true, true, true, true, true, true, true, true, true, true, true, true, true, true, true, true, true, true, true, true, true, true, true, false, false, false, false, false, false, false, false, false, false, false, false]) 27 S rfl rfl rfl rfl (by kernel_rfl) rfl (fun _ d _ _ _ h => by cases d <;> exact h) (fun w hW => have M := M.grow hW; y_move S rfl) ?_; clear S a; intro a S
                refine st_split (t := 74) S rfl ?_ ?_
                · clear S; intro h74 S
                  refine k_read (listed' := #[true, true, true, true, true, true, true, true, true, true, true, true, true, true, true, true, true, true, true, true, true, true, true, true, true, true, true, true, true, false, false, false, false, false, false, false, false, false, false, false]) 28 S rfl rfl rfl rfl (by kernel_rfl) rfl (fun _ d _ _ _ h => by cases d <;> exact h) (fun w hW => have M := M.grow hW; y_loadAgg (cs := [_, _, _, _, _, _]) S (by kernel_rfl) rfl rfl (M.cellsAt (k := 6) 7 rfl rfl)) ?_; clear S a; intro a S
                  refine k_read (listed' := #[true, true, true, true, true, true, true, true, true, true, true, true, true, true, true, true, true, true, true, true, true, true, true, true, true, true, true, true, true, true, false, false, false, false, false, false, false, false, false, false]) 29 S rfl rfl rfl rfl (by kernel_rfl) rfl (fun _ d _ _ _ h => by cases d <;> exact h) (fun w hW => have M := M.grow hW; y_loadAgg (cs := [_, _, _, _, _, _]) S (by kernel_rfl) rfl rfl (M.cellsAt (k := 6) 6 rfl rfl)) ?_; clear S a; intro a S
                  refine k_read (listed' := #[true, true, true, true, true, true, true, true, true, true, true, true, true, true, true, true, true, true, true, true, true, true, true, true, true, true, true, true, true, true, false, true, false, false, false, false, false, false, false, false]) 31 S rfl rfl rfl rfl (by kernel_rfl) rfl (fun _ d _ _ _ h => by cases d <;> exact h) (fun w hW => have M := M.grow hW; y_loadAgg (cs := [_, _, _, _, _, _]) S (by kernel_rfl) rfl rfl (M.cellsAt (k := 6) 7 rfl rfl)) ?_; clear S a; intro a S
                  refine k_read (listed' := #[true, true, true, true, true, true, true, true, true, true, true, true, true, true, true, true, true, true, true, true, true, true, true, true, true, true, true, true, true, true, false, true, true, false, false, false, false, false, false, false]) 32 S rfl rfl rfl rfl (by kernel_rfl) rfl (fun _ d _ _ _ h => by cases d <;> exact h) (fun w hW => have M := M.grow hW; y_loadAgg (cs := [_, _, _, _, _, _]) S (by kernel_rfl) rfl rfl (M.cellsAt (k := 6) 6 rfl rfl)) ?_; clear S a; intro a S
                  refine k_one (listed' := #[true, true, true, true, true, true, true, true, true, true, true, true, true, true, true, true, true, true, true, true, true, true, true, true, true, true, true, true, true, true, true, true, true, false, false, false, false, false, false, false]) 30 rfl (by kernel_rfl) rfl ?_
                  refine st_call (xs := [(Operand.tmp 75), (Operand.tmp 76)]) S (enters_of Try.func19 (by decide) rfl) rfl rfl rfl (sameF_any f g _ _ fl gl _ (M.argW hf) (M.argW hg)) ?_
                  rintro _ w20 ⟨rfl, hK⟩; refine ⟨_, rfl, ?_⟩; clear S a; intro a S; replace M := M.grow hK
                  refine wpList_nil ?_; refine then_normal ?_; refine ⟨fun _ => hK, ?_⟩
                  refine k_one (listed' := #[true, true, true, true, true, true, true, true, true, true, true, true, true, true, true, true, true, true, true, true, true, true, true, true, true, true, true, true, true, true, true, true, true, true, false, false, false, false, false, false]) 33 rfl (by kernel_rfl) rfl ?_
                  refine st_call (xs := [(Operand.tmp 78), (Operand.tmp 79)]) S (enters_of Try.func17 (by decide) rfl) rfl rfl rfl (refSameF_any f g _ _ fl gl _ (M.argW hf) (M.argW hg)) ?_
                  rintro _ w21 ⟨rfl, hK⟩; refine ⟨_, rfl, ?_⟩; clear S a; intro a S; replace M := M.grow hK
                  refine wpList_nil ?_; refine then_normal ?_; refine ⟨fun _ => hK, ?_⟩
                  refine k_read (listed' := #[true, true, true, true, true, true, true, true, true, true, true, true, true, true, true, true, true, true, true, true, true, true, true, true, true, true, true, true, true, true, true, true, true, true, true, false, false, false, false, false]) 34 S rfl rfl rfl rfl (by kernel_rfl) rfl (fun _ d _ _ _ h => by cases d <;> exact h) (fun w hW => have M := M.grow hW; y_eqlBool (by kernel_rfl) S rfl rfl) ?_; clear S a; intro a S
                  refine k_read (listed' := #[true, true, true, true, true, true, true, true, true, true, true, true, true, true, true, true, true, true, true, true, true, true, true, true, true, true, true, true, true, true, true, true, true, true, true, true, false, false, false, false]) 35 S rfl rfl rfl rfl (by kernel_rfl) rfl (fun _ d _ _ _ h => by cases d <;> exact h) (fun w hW => have M := M.grow hW; y_pickT S rfl rfl) ?_; clear S a; intro a S
                  refine k_read (listed' := #[true, true, true, true, true, true, true, true, true, true, true, true, true, true, true, true, true, true, true, true, true, true, true, true, true, true, true, true, true, true, true, true, true, true, true, true, true, false, false, false]) 36 S rfl rfl rfl rfl (by kernel_rfl) rfl (fun _ d _ _ _ h => by cases d <;> exact h) (fun w hW => have M := M.grow hW; y_move S rfl) ?_; clear S a; intro a S
                  refine st_split (t := 83) S rfl ?_ ?_
                  · clear S; intro h83 S
                    refine k_one (listed' := #[true, true, true, true, true, true, true, true, true, true, true, true, true, true, true, true, true, true, true, true, true, true, true, true, true, true, true, true, true, true, true, true, true, true, true, true, true, true, false, false]) 37 rfl (by kernel_rfl) rfl ?_
                    refine st_call (xs := []) S (enters_of Try.func7 (by decide) rfl) rfl rfl rfl (wakes04 _) ?_
                    rintro _ w22 ⟨rfl, hK⟩; refine ⟨_, rfl, ?_⟩; clear S a; intro a S; replace M := M.grow hK
                    refine wpList_nil ?_; refine then_normal ?_; refine ⟨fun _ => hK, ?_⟩
                    refine k_read (listed' := #[true, true, true, true, true, true, true, true, true, true, true, true, true, true, true, true, true, true, true, true, true, true, true, true, true, true, true, true, true, true, true, true, true, true, true, true, true, true, true, false]) 38 S rfl rfl rfl rfl (by kernel_rfl) rfl (fun _ d _ _ _ h => by cases d <;> exact h) (fun w hW => have M := M.grow hW; y_pickT S rfl rfl) ?_; clear S a; intro a S
                    refine k_read (listed' := #[true, true, true, true, true, true, true, true, true, true, true, true, true, true, true, true, true, true, true, true, true, true, true, true, true, true, true, true, true, true, true, true, true, true, true, true, true, true, true, true]) 39 S rfl rfl rfl rfl (by kernel_rfl) rfl (fun _ d _ _ _ h => by cases d <;> exact h) (fun w hW => have M := M.grow hW; y_assign S rfl) ?_; clear S a; intro a S
                    refine k_end (by kernel_rfl) ?_
                    replace S := S.sub [(0, _), (1, _), (2, _), (3, _), (4, _), (25, _), (7, _), (8, _), (9, _), (10, _), (11, _), (12, _), (13, _), (14, _), (6, _)] rfl
                    refine then_normal ?_
                    refine wp_ret ?_
                    refine end_one S rfl (res_tmp rfl) ?_
                    exact ⟨rfl, M.below⟩
                  · clear S; intro h83 S
                    simp at h83
                · clear S; intro h74 S
                  simp at h74
              · clear S; intro h67 S
                simp at h67
            · clear S; intro h62 S
              rw [Fr.same_iff.2 ⟨rfl, rfl⟩] at h62; cases h62
          · clear S; intro h57 S
            simp at h57
        · clear S; intro h52 S
          simp at h52

end Go.Proofs.Ytdkdplahikoicaa
