/-
  What JudgeNil rests on, part 7.
-/
import Derived.Test.YtdcgcgifgnaccaaGreatP6
namespace Go.Proofs.YtdcgcgifgnaccaaGreat
open Go.RowKit Go.Sort
def StepO (wc : World) (H : List Ent) (bT : Nat) (t : Tk) (i : Nat) (x : Sn) (e : Ending) (w' : World) : Prop := ∃ t' r', e = .returned (.bool (t.may x)) ∧ Mem wc w' (.blk bT (tkL t' r').toArray 153 :: tkE t' r' :: H) ∧ (t.may x = true → t' = t.take i x)
theorem may_0 {t : Tk} {x : Sn} (h : x.kind = 0) : t.may x = !t.begun := by unfold Tk.may; rw [if_pos h]
theorem may_no {t : Tk} {x : Sn} (h : ¬ x.kind = 0) (hb : t.begun = false) : t.may x = false := by unfold Tk.may; rw [if_neg h, hb]; simp
theorem may_rw {t : Tk} {x : Sn} (h : x.kind = 1 ∨ x.kind = 2) (hb : t.begun = true) : t.may x = (!t.called && decide (0 ≤ x.block ∧ x.block < 32)) := by unfold Tk.may; rw [if_neg (by omega), if_pos h, hb]; simp
theorem may_3 {t : Tk} {x : Sn} (h : x.kind = 3) (hb : t.begun = true) : t.may x = !t.called := by unfold Tk.may; rw [if_neg (by omega), if_neg (by omega), if_pos h, hb]; simp
theorem may_4 {t : Tk} {x : Sn} (h : x.kind = 4) (hb : t.begun = true) : t.may x = (!t.answered && (t.called || decide (x.e ≠ 0))) := by unfold Tk.may; rw [if_neg (by omega), if_neg (by omega), if_neg (by omega), if_pos h, hb]; simp
theorem may_5 {t : Tk} {x : Sn} (h : x.kind = 5) (hb : t.begun = true) : t.may x = (!t.decided && t.called) := by unfold Tk.may; rw [if_neg (by omega), if_neg (by omega), if_neg (by omega), if_neg (by omega), if_pos h, hb]; simp
theorem may_else {t : Tk} {x : Sn} (h0 : ¬ x.kind = 0) (h1 : ¬ x.kind = 1) (h2 : ¬ x.kind = 2) (h3 : ¬ x.kind = 3) (h4 : ¬ x.kind = 4) (h5 : ¬ x.kind = 5) : t.may x = false := by unfold Tk.may; rw [if_neg h0, if_neg (by omega), if_neg h3, if_neg h4, if_neg h5]
theorem take_0 {t : Tk} {i : Nat} {x : Sn} (h : x.kind = 0) : t.take i x = { t with begun := true } := by unfold Tk.take; rw [if_pos h]
theorem take_rw {t : Tk} {i : Nat} {x : Sn} (h : x.kind = 1 ∨ x.kind = 2) : t.take i x = { t with steps := t.steps ++ [(x.block, i)] } := by unfold Tk.take; rw [if_neg (by omega), if_pos h]
theorem take_3 {t : Tk} {i : Nat} {x : Sn} (h : x.kind = 3) : t.take i x = { t with called := true, commit := i } := by unfold Tk.take; rw [if_neg (by omega), if_neg (by omega), if_pos h]
theorem take_4 {t : Tk} {i : Nat} {x : Sn} (h : x.kind = 4) : t.take i x = { t with answered := true } := by unfold Tk.take; rw [if_neg (by omega), if_neg (by omega), if_neg (by omega), if_pos h]
theorem take_5 {t : Tk} {i : Nat} {x : Sn} (h : x.kind = 5) : t.take i x = { t with decided := true } := by unfold Tk.take; rw [if_neg (by omega), if_neg (by omega), if_neg (by omega), if_neg (by omega)]
set_option maxHeartbeats 2000000 in
theorem stepO_any {w0 w : World} {H : List Ent} {bT : Nat} (t : Tk) (r : TkR) (i : Nat) (x : Sn) (M0 : Mem w0 w (.blk bT (tkL t r).toArray 153 :: tkE t r :: H)) (hs : t.steps.length ≤ 1000) :
 Calls Tryz.prog 88 #[.pointer (some ⟨bT, 0, none⟩), .int .i64 (i : Int), .agg x.cellsL.toArray] w (StepO w0 H bT t i x) := by
 have M : Mem w0 w (.blk bT #[.bool t.begun, .bool t.called, .bool t.answered, .bool t.decided, .int .i64 (t.commit : Int), .slice r.a t.steps.length r.c] 153 :: tkE t r :: H) := M0
 clear M0
 refine qI Tryz.func88 115 ?_; intro a S
 refine wp_seq ?_
 skip
 refine wp_region_lit (st_box S M rfl rfl rfl #[_, _, _, _, _, _, _, _, _, _, _, _, _, _] rfl ?_); intro a w1 bX S M hB
 refine qG [1] S ?_; intro a S
 refine nxC (wp_cut (fun a w' => (x.kind = 0 ∨ t.begun = true) ∧ Sees 115 a [(0, .pointer (some ⟨bT, 0, none⟩)), (1, .int .i64 (i : Int)), (5, .pointer (some ⟨bX, 0, none⟩))] ∧ Mem w0 w' (.blk bX x.cellsL.toArray 157 :: .blk bT #[.bool t.begun, .bool t.called, .bool t.answered, .bool t.decided, .int .i64 (t.commit : Int), .slice r.a t.steps.length r.c] 153 :: tkE t r :: H)) ?_ ?_)
 ·skip
  refine nxD (qR [1, 1, 1, 1] S M ?_); intro a S
  refine qf 11 S ?_ ?_
  ·intro h11 S
   refine qG [0, 0, 0, 0, 0, 1] S ?_; intro a S
   refine nxC (cF S (wp_skip (then_normal ?_)))
   first
    | exact ⟨.inl (by omega), S.sub _ rfl, M⟩
    | exact ⟨.inr (by simpa using h17), S.sub _ rfl, M⟩
  intro h11 S
  refine qR [1, 1, 1, 2, 1, 1] S M ?_; intro a S
  refine nxC (qf 17 S ?_ ?_)
  ·intro h17 S
   refine cF S (wp_skip (then_normal ?_))
   first
    | exact ⟨.inl (by omega), S.sub _ rfl, M⟩
    | exact ⟨.inr (by simpa using h17), S.sub _ rfl, M⟩
  intro h17 S
  refine cT S (nxD (qG [1] S ?_)); intro a S
  refine nxC (wp_ret (then_ret (qO S ?_)))
  have e1 : t.may x = false := may_no (by omega) (by simpa using h17)
  exact ⟨t, r, by rw [e1], M.drop 0, fun h => by rw [e1] at h; cases h⟩
 intro a wc
 rintro ⟨hkb, S, M⟩
 refine nxD (qG [1] S ?_); intro a S
 refine nxC (wp_seq (nxD (qR [1, 1] S M ?_))); intro a S
 refine nxC (wp_block (nxD (qG [1, 1] S ?_))); intro a S
 refine nxC (qi 20 S ?_ ?_)
 ·intro h20 S
  refine cT S (nxD (qR [1, 1, 1, 2, 1, 1] S M ?_)); intro a S
  refine nxB (qG [1, 1, 1] S ?_); intro a S
  refine qS (sz := 1) (us := [_]) S M 1 ?_; intro w2 M
  refine wpList_nil (block_normal (nxE (qG [1, 1] S ?_))); intro a S
  refine nxC (wp_ret (qO S ?_))
  first
   | (have hk0 : x.kind = 0 := by omega
      exact ⟨{ t with begun := true }, r, by rw [may_0 hk0], M.drop 0, fun _ => (take_0 hk0).symm⟩)
   | (have e1 := may_else (t := t) (x := x) (by omega) (by omega) (by omega) (by omega) (by omega) (by omega)
      exact ⟨t, r, by rw [e1], M.drop 0, fun h => by rw [e1] at h; cases h⟩)
   | (have hk3 : x.kind = 3 := by omega
      refine ⟨{ t with called := true, commit := i }, r, ?_, M.drop 0, fun _ => (take_3 hk3).symm⟩
      rw [may_3 hk3 (hkb.resolve_left (by omega))])
   | (have hk4 : x.kind = 4 := by omega
      refine ⟨{ t with answered := true }, r, ret_bool ?_, M.drop 0, fun _ => (take_4 hk4).symm⟩
      rw [may_4 hk4 (hkb.resolve_left (by omega)), Bool.eq_iff_iff]
      first | (simp_all; done) | (simp_all; omega))
   | (have hk5 : x.kind = 5 := by omega
      refine ⟨{ t with decided := true }, r, ret_bool ?_, M.drop 0, fun _ => (take_5 hk5).symm⟩
      rw [may_5 hk5 (hkb.resolve_left (by omega))]
      first | (simp_all; done) | (simp_all; omega))
   | (have e : ccells (t.steps ++ [(x.block, i)]) = ccells t.steps ++ [.complex .f64 (fl x.block) (fl (i : Int))] := by simp [ccells]
      refine ⟨{ t with steps := t.steps ++ [(x.block, i)] }, ⟨loA, hiA, aA, cA⟩, ret_bool (hok.trans (may_rw hk hb).symm), ?_, fun _ => (take_rw hk).symm⟩
      replace M := ((M.drop 1).drop 1).perm (.swap _ _ _)
      show Mem _ _ (.blk bT #[.bool t.begun, .bool t.called, .bool t.answered, .bool t.decided, .int .i64 (t.commit : Int), .slice aA (t.steps ++ [(x.block, i)]).length cA] _ :: rowE loA hiA _ 1 (.slice aA (t.steps ++ [(x.block, i)]).length cA) (t.steps ++ [(x.block, i)]).length (ccells (t.steps ++ [(x.block, i)])) :: H)
      rw [e, List.length_append]
      exact M)
 intro h20 S
 refine cF S (wp_seq (nxD (qG [1, 1] S ?_))); intro a S
 refine nxC (qi 30 S ?_ ?_)
 ·intro h30 S
  refine cT S (wp_skip (then_normal (cT S (wp_cut (fun a w' => (x.kind = 1 ∨ x.kind = 2) ∧ t.begun = true ∧ ∃ ok, ok = (!t.called && decide (0 ≤ x.block ∧ x.block < 32)) ∧ Sees 115 a [(0, .pointer (some ⟨bT, 0, none⟩)), (1, .int .i64 (i : Int)), (5, .pointer (some ⟨bX, 0, none⟩)), (7, .bool ok)] ∧ Mem w0 w' (.blk bX x.cellsL.toArray 157 :: .blk bT #[.bool t.begun, .bool t.called, .bool t.answered, .bool t.decided, .int .i64 (t.commit : Int), .slice r.a t.steps.length r.c] 153 :: tkE t r :: H)) ?_ ?_))))
  ·skip
   refine wp_region_lit (qR [1, 1, 2, 2, 1, 1] S M ?_); intro a S
   refine qf 38 S ?_ ?_
   ·intro h38 S
    refine qG [0, 0, 0, 1, 1, 0, 0, 0, 1, 1] S ?_; intro a S
    replace S := S.keep [0, 1, 5, 19, 20, 30, 7]
    refine nxC ?_
    refine ⟨by omega, hkb.resolve_left (by omega), _, ?_, S.sub _ rfl, M⟩
    first
     | (simp_all; done)
     | (simp_all; omega)
   intro h38 S
   refine qR [5, 1, 1, 1, 1] S M ?_; intro a S
   refine qf 43 S ?_ ?_
   ·intro h43 S
    refine qG [0, 0, 0, 1, 1] S ?_; intro a S
    replace S := S.keep [0, 1, 5, 19, 20, 30, 7]
    refine nxC ?_
    refine ⟨by omega, hkb.resolve_left (by omega), _, ?_, S.sub _ rfl, M⟩
    first
     | (simp_all; done)
     | (simp_all; omega)
   intro h43 S
   refine qR [5, 1, 1, 1, 1] S M ?_; intro a S
   replace S := S.keep [0, 1, 5, 19, 20, 30, 7]
   refine nxC ?_
   refine ⟨by omega, hkb.resolve_left (by omega), _, ?_, S.sub _ rfl, M⟩
   first
    | (simp_all; done)
    | (simp_all; omega)
  intro a wc
  rintro ⟨hk, hb, ok, hok, S, M⟩
  refine wp_regionK [12, 15] #[false, false, false, false, false, false, false, false, false, false, false, false, false, false, false, false] rfl M (by kernel_rfl) ?_; intro w3 M
  refine kP 0 S ?_; intro a S
  refine kP 1 S ?_; intro a S
  refine kP 2 S ?_; intro a S
  refine kF 3 5 S ?_; intro a S
  refine kR 4 S rfl M (fun w M => qV S M 1) ?_; intro a S
  refine kF 5 4 S ?_; intro a S
  refine kR 6 S rfl M (fun w M => qV S M 0) ?_; intro a S
  refine k_pure 7 S rfl (fun w => y_toFl S rfl (by kernel_rfl) (by kernel_rfl)) ?_; intro a S
  refine kP 8 S ?_; intro a S
  refine k_pure 9 S rfl (fun w => y_toFl S rfl (by kernel_rfl) (by kernel_rfl)) ?_; intro a S
  refine k_pure 10 S rfl (fun w => y_complex S rfl rfl) ?_; intro a S
  refine k_one 11 rfl (by kernel_rfl) ?_
  refine st_lit (ps := [(0, .tmp 58)]) (e := 154) (sz := 1) (zl := [.complex .f64 0 0]) (cs := [_]) S M rfl rfl (by kernel_rfl) rfl (rfl) ?_; intro a w4 bZ S M hB
  refine nxC ⟨fun _ => hB, ?_⟩
  refine k_one 12 rfl (by kernel_rfl) ?_
  refine st_append (e := 154) (sz := 1) (by_ := 16) (zc := [.complex .f64 0 0]) S M 3 rfl rfl (by kernel_rfl) rfl (by decide) rfl rfl rfl (show Rd _ _ _ 1 _ 1 [.complex .f64 (fl x.block) (fl (i : Int))] from M.sliceAt 0 rfl (M.cellsAt (k := 1) 0 rfl rfl) rfl (Nat.le_refl _) (by unfold maxLen; omega)) (rfl) (by omega) (by unfold maxLen; omega) ?_; intro a w5 vA loA hiA S M
  refine nxC ⟨fun h => absurd h (by decide), ?_⟩
  obtain ⟨aA, cA, rfl, -, -⟩ := (M.readAll 0 rfl (by unfold maxLen; omega)).form
  refine kP 13 S ?_; intro a S
  refine kF 14 5 S ?_; intro a S
  refine k_one 15 rfl (by kernel_rfl) ?_
  refine qS (sz := 1) (us := [_]) S M 3 ?_; intro w6 M
  refine nxC ⟨fun h => absurd h (by decide), ?_⟩
  refine k_end (by kernel_rfl) ?_
  replace S := S.keep [0, 1, 5, 7]
  refine block_normal (nxE (qG [1, 1] S ?_)); intro a S
  refine nxC (wp_ret (qO S ?_))
  first
   | (have hk0 : x.kind = 0 := by omega
      exact ⟨{ t with begun := true }, r, by rw [may_0 hk0], M.drop 0, fun _ => (take_0 hk0).symm⟩)
   | (have e1 := may_else (t := t) (x := x) (by omega) (by omega) (by omega) (by omega) (by omega) (by omega)
      exact ⟨t, r, by rw [e1], M.drop 0, fun h => by rw [e1] at h; cases h⟩)
   | (have hk3 : x.kind = 3 := by omega
      refine ⟨{ t with called := true, commit := i }, r, ?_, M.drop 0, fun _ => (take_3 hk3).symm⟩
      rw [may_3 hk3 (hkb.resolve_left (by omega))])
   | (have hk4 : x.kind = 4 := by omega
      refine ⟨{ t with answered := true }, r, ret_bool ?_, M.drop 0, fun _ => (take_4 hk4).symm⟩
      rw [may_4 hk4 (hkb.resolve_left (by omega)), Bool.eq_iff_iff]
      first | (simp_all; done) | (simp_all; omega))
   | (have hk5 : x.kind = 5 := by omega
      refine ⟨{ t with decided := true }, r, ret_bool ?_, M.drop 0, fun _ => (take_5 hk5).symm⟩
      rw [may_5 hk5 (hkb.resolve_left (by omega))]
      first | (simp_all; done) | (simp_all; omega))
   | (have e : ccells (t.steps ++ [(x.block, i)]) = ccells t.steps ++ [.complex .f64 (fl x.block) (fl (i : Int))] := by simp [ccells]
      refine ⟨{ t with steps := t.steps ++ [(x.block, i)] }, ⟨loA, hiA, aA, cA⟩, ret_bool (hok.trans (may_rw hk hb).symm), ?_, fun _ => (take_rw hk).symm⟩
      replace M := ((M.drop 1).drop 1).perm (.swap _ _ _)
      show Mem _ _ (.blk bT #[.bool t.begun, .bool t.called, .bool t.answered, .bool t.decided, .int .i64 (t.commit : Int), .slice aA (t.steps ++ [(x.block, i)]).length cA] _ :: rowE loA hiA _ 1 (.slice aA (t.steps ++ [(x.block, i)]).length cA) (t.steps ++ [(x.block, i)]).length (ccells (t.steps ++ [(x.block, i)])) :: H)
      rw [e, List.length_append]
      exact M)
 intro h30 S
 refine cF S (wp_region_lit (qG [1, 1] S ?_)); intro a S
 refine nxC (qi 30 S ?_ ?_)
 ·intro h30 S
  refine cT S (wp_cut (fun a w' => (x.kind = 1 ∨ x.kind = 2) ∧ t.begun = true ∧ ∃ ok, ok = (!t.called && decide (0 ≤ x.block ∧ x.block < 32)) ∧ Sees 115 a [(0, .pointer (some ⟨bT, 0, none⟩)), (1, .int .i64 (i : Int)), (5, .pointer (some ⟨bX, 0, none⟩)), (7, .bool ok)] ∧ Mem w0 w' (.blk bX x.cellsL.toArray 157 :: .blk bT #[.bool t.begun, .bool t.called, .bool t.answered, .bool t.decided, .int .i64 (t.commit : Int), .slice r.a t.steps.length r.c] 153 :: tkE t r :: H)) ?_ ?_)
  ·skip
   refine wp_region_lit (qR [1, 1, 2, 2, 1, 1] S M ?_); intro a S
   refine qf 38 S ?_ ?_
   ·intro h38 S
    refine qG [0, 0, 0, 1, 1, 0, 0, 0, 1, 1] S ?_; intro a S
    replace S := S.keep [0, 1, 5, 19, 20, 30, 7]
    refine nxC ?_
    refine ⟨by omega, hkb.resolve_left (by omega), _, ?_, S.sub _ rfl, M⟩
    first
     | (simp_all; done)
     | (simp_all; omega)
   intro h38 S
   refine qR [5, 1, 1, 1, 1] S M ?_; intro a S
   refine qf 43 S ?_ ?_
   ·intro h43 S
    refine qG [0, 0, 0, 1, 1] S ?_; intro a S
    replace S := S.keep [0, 1, 5, 19, 20, 30, 7]
    refine nxC ?_
    refine ⟨by omega, hkb.resolve_left (by omega), _, ?_, S.sub _ rfl, M⟩
    first
     | (simp_all; done)
     | (simp_all; omega)
   intro h43 S
   refine qR [5, 1, 1, 1, 1] S M ?_; intro a S
   replace S := S.keep [0, 1, 5, 19, 20, 30, 7]
   refine nxC ?_
   refine ⟨by omega, hkb.resolve_left (by omega), _, ?_, S.sub _ rfl, M⟩
   first
    | (simp_all; done)
    | (simp_all; omega)
  intro a wc
  rintro ⟨hk, hb, ok, hok, S, M⟩
  refine wp_regionK [12, 15] #[false, false, false, false, false, false, false, false, false, false, false, false, false, false, false, false] rfl M (by kernel_rfl) ?_; intro w7 M
  refine kP 0 S ?_; intro a S
  refine kP 1 S ?_; intro a S
  refine kP 2 S ?_; intro a S
  refine kF 3 5 S ?_; intro a S
  refine kR 4 S rfl M (fun w M => qV S M 1) ?_; intro a S
  refine kF 5 4 S ?_; intro a S
  refine kR 6 S rfl M (fun w M => qV S M 0) ?_; intro a S
  refine k_pure 7 S rfl (fun w => y_toFl S rfl (by kernel_rfl) (by kernel_rfl)) ?_; intro a S
  refine kP 8 S ?_; intro a S
  refine k_pure 9 S rfl (fun w => y_toFl S rfl (by kernel_rfl) (by kernel_rfl)) ?_; intro a S
  refine k_pure 10 S rfl (fun w => y_complex S rfl rfl) ?_; intro a S
  refine k_one 11 rfl (by kernel_rfl) ?_
  refine st_lit (ps := [(0, .tmp 58)]) (e := 154) (sz := 1) (zl := [.complex .f64 0 0]) (cs := [_]) S M rfl rfl (by kernel_rfl) rfl (rfl) ?_; intro a w8 bZ S M hB
  refine nxC ⟨fun _ => hB, ?_⟩
  refine k_one 12 rfl (by kernel_rfl) ?_
  refine st_append (e := 154) (sz := 1) (by_ := 16) (zc := [.complex .f64 0 0]) S M 3 rfl rfl (by kernel_rfl) rfl (by decide) rfl rfl rfl (show Rd _ _ _ 1 _ 1 [.complex .f64 (fl x.block) (fl (i : Int))] from M.sliceAt 0 rfl (M.cellsAt (k := 1) 0 rfl rfl) rfl (Nat.le_refl _) (by unfold maxLen; omega)) (rfl) (by omega) (by unfold maxLen; omega) ?_; intro a w9 vA loA hiA S M
  refine nxC ⟨fun h => absurd h (by decide), ?_⟩
  obtain ⟨aA, cA, rfl, -, -⟩ := (M.readAll 0 rfl (by unfold maxLen; omega)).form
  refine kP 13 S ?_; intro a S
  refine kF 14 5 S ?_; intro a S
  refine k_one 15 rfl (by kernel_rfl) ?_
  refine qS (sz := 1) (us := [_]) S M 3 ?_; intro w10 M
  refine nxC ⟨fun h => absurd h (by decide), ?_⟩
  refine k_end (by kernel_rfl) ?_
  replace S := S.keep [0, 1, 5, 7]
  refine block_normal (nxE (qG [1, 1] S ?_)); intro a S
  refine nxC (wp_ret (qO S ?_))
  first
   | (have hk0 : x.kind = 0 := by omega
      exact ⟨{ t with begun := true }, r, by rw [may_0 hk0], M.drop 0, fun _ => (take_0 hk0).symm⟩)
   | (have e1 := may_else (t := t) (x := x) (by omega) (by omega) (by omega) (by omega) (by omega) (by omega)
      exact ⟨t, r, by rw [e1], M.drop 0, fun h => by rw [e1] at h; cases h⟩)
   | (have hk3 : x.kind = 3 := by omega
      refine ⟨{ t with called := true, commit := i }, r, ?_, M.drop 0, fun _ => (take_3 hk3).symm⟩
      rw [may_3 hk3 (hkb.resolve_left (by omega))])
   | (have hk4 : x.kind = 4 := by omega
      refine ⟨{ t with answered := true }, r, ret_bool ?_, M.drop 0, fun _ => (take_4 hk4).symm⟩
      rw [may_4 hk4 (hkb.resolve_left (by omega)), Bool.eq_iff_iff]
      first | (simp_all; done) | (simp_all; omega))
   | (have hk5 : x.kind = 5 := by omega
      refine ⟨{ t with decided := true }, r, ret_bool ?_, M.drop 0, fun _ => (take_5 hk5).symm⟩
      rw [may_5 hk5 (hkb.resolve_left (by omega))]
      first | (simp_all; done) | (simp_all; omega))
   | (have e : ccells (t.steps ++ [(x.block, i)]) = ccells t.steps ++ [.complex .f64 (fl x.block) (fl (i : Int))] := by simp [ccells]
      refine ⟨{ t with steps := t.steps ++ [(x.block, i)] }, ⟨loA, hiA, aA, cA⟩, ret_bool (hok.trans (may_rw hk hb).symm), ?_, fun _ => (take_rw hk).symm⟩
      replace M := ((M.drop 1).drop 1).perm (.swap _ _ _)
      show Mem _ _ (.blk bT #[.bool t.begun, .bool t.called, .bool t.answered, .bool t.decided, .int .i64 (t.commit : Int), .slice aA (t.steps ++ [(x.block, i)]).length cA] _ :: rowE loA hiA _ 1 (.slice aA (t.steps ++ [(x.block, i)]).length cA) (t.steps ++ [(x.block, i)]).length (ccells (t.steps ++ [(x.block, i)])) :: H)
      rw [e, List.length_append]
      exact M)
 intro h30 S
 refine cF S (nxD (qG [1, 1] S ?_)); intro a S
 refine nxC (qi 63 S ?_ ?_)
 ·intro h63 S
  refine cT S (nxD (qR [1, 1, 2, 2, 1, 1] S M ?_)); intro a S
  refine nxB (qG [1, 1, 1, 1, 2] S ?_); intro a S
  refine qS (sz := 1) (us := [_]) S M 1 ?_; intro w11 M
  refine qG [1, 5] S ?_; intro a S
  refine qS (sz := 1) (us := [_]) S M 1 ?_; intro w12 M
  replace S := S.keep [0, 1, 5, 19, 20, 30, 63, 7]
  refine wpList_nil (block_normal (nxE (qG [1, 1] S ?_))); intro a S
  refine nxC (wp_ret (qO S ?_))
  first
   | (have hk0 : x.kind = 0 := by omega
      exact ⟨{ t with begun := true }, r, by rw [may_0 hk0], M.drop 0, fun _ => (take_0 hk0).symm⟩)
   | (have e1 := may_else (t := t) (x := x) (by omega) (by omega) (by omega) (by omega) (by omega) (by omega)
      exact ⟨t, r, by rw [e1], M.drop 0, fun h => by rw [e1] at h; cases h⟩)
   | (have hk3 : x.kind = 3 := by omega
      refine ⟨{ t with called := true, commit := i }, r, ?_, M.drop 0, fun _ => (take_3 hk3).symm⟩
      rw [may_3 hk3 (hkb.resolve_left (by omega))])
   | (have hk4 : x.kind = 4 := by omega
      refine ⟨{ t with answered := true }, r, ret_bool ?_, M.drop 0, fun _ => (take_4 hk4).symm⟩
      rw [may_4 hk4 (hkb.resolve_left (by omega)), Bool.eq_iff_iff]
      first | (simp_all; done) | (simp_all; omega))
   | (have hk5 : x.kind = 5 := by omega
      refine ⟨{ t with decided := true }, r, ret_bool ?_, M.drop 0, fun _ => (take_5 hk5).symm⟩
      rw [may_5 hk5 (hkb.resolve_left (by omega))]
      first | (simp_all; done) | (simp_all; omega))
   | (have e : ccells (t.steps ++ [(x.block, i)]) = ccells t.steps ++ [.complex .f64 (fl x.block) (fl (i : Int))] := by simp [ccells]
      refine ⟨{ t with steps := t.steps ++ [(x.block, i)] }, ⟨loA, hiA, aA, cA⟩, ret_bool (hok.trans (may_rw hk hb).symm), ?_, fun _ => (take_rw hk).symm⟩
      replace M := ((M.drop 1).drop 1).perm (.swap _ _ _)
      show Mem _ _ (.blk bT #[.bool t.begun, .bool t.called, .bool t.answered, .bool t.decided, .int .i64 (t.commit : Int), .slice aA (t.steps ++ [(x.block, i)]).length cA] _ :: rowE loA hiA _ 1 (.slice aA (t.steps ++ [(x.block, i)]).length cA) (t.steps ++ [(x.block, i)]).length (ccells (t.steps ++ [(x.block, i)])) :: H)
      rw [e, List.length_append]
      exact M)
 intro h63 S
 refine cF S (nxD (qG [1, 1] S ?_)); intro a S
 refine nxC (qf 77 S ?_ ?_)
 ·intro h77 S
  refine cF S (nxD (qG [1, 1] S ?_)); intro a S
  refine nxC (qf 98 S ?_ ?_)
  ·intro h98 S
   refine cF S (wp_region_lit (qG [1] S ?_)); intro a S
   refine wpList_nil (block_normal (nxE (qG [1, 1] S ?_))); intro a S
   refine nxC (wp_ret (qO S ?_))
   first
    | (have hk0 : x.kind = 0 := by omega
       exact ⟨{ t with begun := true }, r, by rw [may_0 hk0], M.drop 0, fun _ => (take_0 hk0).symm⟩)
    | (have e1 := may_else (t := t) (x := x) (by omega) (by omega) (by omega) (by omega) (by omega) (by omega)
       exact ⟨t, r, by rw [e1], M.drop 0, fun h => by rw [e1] at h; cases h⟩)
    | (have hk3 : x.kind = 3 := by omega
       refine ⟨{ t with called := true, commit := i }, r, ?_, M.drop 0, fun _ => (take_3 hk3).symm⟩
       rw [may_3 hk3 (hkb.resolve_left (by omega))])
    | (have hk4 : x.kind = 4 := by omega
       refine ⟨{ t with answered := true }, r, ret_bool ?_, M.drop 0, fun _ => (take_4 hk4).symm⟩
       rw [may_4 hk4 (hkb.resolve_left (by omega)), Bool.eq_iff_iff]
       first | (simp_all; done) | (simp_all; omega))
    | (have hk5 : x.kind = 5 := by omega
       refine ⟨{ t with decided := true }, r, ret_bool ?_, M.drop 0, fun _ => (take_5 hk5).symm⟩
       rw [may_5 hk5 (hkb.resolve_left (by omega))]
       first | (simp_all; done) | (simp_all; omega))
    | (have e : ccells (t.steps ++ [(x.block, i)]) = ccells t.steps ++ [.complex .f64 (fl x.block) (fl (i : Int))] := by simp [ccells]
       refine ⟨{ t with steps := t.steps ++ [(x.block, i)] }, ⟨loA, hiA, aA, cA⟩, ret_bool (hok.trans (may_rw hk hb).symm), ?_, fun _ => (take_rw hk).symm⟩
       replace M := ((M.drop 1).drop 1).perm (.swap _ _ _)
       show Mem _ _ (.blk bT #[.bool t.begun, .bool t.called, .bool t.answered, .bool t.decided, .int .i64 (t.commit : Int), .slice aA (t.steps ++ [(x.block, i)]).length cA] _ :: rowE loA hiA _ 1 (.slice aA (t.steps ++ [(x.block, i)]).length cA) (t.steps ++ [(x.block, i)]).length (ccells (t.steps ++ [(x.block, i)])) :: H)
       rw [e, List.length_append]
       exact M)
  intro h98 S
  refine cT S (nxD (qR [1, 1, 4, 2, 1, 1] S M ?_)); intro a S
  refine qf 105 S ?_ ?_
  ·intro h105 S
   refine qG [0, 0, 0, 0, 1, 1] S ?_; intro a S
   replace S := S.keep [0, 1, 5, 19, 20, 30, 63, 77, 98, 7]
   refine nxB (qG [1, 1, 4] S ?_); intro a S
   refine qS (sz := 1) (us := [_]) S M 1 ?_; intro w17 M
   refine wpList_nil (block_normal (nxE (qG [1, 1] S ?_))); intro a S
   refine nxC (wp_ret (qO S ?_))
   first
    | (have hk0 : x.kind = 0 := by omega
       exact ⟨{ t with begun := true }, r, by rw [may_0 hk0], M.drop 0, fun _ => (take_0 hk0).symm⟩)
    | (have e1 := may_else (t := t) (x := x) (by omega) (by omega) (by omega) (by omega) (by omega) (by omega)
       exact ⟨t, r, by rw [e1], M.drop 0, fun h => by rw [e1] at h; cases h⟩)
    | (have hk3 : x.kind = 3 := by omega
       refine ⟨{ t with called := true, commit := i }, r, ?_, M.drop 0, fun _ => (take_3 hk3).symm⟩
       rw [may_3 hk3 (hkb.resolve_left (by omega))])
    | (have hk4 : x.kind = 4 := by omega
       refine ⟨{ t with answered := true }, r, ret_bool ?_, M.drop 0, fun _ => (take_4 hk4).symm⟩
       rw [may_4 hk4 (hkb.resolve_left (by omega)), Bool.eq_iff_iff]
       first | (simp_all; done) | (simp_all; omega))
    | (have hk5 : x.kind = 5 := by omega
       refine ⟨{ t with decided := true }, r, ret_bool ?_, M.drop 0, fun _ => (take_5 hk5).symm⟩
       rw [may_5 hk5 (hkb.resolve_left (by omega))]
       first | (simp_all; done) | (simp_all; omega))
    | (have e : ccells (t.steps ++ [(x.block, i)]) = ccells t.steps ++ [.complex .f64 (fl x.block) (fl (i : Int))] := by simp [ccells]
       refine ⟨{ t with steps := t.steps ++ [(x.block, i)] }, ⟨loA, hiA, aA, cA⟩, ret_bool (hok.trans (may_rw hk hb).symm), ?_, fun _ => (take_rw hk).symm⟩
       replace M := ((M.drop 1).drop 1).perm (.swap _ _ _)
       show Mem _ _ (.blk bT #[.bool t.begun, .bool t.called, .bool t.answered, .bool t.decided, .int .i64 (t.commit : Int), .slice aA (t.steps ++ [(x.block, i)]).length cA] _ :: rowE loA hiA _ 1 (.slice aA (t.steps ++ [(x.block, i)]).length cA) (t.steps ++ [(x.block, i)]).length (ccells (t.steps ++ [(x.block, i)])) :: H)
       rw [e, List.length_append]
       exact M)
  intro h105 S
  refine qR [1, 1, 2, 2, 1, 1] S M ?_; intro a S
  replace S := S.keep [0, 1, 5, 19, 20, 30, 63, 77, 98, 7]
  refine nxB (qG [1, 1, 4] S ?_); intro a S
  refine qS (sz := 1) (us := [_]) S M 1 ?_; intro w16 M
  refine wpList_nil (block_normal (nxE (qG [1, 1] S ?_))); intro a S
  refine nxC (wp_ret (qO S ?_))
  first
   | (have hk0 : x.kind = 0 := by omega
      exact ⟨{ t with begun := true }, r, by rw [may_0 hk0], M.drop 0, fun _ => (take_0 hk0).symm⟩)
   | (have e1 := may_else (t := t) (x := x) (by omega) (by omega) (by omega) (by omega) (by omega) (by omega)
      exact ⟨t, r, by rw [e1], M.drop 0, fun h => by rw [e1] at h; cases h⟩)
   | (have hk3 : x.kind = 3 := by omega
      refine ⟨{ t with called := true, commit := i }, r, ?_, M.drop 0, fun _ => (take_3 hk3).symm⟩
      rw [may_3 hk3 (hkb.resolve_left (by omega))])
   | (have hk4 : x.kind = 4 := by omega
      refine ⟨{ t with answered := true }, r, ret_bool ?_, M.drop 0, fun _ => (take_4 hk4).symm⟩
      rw [may_4 hk4 (hkb.resolve_left (by omega)), Bool.eq_iff_iff]
      first | (simp_all; done) | (simp_all; omega))
   | (have hk5 : x.kind = 5 := by omega
      refine ⟨{ t with decided := true }, r, ret_bool ?_, M.drop 0, fun _ => (take_5 hk5).symm⟩
      rw [may_5 hk5 (hkb.resolve_left (by omega))]
      first | (simp_all; done) | (simp_all; omega))
   | (have e : ccells (t.steps ++ [(x.block, i)]) = ccells t.steps ++ [.complex .f64 (fl x.block) (fl (i : Int))] := by simp [ccells]
      refine ⟨{ t with steps := t.steps ++ [(x.block, i)] }, ⟨loA, hiA, aA, cA⟩, ret_bool (hok.trans (may_rw hk hb).symm), ?_, fun _ => (take_rw hk).symm⟩
      replace M := ((M.drop 1).drop 1).perm (.swap _ _ _)
      show Mem _ _ (.blk bT #[.bool t.begun, .bool t.called, .bool t.answered, .bool t.decided, .int .i64 (t.commit : Int), .slice aA (t.steps ++ [(x.block, i)]).length cA] _ :: rowE loA hiA _ 1 (.slice aA (t.steps ++ [(x.block, i)]).length cA) (t.steps ++ [(x.block, i)]).length (ccells (t.steps ++ [(x.block, i)])) :: H)
      rw [e, List.length_append]
      exact M)
 intro h77 S
 refine cT S (nxD (qR [1, 1, 3, 2, 1, 1] S M ?_)); intro a S
 refine qf 84 S ?_ ?_
 ·intro h84 S
  refine qG [0, 0, 0, 0, 0, 0, 0, 0, 0, 1, 1] S ?_; intro a S
  replace S := S.keep [0, 1, 5, 19, 20, 30, 63, 77, 7]
  refine nxB (qG [1, 1, 3] S ?_); intro a S
  refine qS (sz := 1) (us := [_]) S M 1 ?_; intro w15 M
  refine wpList_nil (block_normal (nxE (qG [1, 1] S ?_))); intro a S
  refine nxC (wp_ret (qO S ?_))
  first
   | (have hk0 : x.kind = 0 := by omega
      exact ⟨{ t with begun := true }, r, by rw [may_0 hk0], M.drop 0, fun _ => (take_0 hk0).symm⟩)
   | (have e1 := may_else (t := t) (x := x) (by omega) (by omega) (by omega) (by omega) (by omega) (by omega)
      exact ⟨t, r, by rw [e1], M.drop 0, fun h => by rw [e1] at h; cases h⟩)
   | (have hk3 : x.kind = 3 := by omega
      refine ⟨{ t with called := true, commit := i }, r, ?_, M.drop 0, fun _ => (take_3 hk3).symm⟩
      rw [may_3 hk3 (hkb.resolve_left (by omega))])
   | (have hk4 : x.kind = 4 := by omega
      refine ⟨{ t with answered := true }, r, ret_bool ?_, M.drop 0, fun _ => (take_4 hk4).symm⟩
      rw [may_4 hk4 (hkb.resolve_left (by omega)), Bool.eq_iff_iff]
      first | (simp_all; done) | (simp_all; omega))
   | (have hk5 : x.kind = 5 := by omega
      refine ⟨{ t with decided := true }, r, ret_bool ?_, M.drop 0, fun _ => (take_5 hk5).symm⟩
      rw [may_5 hk5 (hkb.resolve_left (by omega))]
      first | (simp_all; done) | (simp_all; omega))
   | (have e : ccells (t.steps ++ [(x.block, i)]) = ccells t.steps ++ [.complex .f64 (fl x.block) (fl (i : Int))] := by simp [ccells]
      refine ⟨{ t with steps := t.steps ++ [(x.block, i)] }, ⟨loA, hiA, aA, cA⟩, ret_bool (hok.trans (may_rw hk hb).symm), ?_, fun _ => (take_rw hk).symm⟩
      replace M := ((M.drop 1).drop 1).perm (.swap _ _ _)
      show Mem _ _ (.blk bT #[.bool t.begun, .bool t.called, .bool t.answered, .bool t.decided, .int .i64 (t.commit : Int), .slice aA (t.steps ++ [(x.block, i)]).length cA] _ :: rowE loA hiA _ 1 (.slice aA (t.steps ++ [(x.block, i)]).length cA) (t.steps ++ [(x.block, i)]).length (ccells (t.steps ++ [(x.block, i)])) :: H)
      rw [e, List.length_append]
      exact M)
 intro h84 S
 refine qR [1, 1, 2, 2, 1] S M ?_; intro a S
 refine qi 89 S ?_ ?_
 ·intro h89 S
  refine qG [0, 0, 0, 1, 1, 1] S ?_; intro a S
  replace S := S.keep [0, 1, 5, 19, 20, 30, 63, 77, 7]
  refine nxB (qG [1, 1, 3] S ?_); intro a S
  refine qS (sz := 1) (us := [_]) S M 1 ?_; intro w13 M
  refine wpList_nil (block_normal (nxE (qG [1, 1] S ?_))); intro a S
  refine nxC (wp_ret (qO S ?_))
  first
   | (have hk0 : x.kind = 0 := by omega
      exact ⟨{ t with begun := true }, r, by rw [may_0 hk0], M.drop 0, fun _ => (take_0 hk0).symm⟩)
   | (have e1 := may_else (t := t) (x := x) (by omega) (by omega) (by omega) (by omega) (by omega) (by omega)
      exact ⟨t, r, by rw [e1], M.drop 0, fun h => by rw [e1] at h; cases h⟩)
   | (have hk3 : x.kind = 3 := by omega
      refine ⟨{ t with called := true, commit := i }, r, ?_, M.drop 0, fun _ => (take_3 hk3).symm⟩
      rw [may_3 hk3 (hkb.resolve_left (by omega))])
   | (have hk4 : x.kind = 4 := by omega
      refine ⟨{ t with answered := true }, r, ret_bool ?_, M.drop 0, fun _ => (take_4 hk4).symm⟩
      rw [may_4 hk4 (hkb.resolve_left (by omega)), Bool.eq_iff_iff]
      first | (simp_all; done) | (simp_all; omega))
   | (have hk5 : x.kind = 5 := by omega
      refine ⟨{ t with decided := true }, r, ret_bool ?_, M.drop 0, fun _ => (take_5 hk5).symm⟩
      rw [may_5 hk5 (hkb.resolve_left (by omega))]
      first | (simp_all; done) | (simp_all; omega))
   | (have e : ccells (t.steps ++ [(x.block, i)]) = ccells t.steps ++ [.complex .f64 (fl x.block) (fl (i : Int))] := by simp [ccells]
      refine ⟨{ t with steps := t.steps ++ [(x.block, i)] }, ⟨loA, hiA, aA, cA⟩, ret_bool (hok.trans (may_rw hk hb).symm), ?_, fun _ => (take_rw hk).symm⟩
      replace M := ((M.drop 1).drop 1).perm (.swap _ _ _)
      show Mem _ _ (.blk bT #[.bool t.begun, .bool t.called, .bool t.answered, .bool t.decided, .int .i64 (t.commit : Int), .slice aA (t.steps ++ [(x.block, i)]).length cA] _ :: rowE loA hiA _ 1 (.slice aA (t.steps ++ [(x.block, i)]).length cA) (t.steps ++ [(x.block, i)]).length (ccells (t.steps ++ [(x.block, i)])) :: H)
      rw [e, List.length_append]
      exact M)
 intro h89 S
 refine qR [14, 1, 1, 1, 1, 1] S M ?_; intro a S
 replace S := S.keep [0, 1, 5, 19, 20, 30, 63, 77, 7]
 refine nxB (qG [1, 1, 3] S ?_); intro a S
 refine qS (sz := 1) (us := [_]) S M 1 ?_; intro w14 M
 refine wpList_nil (block_normal (nxE (qG [1, 1] S ?_))); intro a S
 refine nxC (wp_ret (qO S ?_))
 first
  | (have hk0 : x.kind = 0 := by omega
     exact ⟨{ t with begun := true }, r, by rw [may_0 hk0], M.drop 0, fun _ => (take_0 hk0).symm⟩)
  | (have e1 := may_else (t := t) (x := x) (by omega) (by omega) (by omega) (by omega) (by omega) (by omega)
     exact ⟨t, r, by rw [e1], M.drop 0, fun h => by rw [e1] at h; cases h⟩)
  | (have hk3 : x.kind = 3 := by omega
     refine ⟨{ t with called := true, commit := i }, r, ?_, M.drop 0, fun _ => (take_3 hk3).symm⟩
     rw [may_3 hk3 (hkb.resolve_left (by omega))])
  | (have hk4 : x.kind = 4 := by omega
     refine ⟨{ t with answered := true }, r, ret_bool ?_, M.drop 0, fun _ => (take_4 hk4).symm⟩
     rw [may_4 hk4 (hkb.resolve_left (by omega)), Bool.eq_iff_iff]
     first | (simp_all; done) | (simp_all; omega))
  | (have hk5 : x.kind = 5 := by omega
     refine ⟨{ t with decided := true }, r, ret_bool ?_, M.drop 0, fun _ => (take_5 hk5).symm⟩
     rw [may_5 hk5 (hkb.resolve_left (by omega))]
     first | (simp_all; done) | (simp_all; omega))
  | (have e : ccells (t.steps ++ [(x.block, i)]) = ccells t.steps ++ [.complex .f64 (fl x.block) (fl (i : Int))] := by simp [ccells]
     refine ⟨{ t with steps := t.steps ++ [(x.block, i)] }, ⟨loA, hiA, aA, cA⟩, ret_bool (hok.trans (may_rw hk hb).symm), ?_, fun _ => (take_rw hk).symm⟩
     replace M := ((M.drop 1).drop 1).perm (.swap _ _ _)
     show Mem _ _ (.blk bT #[.bool t.begun, .bool t.called, .bool t.answered, .bool t.decided, .int .i64 (t.commit : Int), .slice aA (t.steps ++ [(x.block, i)]).length cA] _ :: rowE loA hiA _ 1 (.slice aA (t.steps ++ [(x.block, i)]).length cA) (t.steps ++ [(x.block, i)]).length (ccells (t.steps ++ [(x.block, i)])) :: H)
     rw [e, List.length_append]
     exact M)
theorem equalNmK (d : Nat) (p q : Nm) (w : World) : (Op.equalIn (d + 2) 28 (.agg p.cells) (.agg q.cells)).run Tryz.prog w = .ok (decide (p = q)) w := by
 have e : decide (p = q) = p.eqb q := by
  rw [Bool.eq_iff_iff, decide_eq_true_eq, Nm.eqb_iff]
 rw [e]; exact equalNm d p q w
abbrev encNm (p : Nm) : Value := .agg p.cells
theorem checkNm (b : Bool) (p : Nm) (w : World) : (Instr.checkKey b 10000 28 (encNm p)).run Tryz.prog w = .ok () w := by
 kernel_rfl
theorem keyNm : KeyT Tryz.prog 28 encNm := by
 refine ⟨fun k l w h => ?_, checkNm, fun p => by rw [show (10000 : Nat) = 9999 + 1 from rfl]; simp [Instr.sameBits]⟩
 have hask : ∀ (l : Mes Nm) (i : Nat), (∀ p ∈ l, p.2.key = encNm p.1) → (Instr.findAsking 28 (encNm k) (l.map (·.2)) i).run Tryz.prog w = .ok (posK k l i) w := by
  intro l
  induction l with
  | nil => intro i _; rfl
  | cons p l ih =>
    intro i h
    have e : (Op.equal 28 (encNm k) (encNm p.1)).run Tryz.prog w = .ok (decide (k = p.1)) w := equalNmK 9998 k p.1 w
    rw [List.map_cons, Instr.findAsking, h p (List.mem_cons_self ..), Sem.run_bind, e]
    simp only [Result.andThen, posK]
    by_cases hk : k = p.1
    ·rw [decide_eq_true hk, if_pos hk.symm]; rfl
    ·rw [decide_eq_false hk, if_neg (show ¬ p.1 = k from fun e => hk e.symm)]
     exact ih (i + 1) fun q hq => h q (List.mem_cons_of_mem _ hq)
 simp only [Instr.findKey, Sem.run_bind, run_underlying Tryz.underlying28, Result.andThen]
 cases l with
 | nil => rfl
 | cons p l =>
   have e : ∀ fs, Instr.findNow (.struct fs) (encNm k) ((p :: l).map (·.2)) 0 = none := fun fs => by
    rw [List.map_cons, Instr.findNow]; rfl
   rw [e]
   exact hask (p :: l) 0 h
set_option maxRecDepth 10000 in
theorem zero_trk (w : World) : (zeroValue 153).run Tryz.prog w = .ok (tkVal zTk ⟨0, 0, none, 0⟩) w := by
 obtain ⟨i, hi, hz⟩ : ∃ i, Tryz.prog.info? 153 = some i ∧ i.zero = some (tkVal zTk ⟨0, 0, none, 0⟩) := by
  refine ⟨_, rfl, ?_⟩
  kernel_rfl
 simp [zeroValue, typeInfo, hi, hz, go_sem]
structure TrkI (l : List Sn) (i : Nat) (ml : Mes Nm) (c : Nat) (K : List Ky) : Prop where
 good : Good encNm ml c
 trk : TrkM ml K
 trp : TrP l i (tkOf K)
 may : ∀ (j : Nat) y, j < i → l[j]? = some y → condR l j y
 len : K.length ≤ i
theorem putK_len (K : List Ky) (n : Nm) (t : Tk) (r : TkR) : (putK K n t r).length ≤ K.length + 1 := by unfold putK; split <;> simp
theorem tkOf_nil : tkOf [] = fun _ => zTk := rfl
theorem TrkI.zero (l : List Sn) : TrkI l 0 [] 0 [] := ⟨good_nil 0, .nil, by rw [tkOf_nil]; exact TrP.zero l, fun j y h => absurd h (by omega), Nat.le_refl _⟩
theorem TrkI.put {l : List Sn} {i : Nat} {ml : Mes Nm} {c : Nat} {K : List Ky} {x : Sn} (h : TrkI l i ml c K) (hx : l[i]? = some x) (hn : x.name.named = true) (hm : (tkOf K x.name).may x = true) (r : TkR) :
 TrkI l (i + 1) (putM encNm ml c x.name (tkVal ((tkOf K x.name).take i x) r)).1 (putM encNm ml c x.name (tkVal ((tkOf K x.name).take i x) r)).2 (putK K x.name ((tkOf K x.name).take i x) r) := by
 obtain ⟨h1, h2⟩ := may_go h.trp hx h.may hn hm
 exact ⟨h.good.put _ _, h.trk.put _ _ _ _, by rw [tkOf_put]; exact h1, h2, Nat.le_trans (putK_len ..) (by have := h.len; omega)⟩
theorem TrkI.at {l : List Sn} {i : Nat} {ml : Mes Nm} {c : Nat} {K : List Ky} (h : TrkI l i ml c K) {w0 w : World} {A : List Ent} (M : Mem w0 w (A ++ rowsK K)) (n : Nm) :
 ∃ (r : TkR) (R : List Ent), (getM ml n).getD (tkVal zTk ⟨0, 0, none, 0⟩) = tkVal (tkOf K n) r ∧ Mem w0 w (tkE (tkOf K n) r :: (A ++ R)) ∧ ∀ t' r', (rowsK (putK K n t' r')).Perm (tkE t' r' :: R) := by
 by_cases hk : n ∈ K.map (·.1)
 ·obtain ⟨k, h1, -, h3⟩ := keyK_some hk
  obtain ⟨n2, t0, r0⟩ := k
  subst h3
  have hnd : (K.map (·.1)).Nodup := by rw [← h.trk.keys]; exact h.good.nodup
  obtain ⟨R, p1, -⟩ := rowsK_put (t := t0) (r := r0) hnd h1
  have et : tkOf K n2 = t0 := by unfold tkOf; rw [h1]; rfl
  refine ⟨r0, R, by rw [h.trk.get, h1, et]; rfl, ?_, fun t' r' => ?_⟩
  ·rw [et]
   exact M.perm ((List.Perm.append_left A p1).trans List.perm_middle)
  ·obtain ⟨R2, q1, q2⟩ := rowsK_put (t := t') (r := r') hnd h1
   exact q2.trans (.cons _ ((List.perm_cons _).1 (q1.symm.trans p1)))
 ·have h1 := keyK_none hk
  have et : tkOf K n = zTk := by unfold tkOf; rw [h1]; rfl
  refine ⟨⟨w.heap.size, w.heap.size, none, 0⟩, rowsK K, by rw [h.trk.get, h1, et]; rfl, ?_, fun t' r' => rowsK_new hk⟩
  rw [et]
  exact M.rowNil 154 1
set_option maxHeartbeats 2000000 in
theorem tracks_any (va : Option Addr) (vc : Nat) (l : List Sn) (w : World) (hv : Ss 0 w.heap.size w (.slice va l.length vc) l) (hl : l.length ≤ 200) :
 Calls Tryz.prog 49 #[.slice va l.length vc] w fun e w' => (e = .returned (.tuple #[.map none, .bool false]) ∧ Below w.heap.size w w' ∧ ¬ mayS l) ∨ (∃ b ml c K, e = .returned (.tuple #[.map (some b), .bool true]) ∧ Mem w w' (mapX b ml c :: rowsK K) ∧ TrkI l l.length ml c K) := by
 have M := Mem.start w
 refine calls_enterM Tryz.func49 rfl 32 rfl rfl ?_; intro a S
 refine nxD (qN S M #[.map none] ?_); intro a w1 bRM S M hB
 refine qN S M #[.bool false] ?_; intro a w2 bRB S M hB
 refine nxA (st_makeMap (κ := Nm) S M rfl rfl ?_); intro a w3 bM S M hB
 refine qN S M #[.map none] ?_; intro a w4 bC S M hB
 refine qS (sz := 1) (us := [_]) S M 0 ?_; intro w5 M
 refine nxC (wp_seq (nxD (qG [1] S ?_))); intro a S
 refine qC (xs := [.tmp 9]) S (qE Tryz.func68) rfl (each_any va l.length vc _) ?_
 rintro _ w6 ⟨bE, rfl, M1⟩; refine ⟨_, rfl, ?_⟩; intro a S
 replace M := M.join M1; clear M1
 simp only [List.cons_append, List.nil_append] at M
 refine nxC (wp_block (wp_rangeB (encs := encSe) (xs := l.zipIdx) S M rfl (enters_of Tryz.func101 (by decide) rfl) (each1_gen bE va vc l) (fun _ => rfl) (by kernel_rfl) (fun pre Hs => ∃ ml c K, TrkI l pre.length ml c K ∧ pre = l.zipIdx.take pre.length ∧ Hs = .blk bE #[.slice va l.length vc] 22 :: .blk bC #[.map (some bM)] 147 :: mapX bM ml c :: .blk bRB #[.bool false] 4 :: .blk bRM #[.map none] 147 :: rowsK K) (fun cd _ Hs => cd = .ret ∧ ¬ mayS l ∧ ∃ H2, Hs = .blk bRB #[.bool false] 4 :: .blk bRM #[.map none] 147 :: H2) (⟨[], 0, [], TrkI.zero l, rfl, rfl⟩) (fun pre Hs W TT hI M => by obtain ⟨ml, c, K, -, -, rfl⟩ := hI; exact ⟨M.blk 0 rfl, M.argW hv⟩) ?_ ?_ ?_))
 ·intro lY pre x tX Hs wr TT a hx hI M S
  simp only [putsL, encSe] at S
  obtain ⟨ml, c, K, hT, hpr, rfl⟩ := hI
  obtain ⟨x, i⟩ := x
  simp only [List.cons_append] at M
  refine wpIn_seq ?_
  refine wpI_region (by kernel_rfl) (fun _ _ h => h) ?_
  refine qG [1] S ?_; intro a S
  refine nxC (wpI_region (by kernel_rfl) (fun _ _ h => h) ?_)
  refine qN S M #[.int .i8 0, .int .i64 0, .int .i64 0, .int .i64 0, .int .i64 0, .int .u8 0, .int .u8 0, .int .u8 0, .int .u8 0, .int .u8 0, .int .u8 0, .int .u8 0, .int .u8 0, .int .i64 0] ?_; intro a w7 bX S M hB
  refine qS (sz := 14) (us := [_, _, _, _, _, _, _, _, _, _, _, _, _, _]) S M 0 ?_; intro w8 M
  refine nxC ?_
  refine ⟨_ :: _ :: _ :: _ :: _ :: _ :: rowsK K, M, ?_⟩; intro wb TT M; simp only [List.cons_append, List.nil_append] at M
  refine wpIn_block ?_
  refine wpIn_seq ?_
  obtain ⟨hx2, hxi⟩ : l[i]? = some x ∧ i = pre.length := by
   have h9 : l.zipIdx[pre.length]? = some (x, i) := by rw [hx]; simp
   rw [List.getElem?_zipIdx] at h9
   cases h8 : l[pre.length]? with
   | none => rw [h8] at h9; cases h9
   | some y => rw [h8] at h9; simp at h9; obtain ⟨rfl, rfl⟩ := h9; exact ⟨h8, rfl⟩
  subst hxi
  obtain ⟨r, R, hval, M9, hput⟩ := TrkI.at (A := _ :: _ :: _ :: _ :: _ :: _ :: TT) hT (M.perm (.cons _ (.cons _ (.cons _ (.cons _ (.cons _ (.cons _ List.perm_append_comm))))))) x.name
  replace M := M9; clear M9
  simp only [List.cons_append] at M
  refine wpI_region (by kernel_rfl) (fun _ _ h => h) ?_
  refine qR [4, 2] S M ?_; intro a S
  refine qY S (qL3 S M 1) ?_; intro a S
  refine qY S (y_lookupM (pos := 4) S M (keyNm) (hT.good) Tryz.underlying147 (zero_trk) rfl rfl rfl) ?_; intro a S
  simp only [Bool.false_eq_true, if_false, hval] at S
  refine qN S M #[.bool false, .bool false, .bool false, .bool false, .int .i64 0, .slice none 0 0] ?_; intro a w9 bT S M hB
  refine qS (sz := 6) (us := [_, _, _, _, _, _]) S M 0 ?_; intro w10 M
  refine nxC (wpIn_seq ?_)
  refine wpIn_seq ?_
  refine wpI_region (by kernel_rfl) (fun _ _ h => h) ?_
  refine qG [2] S ?_; intro a S
  refine qY S (qL3 S M 2) ?_; intro a S
  refine qQ (xs := [.tmp 18]) S (qE Tryz.func87) rfl (named_any x.name _) M ?_; intro a w11 S hK M
  refine qG [1, 1] S ?_; intro a S
  refine qi 21 S ?_ ?_
  ·intro h21 S
   refine qG [0, 0, 0, 0, 1] S ?_; intro a S
   replace S := S.keep [0, 2, 3, 4, 10, 5, 6, 7, 26]
   refine nxC (stI_condT S rfl ?_)
   refine wpIn_seq ?_
   refine wpI_region (by kernel_rfl) (fun _ _ h => h) ?_
   refine qS (sz := 1) (us := [_]) S M 7 ?_; intro w12 M
   refine qS (sz := 1) (us := [_]) S M 6 ?_; intro w13 M
   refine nxC (wpIn_ret ?_)
   refine then_ret (block_ret ?_)
   skip
   replace M := M.ord [7, 7] (by simp only [ordO, oG, oS, oE, oZ, oB] <;> rfl)
   refine ⟨_ :: _ :: _ :: _ :: _ :: _ :: _ :: _ :: R, M.perm (.cons _ (.cons _ (.cons _ (.cons _ (.cons _ (.cons _ (.cons _ (.cons _ List.perm_append_comm)))))))), rfl, may_not hT.trp hx2 ?_, _, rfl⟩
   rintro ⟨h1, h2⟩
   first
    | (rw [h1] at h21; cases h21; done)
    | (rw [h2] at h26; cases h26; done)
  intro h21 S
  refine qG [1] S ?_; intro a S
  refine qY S (y_loadAgg (cs := [_, _, _, _, _, _, _, _, _, _, _, _, _, _]) S (by kernel_rfl) rfl rfl (M.cellsAt (k := 14) 2 rfl rfl)) ?_; intro a S
  refine qC (xs := [.tmp 7, .tmp 22, .tmp 23]) S (qE Tryz.func88) rfl (stepO_any (tkOf K x.name) r pre.length x M (by rw [hT.trp.steps, List.length_map]; refine Nat.le_trans (List.length_filter_le ..) ?_; rw [List.length_zipIdx, List.length_take]; omega)) ?_
  rintro _ w14 ⟨t', r', rfl, M2, htk⟩; refine ⟨_, rfl, ?_⟩; intro a S; replace M := M2; clear M2
  refine qG [1, 1] S ?_; intro a S
  replace S := S.keep [0, 2, 3, 4, 10, 5, 6, 7, 26]
  refine nxC (qi 26 S ?_ ?_)
  ·intro h26 S
   refine stI_condT S rfl ?_
   refine wpIn_seq ?_
   refine wpI_region (by kernel_rfl) (fun _ _ h => h) ?_
   refine qS (sz := 1) (us := [_]) S M 7 ?_; intro w15 M
   refine qS (sz := 1) (us := [_]) S M 6 ?_; intro w16 M
   refine nxC (wpIn_ret ?_)
   refine then_ret (block_ret ?_)
   skip
   replace M := M.ord [7, 7] (by simp only [ordO, oG, oS, oE, oZ, oB] <;> rfl)
   refine ⟨_ :: _ :: _ :: _ :: _ :: _ :: _ :: _ :: R, M.perm (.cons _ (.cons _ (.cons _ (.cons _ (.cons _ (.cons _ (.cons _ (.cons _ List.perm_append_comm)))))))), rfl, may_not hT.trp hx2 ?_, _, rfl⟩
   rintro ⟨h1, h2⟩
   first
    | (rw [h1] at h21; cases h21; done)
    | (rw [h2] at h26; cases h26; done)
  intro h26 S
  refine stI_condF S rfl ?_
  refine wpIn_skip ?_
  refine then_normal (wpI_region (by kernel_rfl) (fun _ _ h => h) ?_)
  refine qR [5, 2] S M ?_; intro a S
  refine qY S (qL3 S M 2) ?_; intro a S
  refine qY S (qL6 S M 0) ?_; intro a S
  refine st_updateM (pos := 5) S M (keyNm) (hT.good) Tryz.underlying147 rfl rfl rfl rfl rfl ?_; intro w17 M
  simp only [List.set_cons_zero, List.set_cons_succ] at M
  refine wpList_nil (block_normal ?_)
  skip
  replace M := M.drp 2
  replace M := M.drp 0
  have hmay : (tkOf K x.name).may x = true := by first | exact h26 | simpa using h26
  obtain rfl := htk hmay
  refine ⟨_ :: _ :: _ :: _ :: _ :: rowsK (putK K x.name ((tkOf K x.name).take pre.length x) r'), M.perm ?_, _, _, _, by rw [List.length_append]; exact hT.put hx2 h21 hmay r', ?_, rfl⟩
  ·refine List.Perm.trans ?_ (.cons _ (.cons _ (.cons _ (.cons _ (.cons _ ((hput _ r').symm.append_right TT))))))
   refine List.Perm.trans (.swap _ _ _) (.cons _ (List.Perm.trans (.swap _ _ _) (.cons _ (List.Perm.trans (.swap _ _ _) (.cons _ (List.Perm.trans (.swap _ _ _) (.cons _ (List.Perm.trans (.swap _ _ _) (.cons _ (.cons _ List.perm_append_comm))))))))))
  ·rw [hx, show pre ++ (x, pre.length) :: tX = (pre ++ [(x, pre.length)]) ++ tX by simp]
   exact (List.take_left ..).symm
 ·intro D1 wd Hs a hI M S
  obtain ⟨ml, c, K, hT, hpr, rfl⟩ := hI
  refine block_normal (nxE (qR [3] S M ?_)); intro a S
  refine qS (sz := 1) (us := [_]) S M 5 ?_; intro w18 M
  refine qS (sz := 1) (us := [_]) S M 4 ?_; intro w19 M
  refine nxC (wp_ret (end_mark S M 0 rfl ?_)); intro a wM S M
  simp only [List.eraseIdx_cons_succ, List.eraseIdx_cons_zero] at M
  refine end_plain ?_
  refine end_two S rfl (res_cell (by kernel_rfl) rfl (M.cell 4 rfl rfl)) (res_cell (by kernel_rfl) rfl (M.cell 3 rfl rfl)) ?_
  first
   | exact .inl ⟨rfl, M.below, hno⟩
   | (refine .inr ⟨bM, ml, c, K, rfl, ?_, ?_⟩
      ·exact (((M.drop 0).drop 0).drop 1).drop 1
      ·simpa using hT)
 intro D1 wd Hs a cX pre x tX hx hX M S
 obtain ⟨rfl, hno, H2, rfl⟩ := hX
 refine wp_ret (block_ret (then_ret (end_mark S M 0 rfl ?_))); intro a wM S M
 simp only [List.eraseIdx_cons_succ, List.eraseIdx_cons_zero] at M
 refine end_plain ?_
 refine end_two S rfl (res_cell (by kernel_rfl) rfl (M.cell 1 rfl rfl)) (res_cell (by kernel_rfl) rfl (M.cell 0 rfl rfl)) ?_
 first
  | exact .inl ⟨rfl, M.below, hno⟩
  | (refine .inr ⟨bM, ml, c, K, rfl, ?_, ?_⟩
     ·exact (((M.drop 0).drop 0).drop 1).drop 1
     ·simpa using hT)
section
variable {ds : List Deferred}
variable {P : Program} {ops : Array Oper} {Q : Exit → Act → World → Prop} {rest : List Oper} {n d : Nat} {a : Act} {L : List (Nat × Value)} {w w0 : World} {v : Value} {o : Oper} {H : List Ent} {md : Region.Mode} {nk : List Nat}
theorem y_field {T f : Nat} {x : Operand} {u : Value} (S : SeesD ds n a L) (hx : val L x = some u) (hr : ∀ w, (Instr.field T u f).run P w = .ok v w) {d : Option Tmp} {t : TypeId} {p : String} {e : Array Edge} {g : Option (Nat × Bool)} :
 Yields P a ⟨d, .field T x f, t, p, e, g⟩ w v := by
 unfold Yields execOp
 simp only [S.eval hx, Sem.run_bind, hr, Result.andThen]
 rfl
def Grw (w w' : World) : Prop := ∃ q os, w' = Go.Sort.grow (w.drewN q) os
theorem Grw.trans {a b c : World} (h : Grw a b) (k : Grw b c) : Grw a c := by
 obtain ⟨q, os, rfl⟩ := h
 obtain ⟨q', os', rfl⟩ := k
 refine ⟨q + q', os ++ os', ?_⟩
 show grow (grow ((a.drewN q).drewN q') os) os' = _
 rw [grow_grow, World.drewN_drewN]
theorem Grw.alloc (w : World) (o : Obj) : Grw w (w.alloc o) := ⟨0, #[o], by rw [alloc_eq_grow]; rfl⟩
theorem Grw.drew (w : World) : Grw w w.drew := ⟨1, #[], by rw [grow_empty]; rfl⟩
theorem st_boxE {x : Operand} {T : TypeId} {u : Value} (S : SeesD ds n a L) (M : Mem w0 w H) {d : Nat} {t : TypeId} {p : String} {e : Array Edge} {g : Option (Nat × Bool)} (hg : gd ops L ⟨some d, .box T x, t, p, e, g⟩ = some true) (hn : Nat.blt d n = true) (hx : val L x = some u) (c : Array Value) (hc : u.cells = c)
 (k : ∀ a w' b, SeesD ds n a ((d, .pointer (some ⟨b, 0, none⟩)) :: L) → Mem w0 w' (.blk b c T :: H) → Grw w w' → wpList P ops Q rest a w') : wpList P ops Q (⟨some d, .box T x, t, p, e, g⟩ :: rest) a w := by
 subst hc
 refine st_w (v := .pointer (some ⟨w.heap.size, 0, none⟩)) (w' := w.alloc (.cells u.cells T)) S hg rfl hn ?_ fun a S' => k a _ w.heap.size S' (M.alloc _ _) (Grw.alloc _ _)
 unfold execOp
 simp only [S.eval hx, Instr.box, Sem.run_bind, run_newVar, Result.andThen_ok, Sem.run_pure]
theorem wp_regionKE {id : Nat} {l : List Oper} (nk : List Nat) (listed : Array Bool) (hl : Array.replicate l.length false = listed) (M : Mem w0 w H) (hm : P.follows .mixedOrders = true)
 (h : ∀ w', Grw w w' → Mem w0 w' H → wpK P .any l.toArray nk Q l.length listed a w') : (Code.region id l.toArray true).wp P Q a w := by
 subst hl
 exact wp_region_any hm (wpAny_of_wpK _ _ _ _ (by have := h _ (Grw.drew w) M.drew; simpa using this))
end
theorem isNaNE_any (x : Int) (w : World) : Calls Tryz.prog 100 #[.int .i64 x] w fun e w' => e = .returned (.bool false) ∧ w' = w := by
 have M := Mem.start w
 refine qI Tryz.func100 6 ?_; intro a S
 refine nxD (qG [1] S ?_); intro a S
 refine nxA (qG [1, 1, 1, 1] S ?_); intro a S
 refine nxC (wp_ret (qO S ?_))
 exact ⟨by simp, rfl⟩
def cmpY (x y : Int) : Int := if x < y then -1 else if x > y then 1 else 0
theorem cmpI_any (x y : Int) (w : World) : Calls Tryz.prog 65 #[.int .i64 x, .int .i64 y] w fun e w' => e = .returned (.int .i64 (cmpY x y)) ∧ w' = w := by
 have M := Mem.start w
 refine qI Tryz.func65 20 ?_; intro a S
 refine nxD (qG [1] S ?_); intro a S
 refine nxA (qG [1] S ?_); intro a S
 refine qC (xs := [.tmp 7]) S (qE Tryz.func100) rfl (isNaNE_any _ _) ?_
 rintro _ _ ⟨rfl, rfl⟩; refine ⟨_, rfl, ?_⟩; intro a S
 refine qG [1] S ?_; intro a S
 refine nxA (qG [1] S ?_); intro a S
 refine qC (xs := [.tmp 9]) S (qE Tryz.func100) rfl (isNaNE_any _ _) ?_
 rintro _ _ ⟨rfl, rfl⟩; refine ⟨_, rfl, ?_⟩; intro a S
 refine qG [1] S ?_; intro a S
 refine nxC (wp_seq (nxD (qG [1] S ?_))); intro a S
 refine nxC (qi 11 S ?_ ?_)
 ·intro h11 S
  cases h11
 intro h11 S
 refine cF S (wp_skip (then_normal (wp_seq (nxD (qG [1] S ?_))))); intro a S
 refine nxC (qi 13 S ?_ ?_)
 ·intro h13 S
  cases h13
 intro h13 S
 refine cF S (wp_skip (then_normal (wp_seq (nxD (qG [1, 1, 1] S ?_))))); intro a S
 refine nxC (qi 16 S ?_ ?_)
 ·intro h16 S
  refine cT S (nxD (qG [1] S ?_)); intro a S
  refine nxC (wp_ret (then_ret (qO S ?_)))
  refine ⟨?_, rfl⟩
  unfold cmpY
  first
   | (rw [if_pos (by omega)]; done)
   | (rw [if_neg (by omega), if_pos (by omega)]; done)
   | (rw [if_neg (by omega), if_neg (by omega)]; done)
 intro h16 S
 refine cF S (wp_skip (then_normal (wp_seq (nxD (qG [1, 1, 1] S ?_))))); intro a S
 refine nxC (qi 19 S ?_ ?_)
 ·intro h19 S
  refine cT S (nxD (qG [1] S ?_)); intro a S
  refine nxC (wp_ret (then_ret (qO S ?_)))
  refine ⟨?_, rfl⟩
  unfold cmpY
  first
   | (rw [if_pos (by omega)]; done)
   | (rw [if_neg (by omega), if_pos (by omega)]; done)
   | (rw [if_neg (by omega), if_neg (by omega)]; done)
 intro h19 S
 refine cF S (wp_skip (nxE (qG [1] S ?_))); intro a S
 refine nxC (wp_ret (qO S ?_))
 refine ⟨?_, rfl⟩
 unfold cmpY
 first
  | (rw [if_pos (by omega)]; done)
  | (rw [if_neg (by omega), if_pos (by omega)]; done)
  | (rw [if_neg (by omega), if_neg (by omega)]; done)
theorem TrkM.val {ml : Mes Nm} {K : List Ky} (T : TrkM ml K) (n : Nm) : ∃ r, (getM ml n).getD (tkVal zTk ⟨0, 0, none, 0⟩) = tkVal (tkOf K n) r := by
 rw [T.get]
 unfold tkOf
 cases keyK K n with
 | none => exact ⟨_, rfl⟩
 | some k => exact ⟨_, rfl⟩
def byC (K : List Ky) (x y : Nm) : Int := cmpY ((tkOf K x).commit : Int) ((tkOf K y).commit : Int)
theorem byC_any {wc w : World} {A H : List Ent} {bm b c : Nat} {ml : Mes Nm} {K : List Ky} (G : Good encNm ml c) (T : TrkM ml K) (M0 : Mem wc w (A ++ .blk bm #[.map (some b)] 147 :: mapX b ml c :: H)) (x y : Nm) :
 Calls Tryz.prog 90 #[.agg x.cells, .agg y.cells, .pointer (some ⟨bm, 0, none⟩)] w fun e w' => e = .returned (.int .i64 (byC K x y)) ∧ Grw w w' := by
 have M := M0.sub (List.sublist_append_right A _)
 clear M0
 obtain ⟨rx, ex⟩ := T.val x
 obtain ⟨ry, ey⟩ := T.val y
 refine qI Tryz.func90 15 ?_; intro a S
 refine wp_seq (wp_region_lit (st_boxE S M rfl rfl rfl #[_, _, _] rfl ?_)); intro a w1 bP S M hG1
 refine st_boxE S M rfl rfl rfl #[_, _, _] rfl ?_; intro a w2 bQ S M hG2
 refine qG [1] S ?_; intro a S
 refine nxC (wp_seq (wp_regionKE [] #[false, false, false, false, false, false, false, false, false, false] rfl M (by kernel_rfl) ?_)); intro w3 hG3 M
 refine kR 0 S rfl M (fun w M => qV S M 2) ?_; intro a S
 refine kR 1 S rfl M (fun w M => qL3 S M 1) ?_; intro a S
 refine kR 2 S rfl M (fun w M => y_lookupM (pos := 3) S M (keyNm) (G) Tryz.underlying147 (zero_trk) rfl rfl rfl) ?_; intro a S
 simp only [Bool.false_eq_true, if_false, ex] at S
 refine k_read 3 S rfl (fun w hW => y_field (v := .int .i64 ((tkOf K x).commit : Int)) S rfl (fun _ => by kernel_rfl)) ?_; intro a S
 refine kR 4 S rfl M (fun w M => qV S M 2) ?_; intro a S
 refine kR 5 S rfl M (fun w M => qL3 S M 0) ?_; intro a S
 refine kR 6 S rfl M (fun w M => y_lookupM (pos := 3) S M (keyNm) (G) Tryz.underlying147 (zero_trk) rfl rfl rfl) ?_; intro a S
 simp only [Bool.false_eq_true, if_false, ey] at S
 refine k_read 7 S rfl (fun w hW => y_field (v := .int .i64 ((tkOf K y).commit : Int)) S rfl (fun _ => by kernel_rfl)) ?_; intro a S
 refine k_one 8 rfl (by kernel_rfl) ?_
 refine qC (xs := [.tmp 9, .tmp 13]) S (qE Tryz.func65) rfl (cmpI_any _ _ _) ?_
 rintro _ _ ⟨rfl, rfl⟩; refine ⟨_, rfl, ?_⟩; intro a S
 refine nxC ⟨fun _ => ext_refl _, ?_⟩
 refine kP 9 S ?_; intro a S
 refine k_end (by kernel_rfl) ?_
 refine then_normal (wp_ret (qO S ?_))
 exact ⟨rfl, hG1.trans (hG2.trans hG3)⟩
end Go.Proofs.YtdcgcgifgnaccaaGreat
namespace Go.Proofs.YtdcgcgifgnaccaaGreat
open Go.Shelf
def laysF6_ren : Go.Shelf.Ren := ⟨fun | 6 => 89 | 14 => 134 | 15 => 135 | 20 => 183 | 21 => 184 | 22 => 185 | 23 => 186 | 24 => 187 | 25 => 188 | 26 => 189 | 27 => 190 | 28 => 191 | 29 => 192 | 46 => 266 | 47 => 267 | 48 => 268 | 49 => 269 | 50 => 270 | 57 => 354 | n => n, fun | 0 => 0 | 3 => 3 | 4 => 4 | 5 => 5 | 9 => 9 | 22 => 97 | 24 => 28 | 25 => 194 | 39 => 262 | 45 => 327 | 46 => 328 | 50 => 279 | 53 => 334 | 55 => 336 | 66 => 437 | 70 => 441 | 76 => 509 | 77 => 510 | n => n, fun | n => n⟩
theorem laysF6 : Go.Proofs.SlLaysF0.n6 Tryz.prog laysF6_ren := {
 mixed := by kernel_rfl
 f6 := ⟨ "slices.SortFunc[[]cashbox/api.Name,cashbox/api.Name]", by decide, Tryz.func89.trans (congrArg some (by kernel_rfl))⟩
 f14 := ⟨ "slices.pdqsortCmpFunc[cashbox/api.Name]", by decide, Tryz.func134.trans (congrArg some (by kernel_rfl))⟩
 f15 := Tryz.func135.trans (congrArg some (by kernel_rfl))
 f20 := ⟨ "slices.insertionSortCmpFunc[cashbox/api.Name]", by decide, Tryz.func183.trans (congrArg some (by kernel_rfl))⟩
 f21 := ⟨ "slices.heapSortCmpFunc[cashbox/api.Name]", by decide, Tryz.func184.trans (congrArg some (by kernel_rfl))⟩
 f22 := ⟨ "slices.breakPatternsCmpFunc[cashbox/api.Name]", by decide, Tryz.func185.trans (congrArg some (by kernel_rfl))⟩
 f23 := ⟨ "slices.choosePivotCmpFunc[cashbox/api.Name]", by decide, Tryz.func186.trans (congrArg some (by kernel_rfl))⟩
 f24 := ⟨ "slices.reverseRangeCmpFunc[cashbox/api.Name]", by decide, Tryz.func187.trans (congrArg some (by kernel_rfl))⟩
 f25 := ⟨ "slices.partialInsertionSortCmpFunc[cashbox/api.Name]", by decide, Tryz.func188.trans (congrArg some (by kernel_rfl))⟩
 f26 := ⟨ "slices.partitionEqualCmpFunc[cashbox/api.Name]", by decide, Tryz.func189.trans (congrArg some (by kernel_rfl))⟩
 f27 := ⟨ "slices.partitionCmpFunc[cashbox/api.Name]", by decide, Tryz.func190.trans (congrArg some (by kernel_rfl))⟩
 f28 := Tryz.func191.trans (congrArg some (by kernel_rfl))
 f29 := Tryz.func192.trans (congrArg some (by kernel_rfl))
 f46 := ⟨ "slices.siftDownCmpFunc[cashbox/api.Name]", by decide, Tryz.func266.trans (congrArg some (by kernel_rfl))⟩
 f47 := Tryz.func267.trans (congrArg some (by kernel_rfl))
 f48 := Tryz.func268.trans (congrArg some (by kernel_rfl))
 f49 := ⟨ "slices.medianAdjacentCmpFunc[cashbox/api.Name]", by decide, Tryz.func269.trans (congrArg some (by kernel_rfl))⟩
 f50 := ⟨ "slices.medianCmpFunc[cashbox/api.Name]", by decide, Tryz.func270.trans (congrArg some (by kernel_rfl))⟩
 f57 := ⟨ "slices.order2CmpFunc[cashbox/api.Name]", by decide, Tryz.func354.trans (congrArg some (by kernel_rfl))⟩
 t0 := Tryz.underlying0
 a0 := Tryz.isAgg0
 z0 := Tryz.sizeOf0
 v0 := Tryz.zeroValue0
 t3 := Tryz.underlying3
 a3 := Tryz.isAgg3
 z3 := Tryz.sizeOf3
 v3 := Tryz.zeroValue3
 t4 := Tryz.underlying4
 a4 := Tryz.isAgg4
 z4 := Tryz.sizeOf4
 v4 := Tryz.zeroValue4
 t5 := Tryz.underlying5
 a5 := Tryz.isAgg5
 z5 := Tryz.sizeOf5
 v5 := Tryz.zeroValue5
 t9 := Tryz.underlying9
 a9 := Tryz.isAgg9
 z9 := Tryz.sizeOf9
 v9 := Tryz.zeroValue9
 t22 := Tryz.underlying97
 a22 := Tryz.isAgg97
 z22 := Tryz.sizeOf97
 v22 := Tryz.zeroValue97
 t25 := Tryz.underlying194
 a25 := Tryz.isAgg194
 z25 := Tryz.sizeOf194
 v25 := Tryz.zeroValue194
 t39 := Tryz.underlying262
 a39 := Tryz.isAgg262
 z39 := Tryz.sizeOf262
 v39 := Tryz.zeroValue262
 t45 := Tryz.underlying327
 a45 := Tryz.isAgg327
 z45 := Tryz.sizeOf327
 v45 := Tryz.zeroValue327
 t46 := Tryz.underlying328
 a46 := Tryz.isAgg328
 z46 := Tryz.sizeOf328
 v46 := Tryz.zeroValue328
 t50 := Tryz.underlying279
 a50 := Tryz.isAgg279
 z50 := Tryz.sizeOf279
 v50 := Tryz.zeroValue279
 t53 := Tryz.underlying334
 a53 := Tryz.isAgg334
 z53 := Tryz.sizeOf334
 v53 := Tryz.zeroValue334
 t55 := Tryz.underlying336
 a55 := Tryz.isAgg336
 z55 := Tryz.sizeOf336
 v55 := Tryz.zeroValue336
 t66 := Tryz.underlying437
 a66 := Tryz.isAgg437
 z66 := Tryz.sizeOf437
 v66 := Tryz.zeroValue437
 t70 := Tryz.underlying441
 a70 := Tryz.isAgg441
 z70 := Tryz.sizeOf441
 v70 := Tryz.zeroValue441
 t76 := Tryz.underlying509
 a76 := Tryz.isAgg509
 z76 := Tryz.sizeOf509
 v76 := Tryz.zeroValue509
 t77 := Tryz.underlying510
 a77 := Tryz.isAgg510
 z77 := Tryz.sizeOf510
 v77 := Tryz.zeroValue510
}
def laysG6_ren : Go.Shelf.Ren := ⟨fun | 6 => 95 | 14 => 138 | 15 => 135 | 20 => 193 | 21 => 194 | 22 => 195 | 23 => 196 | 24 => 197 | 25 => 198 | 26 => 199 | 27 => 200 | 28 => 191 | 29 => 192 | 46 => 271 | 47 => 267 | 48 => 268 | 49 => 272 | 50 => 273 | 57 => 355 | n => n, fun | 0 => 0 | 3 => 3 | 4 => 4 | 5 => 5 | 9 => 9 | 22 => 82 | 24 => 86 | 25 => 209 | 39 => 262 | 45 => 327 | 46 => 328 | 50 => 279 | 53 => 334 | 55 => 336 | 66 => 437 | 70 => 441 | 76 => 509 | 77 => 510 | n => n, fun | n => n⟩
theorem laysG6 : Go.Proofs.SlLaysF0.n6 Tryz.prog laysG6_ren := {
 mixed := by kernel_rfl
 f6 := ⟨ "slices.SortFunc[[][2]cashbox/api.Name,[2]cashbox/api.Name]", by decide, Tryz.func95.trans (congrArg some (by kernel_rfl))⟩
 f14 := ⟨ "slices.pdqsortCmpFunc[[2]cashbox/api.Name]", by decide, Tryz.func138.trans (congrArg some (by kernel_rfl))⟩
 f15 := Tryz.func135.trans (congrArg some (by kernel_rfl))
 f20 := ⟨ "slices.insertionSortCmpFunc[[2]cashbox/api.Name]", by decide, Tryz.func193.trans (congrArg some (by kernel_rfl))⟩
 f21 := ⟨ "slices.heapSortCmpFunc[[2]cashbox/api.Name]", by decide, Tryz.func194.trans (congrArg some (by kernel_rfl))⟩
 f22 := ⟨ "slices.breakPatternsCmpFunc[[2]cashbox/api.Name]", by decide, Tryz.func195.trans (congrArg some (by kernel_rfl))⟩
 f23 := ⟨ "slices.choosePivotCmpFunc[[2]cashbox/api.Name]", by decide, Tryz.func196.trans (congrArg some (by kernel_rfl))⟩
 f24 := ⟨ "slices.reverseRangeCmpFunc[[2]cashbox/api.Name]", by decide, Tryz.func197.trans (congrArg some (by kernel_rfl))⟩
 f25 := ⟨ "slices.partialInsertionSortCmpFunc[[2]cashbox/api.Name]", by decide, Tryz.func198.trans (congrArg some (by kernel_rfl))⟩
 f26 := ⟨ "slices.partitionEqualCmpFunc[[2]cashbox/api.Name]", by decide, Tryz.func199.trans (congrArg some (by kernel_rfl))⟩
 f27 := ⟨ "slices.partitionCmpFunc[[2]cashbox/api.Name]", by decide, Tryz.func200.trans (congrArg some (by kernel_rfl))⟩
 f28 := Tryz.func191.trans (congrArg some (by kernel_rfl))
 f29 := Tryz.func192.trans (congrArg some (by kernel_rfl))
 f46 := ⟨ "slices.siftDownCmpFunc[[2]cashbox/api.Name]", by decide, Tryz.func271.trans (congrArg some (by kernel_rfl))⟩
 f47 := Tryz.func267.trans (congrArg some (by kernel_rfl))
 f48 := Tryz.func268.trans (congrArg some (by kernel_rfl))
 f49 := ⟨ "slices.medianAdjacentCmpFunc[[2]cashbox/api.Name]", by decide, Tryz.func272.trans (congrArg some (by kernel_rfl))⟩
 f50 := ⟨ "slices.medianCmpFunc[[2]cashbox/api.Name]", by decide, Tryz.func273.trans (congrArg some (by kernel_rfl))⟩
 f57 := ⟨ "slices.order2CmpFunc[[2]cashbox/api.Name]", by decide, Tryz.func355.trans (congrArg some (by kernel_rfl))⟩
 t0 := Tryz.underlying0
 a0 := Tryz.isAgg0
 z0 := Tryz.sizeOf0
 v0 := Tryz.zeroValue0
 t3 := Tryz.underlying3
 a3 := Tryz.isAgg3
 z3 := Tryz.sizeOf3
 v3 := Tryz.zeroValue3
 t4 := Tryz.underlying4
 a4 := Tryz.isAgg4
 z4 := Tryz.sizeOf4
 v4 := Tryz.zeroValue4
 t5 := Tryz.underlying5
 a5 := Tryz.isAgg5
 z5 := Tryz.sizeOf5
 v5 := Tryz.zeroValue5
 t9 := Tryz.underlying9
 a9 := Tryz.isAgg9
 z9 := Tryz.sizeOf9
 v9 := Tryz.zeroValue9
 t22 := Tryz.underlying82
 a22 := Tryz.isAgg82
 z22 := Tryz.sizeOf82
 v22 := Tryz.zeroValue82
 t25 := Tryz.underlying209
 a25 := Tryz.isAgg209
 z25 := Tryz.sizeOf209
 v25 := Tryz.zeroValue209
 t39 := Tryz.underlying262
 a39 := Tryz.isAgg262
 z39 := Tryz.sizeOf262
 v39 := Tryz.zeroValue262
 t45 := Tryz.underlying327
 a45 := Tryz.isAgg327
 z45 := Tryz.sizeOf327
 v45 := Tryz.zeroValue327
 t46 := Tryz.underlying328
 a46 := Tryz.isAgg328
 z46 := Tryz.sizeOf328
 v46 := Tryz.zeroValue328
 t50 := Tryz.underlying279
 a50 := Tryz.isAgg279
 z50 := Tryz.sizeOf279
 v50 := Tryz.zeroValue279
 t53 := Tryz.underlying334
 a53 := Tryz.isAgg334
 z53 := Tryz.sizeOf334
 v53 := Tryz.zeroValue334
 t55 := Tryz.underlying336
 a55 := Tryz.isAgg336
 z55 := Tryz.sizeOf336
 v55 := Tryz.zeroValue336
 t66 := Tryz.underlying437
 a66 := Tryz.isAgg437
 z66 := Tryz.sizeOf437
 v66 := Tryz.zeroValue437
 t70 := Tryz.underlying441
 a70 := Tryz.isAgg441
 z70 := Tryz.sizeOf441
 v70 := Tryz.zeroValue441
 t76 := Tryz.underlying509
 a76 := Tryz.isAgg509
 z76 := Tryz.sizeOf509
 v76 := Tryz.zeroValue509
 t77 := Tryz.underlying510
 a77 := Tryz.isAgg510
 z77 := Tryz.sizeOf510
 v77 := Tryz.zeroValue510
}
end Go.Proofs.YtdcgcgifgnaccaaGreat

namespace Go.Proofs.YtdcgcgifgnaccaaGreat
open Go.RowKit Go.Sort
instance : Inhabited Nm := ⟨⟨0, 0, 0⟩⟩
def nmV (n : Nm) : List Value := n.cells.toList
theorem nmcells_bang {r : List Nm} {t : Nat} (h : t < r.length * 3) : (nmcells r).toArray[t]! = (nmV r.toArray[t / 3]!)[t % 3]! := by
 have h1 : t / 3 < r.length := by omega
 have h2 := nmcells_get (l := r) (i := t / 3) (x := r[t / 3]) (List.getElem?_eq_getElem h1)
 have h3 : (((nmcells r).drop (t / 3 * 3)).take 3)[t % 3]? = (nmcells r)[t]? := by
  rw [List.getElem?_take_of_lt (by omega), List.getElem?_drop, show t / 3 * 3 + t % 3 = t by omega]
 rw [h2] at h3
 have h4 : r.toArray[t / 3]! = r[t / 3] := by simp [h1]
 rw [h4]
 show _ = (r[t / 3].cells.toList)[t % 3]!
 have h5 : t < (nmcells r).length := by rw [nmcells_length]; exact h
 rw [List.getElem!_eq_getElem?_getD, h3]
 simp [h5]
theorem flatK_nm (r : List Nm) : flatK nmV 3 r.toArray = (nmcells r).toArray := by
 refine ext_get! (by simp [nmcells_length]) fun t ht => ?_
 have ht2 : t < r.length * 3 := by simpa using ht
 rw [get_flatK nmV 3 r.toArray t (by simpa using ht2), nmcells_bang ht2]
theorem putCells_id (xs ys more : List Value) (h : ys.length = xs.length) : putCells id 0 ys.toArray (xs ++ more).toArray = (ys ++ more).toArray := by
 unfold putCells
 apply Array.ext'
 rw [Array.toList_mapIdx]
 refine List.ext_getElem? fun j => ?_
 simp only [List.getElem?_mapIdx, List.toList_toArray]
 by_cases hj : j < ys.length
 ·rw [List.getElem?_append_left (by omega), List.getElem?_append_left (by omega)]
  simp [hj, show j < xs.length by omega, List.getElem?_eq_getElem]
 ·rw [List.getElem?_append_right (by omega), List.getElem?_append_right (by omega), h]
  cases more[j - xs.length]? <;> simp [hj]
theorem Mem.putV {wc w : World} {H : List Ent} {g e n : Nat} {xs ys more : List Value} (M : Mem wc w (.blk g (xs ++ more).toArray e :: H)) (h : ys.length = xs.length) (os : Array Obj) :
 Mem wc (Go.Sort.grow (putRow id (Go.Sort.ahead w n) g 0 ys.toArray) os) (.blk g (ys ++ more).toArray e :: H) := by
 have B : w.heap[g]? = _ := M.blk 0 rfl
 have hlt := (Array.getElem?_eq_some_iff.1 B).1
 have M1 : Mem wc (putRow id (Go.Sort.ahead w n) g 0 ys.toArray) (.blk g (ys ++ more).toArray e :: H) := by
  refine M.change (e' := .blk g (ys ++ more).toArray e) 0 rfl rfl rfl ?_ (by simp) rfl rfl rfl fun k hk => ?_
  ·show (putRow id (Go.Sort.ahead w n) g 0 ys.toArray).heap[g]? = _
   simp only [putRow, mapBlock, heap_ahead, Array.getElem?_modify, B, if_true, Option.map_some, onCells, putCells_id xs ys more h]
  ·have : k ≠ g := fun e => hk (by subst e; simp [Ent.lo, Ent.hi])
   simp only [putRow, mapBlock, heap_ahead, Array.getElem?_modify, if_neg (Ne.symm this)]
 refine M1.grow ⟨rfl, rfl, rfl, by simp [Go.Sort.grow], fun k hk => Go.Sort.heap_grow_old _ _ hk⟩
theorem Mem.sortK {wc w : World} {H : List Ent} {g e n : Nat} {r r2 : List Nm} {more : List Value} (M : Mem wc w (.blk g (nmcells r ++ more).toArray e :: H)) (h : r2.length = r.length) (os : Array Obj) :
 Mem wc (sortWorldK nmV 3 w g 0 n r2.toArray os) (.blk g (nmcells r2 ++ more).toArray e :: H) := by
 unfold sortWorldK putRowK
 rw [flatK_nm]
 exact M.putV (by rw [nmcells_length, nmcells_length, h]) os
theorem sortNm_any {gf : FuncId} {cb : Array Value} (cf : Nm → Nm → Int) (hO : SWO (ltOf cf)) {wc w : World} {H : List Ent} {lo hi : Nat} {va : Option Addr} {vc : Nat} {r : List Nm}
 (M : Mem wc w (rowE lo hi 28 3 (.slice va r.length vc) r.length (nmcells r) :: H)) (hl : r.length ≤ 1000000) (hE : Enters Tryz.prog gf)
 (hC : ∀ (W : World) (E : Ent), Mem wc W (E :: H) → ∀ x y : Nm, Calls Tryz.prog gf (#[.agg x.cells, .agg y.cells] ++ cb) W fun e w' => e = .returned (.int .i64 (cf x y)) ∧ ∃ q os', w' = Go.Sort.grow (W.drewN q) os') :
 Calls Tryz.prog 89 #[.slice va r.length vc, .func (.func gf) #[] cb] w fun e w' => e = .returned (.tuple #[]) ∧ ∃ r2 lo' hi', r2.Perm r ∧ r2.Pairwise (fun a b => ¬ cf b a < 0) ∧ Mem wc w' (rowE lo' hi' 28 3 (.slice va r2.length vc) r2.length (nmcells r2) :: H) := by
 rcases Nat.eq_zero_or_pos r.length with h0 | h0
 ·obtain rfl := List.eq_nil_of_length_eq_zero h0
  exact (AnyF.slices_SortFunc_none laysF6 va vc _ w).mono fun e w' ⟨he, hw⟩ => ⟨he, [], lo, hi, .refl _, .nil, by rw [hw]; exact M⟩
 ·obtain ⟨g, cap, more, hv, hc1, hc2, hc3, M1⟩ := M.ofRow h0
  simp only [Value.slice.injEq] at hv
  obtain ⟨rfl, -, rfl⟩ := hv
  have B := M1.blk 0 rfl
  have hnl := nmcells_length r
  refine (AnyQ.slices_SortFunc laysF6 3 Tryz.isAgg28 Tryz.sizeOf28 nmV (fun _ => rfl) (fun x v hv => by simp [nmV] at hv; rcases hv with rfl | rfl | rfl <;> rfl) cf hO gf cb g 0 vc r.toArray w hE (fun m os dk hdk x y => ?_) (fun j hj => ?_) B.lt (by simp; omega)).mono fun e w' ⟨he, d', n, os, hp, hs, hw⟩ => ?_
  ·have hdl : dk.toList.length = r.length := by simpa using hdk
   exact hC _ _ (M1.sortK (r2 := dk.toList) hdl os) x y
  ·rw [flatK_nm] at hj ⊢
   have hj' : j < (nmcells r).length := by simpa using hj
   rw [Nat.zero_add]
   refine ⟨?_, B.frz j⟩
   rw [B.cells, List.getElem?_toArray, List.getElem?_append_left hj']
   simp [hj']
  ·obtain ⟨hp1, -, hp2⟩ := hp
   have hdl : d'.toList.length = r.length := by simpa using hp1
   have hx1 : d'.extract 0 r.length = d' := by
    have := Array.extract_size (xs := d')
    rwa [show d'.size = r.length by simpa using hp1] at this
   have hx2 : r.toArray.extract 0 r.length = r.toArray := by simp
   simp only [List.size_toArray] at hp2
   rw [hx1, hx2] at hp2
   have M2 := M1.sortK (n := n) (r2 := d'.toList) hdl os
   rw [Array.toArray_toList, ← hw] at M2
   have hl2 : (nmcells d'.toList).length = r.length * 3 := by rw [nmcells_length, hdl]
   refine ⟨he, d'.toList, g, g + 1, by simpa using hp2, ?_, ?_⟩
   ·refine List.pairwise_iff_getElem.2 fun i j hi hj hij => ?_
    have h9 := hs i j (Nat.zero_le _) hij (by simpa using hdl ▸ hj)
    unfold ltOf at h9
    have e1 : d'[j]! = d'.toList[j] := by rw [getElem!_pos d' j (by simpa using hj)]; simp
    have e2 : d'[i]! = d'.toList[i] := by rw [getElem!_pos d' i (by simpa using hi)]; simp
    rw [e1, e2] at h9
    simpa using h9
   ·have M3 := M2.toRow (xs := nmcells d'.toList) (sz := 3) (m := d'.toList.length) (cap := vc) 0 rfl (by rw [nmcells_length]) (by omega) hc2 (by rw [List.size_toArray, List.length_append, hl2, ← hc3, List.length_append, hnl]) (by rw [List.toList_toArray, ← nmcells_length]; exact List.take_left)
    exact M3
theorem cmpY_swo (f : Nm → Int) : SWO (ltOf fun x y => cmpY (f x) (f y)) := by
 have key : ∀ x y, ltOf (fun x y => cmpY (f x) (f y)) x y = decide (f x < f y) := fun x y => by
  unfold ltOf cmpY
  by_cases h1 : f x < f y
  ·simp [h1]
  ·by_cases h2 : f y < f x <;> simp [h1, h2]
 exact ⟨fun x => by rw [key]; simp, fun x y z h1 h2 => by rw [key] at *; simp at *; omega, fun x y z h1 h2 => by rw [key] at *; simp at *; omega⟩
theorem cmpY_lt {x y : Int} : cmpY x y < 0 ↔ x < y := by
 unfold cmpY
 split
 ·simp [*]
 ·split
  ·simp; omega
  ·simp; omega
theorem TrkM.one {ml : Mes Nm} {c : Nat} {K : List Ky} (T : TrkM ml K) (G : Good encNm ml c) {q : Nm × MapEntry} (hq : q ∈ ml) : ∃ r, q.2.val = tkVal (tkOf K q.1) r := by
 obtain ⟨j, p, hj, hp, -, hg⟩ := posK_some (k := q.1) (i := 0) (List.mem_map_of_mem hq)
 obtain ⟨j2, hj2⟩ := List.getElem?_of_mem hq
 have : j = j2 := nodup_at G.nodup hj hj2 hp
 subst this
 have e : p = q := Option.some.inj (hj.symm.trans hj2)
 obtain ⟨r, hr⟩ := T.val q.1
 rw [hg, e] at hr
 exact ⟨r, hr⟩
def decN (K : List Ky) (vs : Mes Nm) : List Nm := (vs.map (·.1)).filter fun n => (tkOf K n).decided
theorem decN_len (K : List Ky) (vs : Mes Nm) : (decN K vs).length ≤ vs.length := by
 unfold decN; refine Nat.le_trans (List.length_filter_le ..) ?_; rw [List.length_map]; exact Nat.le_refl _
theorem nodup_le {α : Type} : ∀ {a b : List α}, a.Nodup → (∀ x ∈ a, x ∈ b) → a.length ≤ b.length
 | [], _, _, _ => Nat.zero_le _
 | x :: a, b, hn, hs => by
   obtain ⟨b1, b2, rfl⟩ := List.append_of_mem (hs x (by simp))
   rw [List.nodup_cons] at hn
   have := nodup_le (a := a) (b := b1 ++ b2) hn.2 fun y hy => by
    rcases List.mem_append.1 (hs y (by simp [hy])) with h | h
    ·exact List.mem_append_left _ h
    ·rcases List.mem_cons.1 h with h | h
     ·exact absurd (h ▸ hy) hn.1
     ·exact List.mem_append_right _ h
   simp only [List.length_append, List.length_cons] at this ⊢
   omega
set_option maxHeartbeats 2000000 in
theorem decided_any {w0 w : World} {H : List Ent} {b c : Nat} {ml : Mes Nm} {K : List Ky} (G : Good encNm ml c) (T : TrkM ml K) (M : Mem w0 w (mapX b ml c :: H)) (hl : ml.length ≤ 1000) :
 Calls Tryz.prog 50 #[.map (some b)] w fun e w' => ∃ lo hi a cap r, e = .returned (.slice a r.length cap) ∧ Mem w0 w' (rowE lo hi 28 3 (.slice a r.length cap) r.length (nmcells r) :: mapX b ml c :: H) ∧ r.Nodup ∧ r.length ≤ ml.length ∧ (∀ n, n ∈ r ↔ (tkOf K n).decided = true) ∧ r.Pairwise fun p q => ¬ (tkOf K q).commit < (tkOf K p).commit := by
 refine qI Tryz.func50 23 ?_; intro a S
 refine wp_seq ?_
 skip
 refine wp_region_lit (st_box S M rfl rfl rfl #[_] rfl ?_); intro a w1 bB S M hB
 refine qG [1] S ?_; intro a S
 refine nxA (qG [1] S ?_); intro a S
 refine nxC (wp_seq (nxD (qR [1] S M ?_))); intro a S
 refine st_rangeM (pos := 1) S M Tryz.underlying147 rfl rfl rfl rfl ?_; intro a w2 bI S M hB
 refine nxC (wp_block (wp_loop_g (fun m a w' => ∃ (vs : Mes Nm) (va : Option Addr) (vc lo hi : Nat), (∀ p ∈ vs, p ∈ ml) ∧ vs.Nodup ∧ m = ml.length - vs.length ∧ Sees 23 a [(1, .pointer (some ⟨bB, 0, none⟩)), (3, .slice va (decN K vs).length vc), (7, .pointer (some ⟨bI, 0, none⟩))] ∧ Mem w0 w' (rowE lo hi 28 3 (.slice va (decN K vs).length vc) (decN K vs).length (nmcells (decN K vs)) :: itX bI b c (bornsM vs) c :: .blk bB #[.map (some b)] 147 :: mapX b ml c :: H)) (ml.length) ?_ ?_))
 ·skip
  replace M := M.rowNil 28 3
  exact ⟨[], none, 0, _, _, fun p h => (by cases h), .nil, rfl, S.sub _ rfl, M⟩
 intro m a wl
 rintro ⟨vs, va, vc, lo, hi, hvs, hnd, rfl, S, M⟩
 have hvl : vs.length ≤ ml.length := nodup_le hnd hvs
 have hdl := decN_len K vs
 refine nxD (st_nextM (pos := 1) (pm := 3) S M (G) (hvs) rfl rfl rfl rfl rfl ?_ ?_)
 ·intro hAll; intro a S
  refine qG [1] S ?_; intro a S
  refine nxC (wp_seq (cF S (wp_exit (then_exit (then_exit (block_hit (nxE (qG [1] S ?_)))))))); intro a S
  refine qY S (y_makeFunc (fs := []) (cs := [.tmp 1]) S rfl rfl) ?_; intro a S
  refine qC (xs := [.tmp 19, .tmp 20]) S (qE Tryz.func89) rfl (sortNm_any (gf := 90) (cb := #[.pointer (some ⟨bB, 0, none⟩)]) (byC K) (cmpY_swo fun n => ((tkOf K n).commit : Int)) M (by omega) (enters_of Tryz.func90 (by decide) rfl) (fun W E MW x y => byC_any (A := [E, _]) G T MW x y)) ?_
  rintro _ w3 ⟨rfl, r2, lo2, hi2, hperm, hsort, M1⟩; refine ⟨_, rfl, ?_⟩; intro a S; replace M := M1; clear M1; rw [← hperm.length_eq] at S
  refine nxA (qG [1, 1] S ?_); intro a S
  refine nxC (wp_ret (qO S ?_))
  skip
  refine ⟨_, _, _, _, r2, rfl, (M.drop 1).drop 1, ?_, ?_, ?_, ?_⟩
  ·have hp9 : vs.Perm ml := (List.perm_ext_iff_of_nodup hnd (List.Pairwise.of_map (·.1) (fun a b h e => h (by rw [e])) G.nodup)).2 fun p => ⟨hvs p, hAll p⟩
   have hn9 : (vs.map (·.1)).Nodup := (List.Perm.map (·.1) hp9).nodup_iff.2 G.nodup
   exact hperm.nodup_iff.2 (hn9.filter _)
  ·rw [hperm.length_eq]; omega
  ·intro n
   rw [hperm.mem_iff]
   unfold decN
   rw [List.mem_filter]
   refine ⟨fun h => h.2, fun h => ⟨?_, h⟩⟩
   by_cases hk : n ∈ ml.map (·.1)
   ·obtain ⟨p, hp, rfl⟩ := List.mem_map.1 hk
    exact List.mem_map_of_mem (hAll p hp)
   ·rw [T.keys] at hk
    unfold tkOf at h
    rw [keyK_none hk] at h
    cases h
  ·exact hsort.imp fun {p q} h h2 => h (cmpY_lt.2 (by omega))
 intro q hq hnv; intro a w4 S M
 simp only [List.set_cons_zero, List.set_cons_succ] at M
 refine qG [1] S ?_; intro a S
 refine nxC (wp_seq (cT S (wp_skip (then_normal (wp_block (wp_seq ?_))))))
 obtain ⟨r0, hr0⟩ := T.one G hq
 refine wp_region_lit (qY S (y_entryM (pos := 1) (pm := 3) S M (G) hq rfl rfl rfl) ?_); intro a S
 rw [hr0] at S
 refine qY S (y_extract S rfl rfl) ?_; intro a S
 refine qG [1] S ?_; intro a S
 refine qN S M #[.int .i64 0, .int .i64 0, .int .i64 0] ?_; intro a w5 bN S M hB
 refine qN S M #[.bool false, .bool false, .bool false, .bool false, .int .i64 0, .slice none 0 0] ?_; intro a w6 bY S M hB
 refine qS (sz := 3) (us := [_, _, _]) S M 1 ?_; intro w7 M
 refine qS (sz := 6) (us := [_, _, _, _, _, _]) S M 0 ?_; intro w8 M
 refine nxA (qR [4, 1] S M ?_); intro a S
 refine nxC (qf 14 S ?_ ?_)
 ·intro h14 S
  refine cF S (wp_skip (block_normal (then_normal ?_)))
  skip
  have hnd2 : (vs ++ [q]).Nodup := by
   rw [List.nodup_append]
   exact ⟨hnd, by simp, fun x hx y hy e => hnv (by simp at hy; rw [← hy, ← e]; exact hx)⟩
  have hvs2 : ∀ p ∈ vs ++ [q], p ∈ ml := fun p hp => by
   rcases List.mem_append.1 hp with h | h
   ·exact hvs p h
   ·obtain rfl := List.mem_singleton.1 h; exact hq
  have hlt : (vs ++ [q]).length ≤ ml.length := nodup_le hnd2 hvs2
  rw [List.length_append] at hlt
  have hm2 : ml.length - (vs ++ [q]).length < ml.length - vs.length := by rw [List.length_append]; simp at hlt ⊢; omega
  have hdec : decN K (vs ++ [q]) = decN K vs ++ if (tkOf K q.1).decided = true then [q.1] else [] := by
   unfold decN
   rw [List.map_append, List.filter_append]
   congr 1
   by_cases h : (tkOf K q.1).decided = true <;> simp [h]
  first
   | (rw [if_pos h14] at hdec
      refine ⟨ml.length - (vs ++ [q]).length, hm2, vs ++ [q], aA, cA, loA, hiA, hvs2, hnd2, rfl, ?_, ?_⟩
      ·rw [hdec, List.length_append]; exact S.sub _ rfl
      ·rw [hdec, List.length_append, nmcells_snoc]; exact ((M.drop 1).drop 1).drop 1)
   | (rw [if_neg (by simpa using h14), List.append_nil] at hdec
      refine ⟨ml.length - (vs ++ [q]).length, hm2, vs ++ [q], va, vc, lo, hi, hvs2, hnd2, rfl, ?_, ?_⟩
      ·rw [hdec]; exact S.sub _ rfl
      ·rw [hdec]; exact (M.drop 0).drop 0)
 intro h14 S
 refine cT S (wp_region_lit (qG [1] S ?_)); intro a S
 refine qY S (qL3 S M 1) ?_; intro a S
 refine st_lit (ps := [(0, .tmp 16)]) (e := 28) (sz := 3) (zl := [.int .i64 0, .int .i64 0, .int .i64 0]) (cs := [_, _, _]) S M rfl rfl (by kernel_rfl) rfl (rfl) ?_; intro a w9 bZ S M hB
 refine st_append (e := 28) (sz := 3) (by_ := 24) (zc := [.int .i64 0, .int .i64 0, .int .i64 0]) S M 3 rfl rfl (by kernel_rfl) rfl (by decide) rfl rfl rfl (show Rd _ _ _ 3 _ 1 [.int .i64 q.1.stamp, .int .i64 q.1.inc, .int .i64 q.1.try_] from M.sliceAt 0 rfl (M.cellsAt (k := 3) 0 rfl rfl) rfl (Nat.le_refl _) (by unfold maxLen; omega)) (rfl) (by omega) (by unfold maxLen; omega) ?_; intro a w10 vA loA hiA S M
 obtain ⟨aA, cA, rfl, -, -⟩ := (M.readAll 0 rfl (by unfold maxLen; omega)).form
 refine qY S (y_assign S rfl) ?_; intro a S
 refine wpList_nil (block_normal (then_normal ?_))
 skip
 have hnd2 : (vs ++ [q]).Nodup := by
  rw [List.nodup_append]
  exact ⟨hnd, by simp, fun x hx y hy e => hnv (by simp at hy; rw [← hy, ← e]; exact hx)⟩
 have hvs2 : ∀ p ∈ vs ++ [q], p ∈ ml := fun p hp => by
  rcases List.mem_append.1 hp with h | h
  ·exact hvs p h
  ·obtain rfl := List.mem_singleton.1 h; exact hq
 have hlt : (vs ++ [q]).length ≤ ml.length := nodup_le hnd2 hvs2
 rw [List.length_append] at hlt
 have hm2 : ml.length - (vs ++ [q]).length < ml.length - vs.length := by rw [List.length_append]; simp at hlt ⊢; omega
 have hdec : decN K (vs ++ [q]) = decN K vs ++ if (tkOf K q.1).decided = true then [q.1] else [] := by
  unfold decN
  rw [List.map_append, List.filter_append]
  congr 1
  by_cases h : (tkOf K q.1).decided = true <;> simp [h]
 first
  | (rw [if_pos h14] at hdec
     refine ⟨ml.length - (vs ++ [q]).length, hm2, vs ++ [q], aA, cA, loA, hiA, hvs2, hnd2, rfl, ?_, ?_⟩
     ·rw [hdec, List.length_append]; exact S.sub _ rfl
     ·rw [hdec, List.length_append, nmcells_snoc]; exact ((M.drop 1).drop 1).drop 1)
  | (rw [if_neg (by simpa using h14), List.append_nil] at hdec
     refine ⟨ml.length - (vs ++ [q]).length, hm2, vs ++ [q], va, vc, lo, hi, hvs2, hnd2, rfl, ?_, ?_⟩
     ·rw [hdec]; exact S.sub _ rfl
     ·rw [hdec]; exact (M.drop 0).drop 0)
theorem mayO_any (va : Option Addr) (vc : Nat) (l : List Sn) (w : World) (hv : Ss 0 w.heap.size w (.slice va l.length vc) l) (hl : l.length ≤ 200) :
 Calls Tryz.prog 67 #[.slice va l.length vc] w fun e w' => ∃ b, e = .returned (.bool b) ∧ Below w.heap.size w w' ∧ (b = true ↔ mayS l) := by
 have M := Mem.start w
 refine qI Tryz.func67 11 ?_; intro a S
 refine nxD (qG [1] S ?_); intro a S
 refine nxA (qG [1] S ?_); intro a S
 refine qC (xs := [.tmp 6]) S (qE Tryz.func49) rfl (tracks_any va vc l _ (M.argW hv) hl) ?_
 rintro e w1 h
 obtain ⟨mv, b, rfl, hK, hb⟩ : ∃ mv b, e = .returned (.tuple #[mv, .bool b]) ∧ Below w.heap.size w w1 ∧ (b = true ↔ mayS l) := by
  rcases h with ⟨rfl, h1, h2⟩ | ⟨bM, ml, c, K, rfl, M1, h2⟩
  ·exact ⟨_, _, rfl, h1, fun h => (by cases h), fun h => absurd h h2⟩
  ·exact ⟨_, _, rfl, M1.below, fun _ => fun j y hy => h2.may j y (List.getElem?_eq_some_iff.1 hy).1 hy, fun _ => rfl⟩
 refine ⟨_, rfl, ?_⟩; intro a S; replace M := M.grow hK
 refine qG [1, 1, 1, 1, 1] S ?_; intro a S
 refine nxA (qG [1, 1] S ?_); intro a S
 refine nxC (wp_ret (qO S ?_))
 exact ⟨b, rfl, M.below, hb⟩
theorem rNamed_any (n : Nm) (w : World) : Calls Tryz.prog 103 #[.agg n.cells] w fun e w' => e = .returned (.bool n.named) ∧ Below w.heap.size w w' := by
 have M := Mem.start w
 refine qI Tryz.func103 31 ?_; intro a S
 refine nxD (st_box S M rfl rfl rfl #[_, _, _] rfl ?_); intro a w1 b1 S M hB
 refine qG [1] S ?_; intro a S
 refine nxA (qR [1, 1, 1, 1] S M ?_); intro a S
 refine qf 6 S ?_ ?_
 ·intro h6 S
  refine qG [0, 0, 0, 1, 1, 0, 0, 0, 1, 1, 0, 0, 0, 1, 1, 0, 0, 0, 1, 1, 0, 0, 0, 1, 1] S ?_; intro a S
  replace S := S.keep [0, 1, 2]
  refine nxC (wp_ret (qO S ?_))
  refine ⟨ret_bool ?_, M.below⟩; clear S M; rw [Bool.eq_iff_iff, named_iff]; (first | (simp; done) | (simp; omega) | omega)
 intro h6 S
 refine qR [1, 1, 1, 1, 1] S M ?_; intro a S
 refine qf 11 S ?_ ?_
 ·intro h11 S
  refine qG [0, 0, 0, 1, 1, 0, 0, 0, 1, 1, 0, 0, 0, 1, 1, 0, 0, 0, 1, 1] S ?_; intro a S
  replace S := S.keep [0, 1, 2]
  refine nxC (wp_ret (qO S ?_))
  refine ⟨ret_bool ?_, M.below⟩; clear S M; rw [Bool.eq_iff_iff, named_iff]; (first | (simp; done) | (simp; omega) | omega)
 intro h11 S
 refine qR [2, 1, 1, 1, 1] S M ?_; intro a S
 refine qf 16 S ?_ ?_
 ·intro h16 S
  refine qG [0, 0, 0, 1, 1, 0, 0, 0, 1, 1, 0, 0, 0, 1, 1] S ?_; intro a S
  replace S := S.keep [0, 1, 2]
  refine nxC (wp_ret (qO S ?_))
  refine ⟨ret_bool ?_, M.below⟩; clear S M; rw [Bool.eq_iff_iff, named_iff]; (first | (simp; done) | (simp; omega) | omega)
 intro h16 S
 refine qR [2, 1, 1, 1, 1] S M ?_; intro a S
 refine qf 21 S ?_ ?_
 ·intro h21 S
  refine qG [0, 0, 0, 1, 1, 0, 0, 0, 1, 1] S ?_; intro a S
  replace S := S.keep [0, 1, 2]
  refine nxC (wp_ret (qO S ?_))
  refine ⟨ret_bool ?_, M.below⟩; clear S M; rw [Bool.eq_iff_iff, named_iff]; (first | (simp; done) | (simp; omega) | omega)
 intro h21 S
 refine qR [3, 1, 1, 1, 1] S M ?_; intro a S
 refine qf 26 S ?_ ?_
 ·intro h26 S
  refine qG [0, 0, 0, 1, 1] S ?_; intro a S
  replace S := S.keep [0, 1, 2]
  refine nxC (wp_ret (qO S ?_))
  refine ⟨ret_bool ?_, M.below⟩; clear S M; rw [Bool.eq_iff_iff, named_iff]; (first | (simp; done) | (simp; omega) | omega)
 intro h26 S
 refine qR [3, 1, 1, 1, 1] S M ?_; intro a S
 replace S := S.keep [0, 1, 2]
 refine nxC (wp_ret (qO S ?_))
 refine ⟨ret_bool ?_, M.below⟩; clear S M; rw [Bool.eq_iff_iff, named_iff]; (first | (simp; done) | (simp; omega) | omega)
def lastB (x : List Wr) (k : Nat) : Int := match k with
 | 0 => -1
 | k + 1 => ((x[k]?).map Wr.block).getD 0
def givenB (g t : Int) : Bool := bitsB g && bitsB t && (andV g t == 0)
set_option maxHeartbeats 2000000 in
theorem may27_any (va : Option Addr) (vc : Nat) (l : List Sn) (w : World) (hv : Ss 0 w.heap.size w (.slice va l.length vc) l) :
 Calls Tryz.prog 70 #[.slice va l.length vc] w fun e w' => ∃ b, e = .returned (.bool b) ∧ Below w.heap.size w w' ∧ (b = true ↔ mayS l) := by
 have M := Mem.start w
 have hl := hv.2.1
 unfold maxLen at hl
 refine qI Tryz.func70 111 ?_; intro a S
 refine nxD (qG [1] S ?_); intro a S
 refine nxC (wp_seq (nxD (qG [1] S ?_))); intro a S
 refine nxC (wp_block (wp_loop_g (fun m a w' => ∃ (k : Nat), k ≤ l.length ∧ m = l.length - k ∧ Sees 111 a [(0, .slice va l.length vc), (3, .int .i64 (k : Int))] ∧ Mem w w' [] ∧ ∀ (j : Nat) y, j < k → l[j]? = some y → condR l j y) (l.length) ?_ ?_))
 ·skip
  exact ⟨0, Nat.zero_le _, rfl, S.sub _ rfl, M, fun j y h => absurd h (by omega)⟩
 intro m a wl
 rintro ⟨k, hk, rfl, S, M, hpre⟩
 refine wp_seq (nxD (qG [1, 1] S ?_)); intro a S
 refine qY S (y_lenR (E := 157) S rfl ((M.arg hv)) (by kernel_rfl)) ?_; intro a S
 refine qG [1] S ?_; intro a S
 refine nxC (qf 10 S ?_ ?_)
 ·intro h10 S
  refine cF S (wp_exit (then_exit (then_exit (block_hit (nxE (qG [1] S ?_)))))); intro a S
  refine nxC (wp_ret (qO S ?_))
  first
   | (refine ⟨false, rfl, M.below, fun h => (by cases h), fun h => absurd h (hno fun hc => ?_)⟩
      rw [hcd] at hc
      omega)
   | (obtain rfl : k = l.length := by omega
      exact ⟨true, rfl, M.below, fun _ => fun j y hy => hpre j y (List.getElem?_eq_some_iff.1 hy).1 hy, fun _ => rfl⟩)
 intro h10 S
 refine cT S (wp_skip (then_normal (wp_seq (wp_block (wp_seq ?_)))))
 obtain ⟨x, hx⟩ : ∃ x, l[k]? = some x := ⟨_, List.getElem?_eq_getElem (by omega)⟩
 have hno : ¬ condR l k x → ¬ mayS l := fun h h2 => h (h2 k x hx)
 obtain ⟨b0, hb0⟩ : ∃ z, z = fstI l 0 x.name := ⟨_, rfl⟩
 obtain ⟨b3, hb3⟩ : ∃ z, z = fstI l 3 x.name := ⟨_, rfl⟩
 obtain ⟨bk, hbk⟩ : ∃ z, z = fstI l x.kind x.name := ⟨_, rfl⟩
 have hcd : condR l k x = ((0 ≤ x.kind ∧ x.kind ≤ 5 ∧ x.name.named = true) ∧ (0 ≤ b0 ∧ b0 ≤ (k : Int)) ∧ (x.kind = 1 ∨ x.kind = 2 ∨ bk = (k : Int)) ∧
  ((x.kind = 1 ∨ x.kind = 2) → (0 ≤ x.block ∧ x.block < 32) ∧ ¬ (0 ≤ b3 ∧ b3 < (k : Int))) ∧ (x.kind = 4 → x.e = 0 → 0 ≤ b3 ∧ b3 ≤ (k : Int)) ∧ (x.kind = 5 → 0 ≤ b3 ∧ b3 ≤ (k : Int))) := by rw [hb0, hb3, hbk]; rfl
 refine wp_region_lit (qG [1, 1] S ?_); intro a S
 refine qY S (qX 157 14 S ((M.arg hv))) ?_; intro a S
 try simp only [Int.toNat_natCast, Nat.mul_one, Nat.zero_add] at S
 refine qY S (y_loadAgg S (by kernel_rfl) rfl rfl ((M.arg hv).at_.row (i := k) (scells_get hx) rfl)) ?_; intro a S
 refine qN S M #[.int .i8 0, .int .i64 0, .int .i64 0, .int .i64 0, .int .i64 0, .int .u8 0, .int .u8 0, .int .u8 0, .int .u8 0, .int .u8 0, .int .u8 0, .int .u8 0, .int .u8 0, .int .i64 0] ?_; intro a w1 bX S M hB
 refine qS (sz := 14) (us := [_, _, _, _, _, _, _, _, _, _, _, _, _, _]) S M 0 ?_; intro w2 M
 refine nxC (wp_cut (fun a w' => (0 ≤ x.kind ∧ x.kind ≤ 5 ∧ x.name.named = true) ∧ ∃ bX, Sees 111 a [(0, .slice va l.length vc), (3, .int .i64 (k : Int)), (4, .pointer (some ⟨bX, 0, none⟩))] ∧ Mem w w' [.blk bX x.cellsL.toArray 157]) ?_ ?_)
 ·skip
  refine nxD (qR [1, 1, 1, 1] S M ?_); intro a S
  refine qi 20 S ?_ ?_
  ·intro h20 S
   refine qG [0, 0, 0, 1, 1, 0, 0, 0, 0, 1] S ?_; intro a S
   replace S := S.keep [0, 3, 10, 4, 30]
   refine nxC (cT S (nxD (qG [1] S ?_))); intro a S
   refine nxC (wp_ret (then_ret (block_ret (then_ret (then_ret (block_ret (then_ret (qO S ?_))))))))
   refine ⟨false, rfl, M.below, fun h => (by cases h), fun h => absurd h (hno fun hc => ?_)⟩
   rw [hcd] at hc
   first
    | omega
    | (rw [hc.1.2.2] at h29; cases h29)
    | (have := hc.1.2.2; simp_all)
  intro h20 S
  refine qR [1, 1, 1, 1, 1] S M ?_; intro a S
  refine qi 25 S ?_ ?_
  ·intro h25 S
   refine qG [0, 0, 0, 0, 1] S ?_; intro a S
   replace S := S.keep [0, 3, 10, 4, 30]
   refine nxC (cT S (nxD (qG [1] S ?_))); intro a S
   refine nxC (wp_ret (then_ret (block_ret (then_ret (then_ret (block_ret (then_ret (qO S ?_))))))))
   refine ⟨false, rfl, M.below, fun h => (by cases h), fun h => absurd h (hno fun hc => ?_)⟩
   rw [hcd] at hc
   first
    | omega
    | (rw [hc.1.2.2] at h29; cases h29)
    | (have := hc.1.2.2; simp_all)
  intro h25 S
  refine qG [2] S ?_; intro a S
  refine qY S (qL3 S M 0) ?_; intro a S
  refine qQ (xs := [.tmp 27]) S (qE Tryz.func103) rfl (rNamed_any x.name _) M ?_; intro a w3 S hK M
  refine qG [1, 1] S ?_; intro a S
  replace S := S.keep [0, 3, 10, 4, 30]
  refine nxC (st_tils (t := 30) S rfl ?_ ?_)
  ·intro h30 S
   refine cF S (wp_skip (then_normal ?_))
   exact ⟨⟨by omega, by omega, by simp_all⟩, bX, S.sub _ rfl, M⟩
  intro h30 S
  refine cT S (nxD (qG [1] S ?_)); intro a S
  refine nxC (wp_ret (then_ret (block_ret (then_ret (then_ret (block_ret (then_ret (qO S ?_))))))))
  refine ⟨false, rfl, M.below, fun h => (by cases h), fun h => absurd h (hno fun hc => ?_)⟩
  rw [hcd] at hc
  first
   | omega
   | (rw [hc.1.2.2] at h29; cases h29)
   | (have := hc.1.2.2; simp_all)
 intro a wc
 rintro ⟨hnm, bX, S, M⟩
 refine wp_seq (wp_regionK [] #[false, false, false, false, false, false, false, false, false, false] rfl M (by kernel_rfl) ?_); intro w4 M
 refine kP 0 S ?_; intro a S
 refine kF 1 1 S ?_; intro a S
 refine kR 2 S rfl M (fun w M => qL3 S M 0) ?_; intro a S
 refine kP 4 S ?_; intro a S
 refine kF 5 1 S ?_; intro a S
 refine kR 6 S rfl M (fun w M => qL3 S M 0) ?_; intro a S
 refine k_one 3 rfl (by kernel_rfl) ?_
 refine qQ (xs := [.tmp 31, .const (.int .i8 0), .tmp 33]) S (qE Tryz.func102) rfl (first27_any va vc l 0 x.name _ (M.argW hv)) M ?_; intro a w5 S hK M
 refine nxC ⟨fun _ => hK, ?_⟩
 refine k_one 7 rfl (by kernel_rfl) ?_
 refine qQ (xs := [.tmp 35, .const (.int .i8 3), .tmp 37]) S (qE Tryz.func102) rfl (first27_any va vc l 3 x.name _ (M.argW hv)) M ?_; intro a w6 S hK M
 refine nxC ⟨fun _ => hK, ?_⟩
 refine kP 8 S ?_; intro a S
 refine kP 9 S ?_; intro a S
 refine k_end (by kernel_rfl) ?_
 refine then_normal (wp_cut (fun a w' => (0 ≤ b0 ∧ b0 ≤ (k : Int)) ∧ (x.kind = 1 ∨ x.kind = 2 ∨ bk = (k : Int)) ∧ ∃ bX, Sees 111 a [(0, .slice va l.length vc), (3, .int .i64 (k : Int)), (4, .pointer (some ⟨bX, 0, none⟩)), (6, .int .i64 b3)] ∧ Mem w w' [.blk bX x.cellsL.toArray 157]) ?_ ?_)
 ·skip
  refine nxD ?_
  rw [← hb0, ← hb3] at S
  refine qY S (y_move S rfl) ?_; intro a S
  refine qG [1, 1] S ?_; intro a S
  refine qi 41 S ?_ ?_
  ·intro h41 S
   refine qG [0, 0, 0, 1, 1, 0, 0, 0, 0, 0, 0, 0, 0, 0, 0, 0, 0, 0, 0, 0, 0, 0, 0, 1] S ?_; intro a S
   replace S := S.keep [0, 3, 4, 5, 6, 65]
   refine nxC (cT S (nxD (qG [1] S ?_))); intro a S
   refine nxC (wp_ret (then_ret (block_ret (then_ret (then_ret (block_ret (then_ret (qO S ?_))))))))
   refine ⟨false, rfl, M.below, fun h => (by cases h), fun h => absurd h (hno fun hc => ?_)⟩
   rw [hcd] at hc
   omega
  intro h41 S
  refine qG [1, 1, 1, 1, 1] S ?_; intro a S
  refine qi 46 S ?_ ?_
  ·intro h46 S
   refine qG [0, 0, 0, 0, 0, 0, 0, 0, 0, 0, 0, 0, 0, 0, 0, 0, 0, 0, 1] S ?_; intro a S
   replace S := S.keep [0, 3, 4, 5, 6, 65]
   refine nxC (cT S (nxD (qG [1] S ?_))); intro a S
   refine nxC (wp_ret (then_ret (block_ret (then_ret (then_ret (block_ret (then_ret (qO S ?_))))))))
   refine ⟨false, rfl, M.below, fun h => (by cases h), fun h => absurd h (hno fun hc => ?_)⟩
   rw [hcd] at hc
   omega
  intro h46 S
  refine qR [1, 1, 1, 1] S M ?_; intro a S
  refine qf 50 S ?_ ?_
  ·intro h50 S
   refine qG [0, 0, 0, 1, 1, 0, 0, 0, 0, 0, 0, 0, 0, 1, 1] S ?_; intro a S
   replace S := S.keep [0, 3, 4, 5, 6, 65]
   refine nxC (cF S (wp_skip (then_normal ?_)))
   exact ⟨by omega, by omega, bX, S.sub _ rfl, M⟩
  intro h50 S
  refine qR [1, 1, 1, 1, 1] S M ?_; intro a S
  refine qf 55 S ?_ ?_
  ·intro h55 S
   refine qG [0, 0, 0, 0, 0, 0, 0, 0, 1, 1] S ?_; intro a S
   replace S := S.keep [0, 3, 4, 5, 6, 65]
   refine nxC (cF S (wp_skip (then_normal ?_)))
   exact ⟨by omega, by omega, bX, S.sub _ rfl, M⟩
  intro h55 S
  refine qR [1, 1, 1, 2] S M ?_; intro a S
  refine qY S (qL3 S M 0) ?_; intro a S
  refine qC (xs := [.tmp 56, .tmp 58, .tmp 60]) S (qE Tryz.func102) rfl (first27_any va vc l x.kind x.name _ (M.argW hv)) ?_
  rintro _ w7 ⟨rfl, hK⟩; refine ⟨_, rfl, ?_⟩; intro a S; replace M := M.grow hK; clear hK
  rw [← hbk] at S
  refine qG [1, 1, 1, 1] S ?_; intro a S
  replace S := S.keep [0, 3, 4, 5, 6, 65]
  refine nxC (qf 65 S ?_ ?_)
  ·intro h65 S
   refine cF S (wp_skip (then_normal ?_))
   exact ⟨by omega, by omega, bX, S.sub _ rfl, M⟩
  intro h65 S
  refine cT S (nxD (qG [1] S ?_)); intro a S
  refine nxC (wp_ret (then_ret (block_ret (then_ret (then_ret (block_ret (then_ret (qO S ?_))))))))
  refine ⟨false, rfl, M.below, fun h => (by cases h), fun h => absurd h (hno fun hc => ?_)⟩
  rw [hcd] at hc
  omega
 intro a wc
 rintro ⟨hbg, hks, bX, S, M⟩
 refine nxD (qR [1, 1] S M ?_); intro a S
 refine nxC (wp_block (wp_seq (nxD (qG [1, 1] S ?_)))); intro a S
 refine nxC (qi 68 S ?_ ?_)
 ·intro h68 S
  refine cT S (wp_skip (then_normal (cT S (nxD (qR [5, 1, 1, 1] S M ?_))))); intro a S
  refine qi 74 S ?_ ?_
  ·intro h74 S
   refine qG [0, 0, 0, 1, 1, 0, 0, 0, 0, 0, 0, 0, 1] S ?_; intro a S
   replace S := S.keep [0, 3, 4, 6, 67, 68, 87]
   refine nxC (cT S (nxD (qG [1] S ?_))); intro a S
   refine nxC (wp_ret (block_ret (block_ret (then_ret (then_ret (block_ret (then_ret (qO S ?_))))))))
   first
    | (refine ⟨false, rfl, M.below, fun h => (by cases h), fun h => absurd h (hno fun hc => ?_)⟩
       rw [hcd] at hc
       omega)
    | (obtain rfl : k = l.length := by omega
       exact ⟨true, rfl, M.below, fun _ => fun j y hy => hpre j y (List.getElem?_eq_some_iff.1 hy).1 hy, fun _ => rfl⟩)
  intro h74 S
  refine qR [5, 1, 1, 1, 1] S M ?_; intro a S
  refine qi 79 S ?_ ?_
  ·intro h79 S
   refine qG [0, 0, 0, 0, 0, 0, 0, 1] S ?_; intro a S
   replace S := S.keep [0, 3, 4, 6, 67, 68, 87]
   refine nxC (cT S (nxD (qG [1] S ?_))); intro a S
   refine nxC (wp_ret (block_ret (block_ret (then_ret (then_ret (block_ret (then_ret (qO S ?_))))))))
   first
    | (refine ⟨false, rfl, M.below, fun h => (by cases h), fun h => absurd h (hno fun hc => ?_)⟩
       rw [hcd] at hc
       omega)
    | (obtain rfl : k = l.length := by omega
       exact ⟨true, rfl, M.below, fun _ => fun j y hy => hpre j y (List.getElem?_eq_some_iff.1 hy).1 hy, fun _ => rfl⟩)
  intro h79 S
  refine qG [1, 1, 1] S ?_; intro a S
  refine qf 82 S ?_ ?_
  ·intro h82 S
   refine qG [0, 0, 0, 1, 1] S ?_; intro a S
   replace S := S.keep [0, 3, 4, 6, 67, 68, 87]
   refine nxC (cF S (wp_skip (block_normal (block_normal (nxF (qG [1] S ?_)))))); intro a S
   refine qA S ?_; intro a S
   refine qG [1] S ?_; intro a S
   refine nxC ?_
   skip
   replace M := M.drp 0
   refine ⟨l.length - (k + 1), by omega, k + 1, by omega, rfl, S.sub _ rfl, M, fun j y hj hy => ?_⟩
   rcases Nat.lt_or_ge j k with h | h
   ·exact hpre j y h hy
   ·obtain rfl : j = k := by omega
    rw [hx] at hy; obtain rfl := Option.some.inj hy
    rw [hcd]
    exact ⟨hnm, hbg, hks, by omega, by omega, by omega⟩
  intro h82 S
  refine qG [1, 1, 1, 1, 1] S ?_; intro a S
  replace S := S.keep [0, 3, 4, 6, 67, 68, 87]
  refine nxC (qi 87 S ?_ ?_)
  ·intro h87 S
   refine cT S (nxD (qG [1] S ?_)); intro a S
   refine nxC (wp_ret (block_ret (block_ret (then_ret (then_ret (block_ret (then_ret (qO S ?_))))))))
   first
    | (refine ⟨false, rfl, M.below, fun h => (by cases h), fun h => absurd h (hno fun hc => ?_)⟩
       rw [hcd] at hc
       omega)
    | (obtain rfl : k = l.length := by omega
       exact ⟨true, rfl, M.below, fun _ => fun j y hy => hpre j y (List.getElem?_eq_some_iff.1 hy).1 hy, fun _ => rfl⟩)
  intro h87 S
  refine cF S (wp_skip (block_normal (block_normal (nxF (qG [1] S ?_))))); intro a S
  refine qA S ?_; intro a S
  refine qG [1] S ?_; intro a S
  refine nxC ?_
  skip
  replace M := M.drp 0
  refine ⟨l.length - (k + 1), by omega, k + 1, by omega, rfl, S.sub _ rfl, M, fun j y hj hy => ?_⟩
  rcases Nat.lt_or_ge j k with h | h
  ·exact hpre j y h hy
  ·obtain rfl : j = k := by omega
   rw [hx] at hy; obtain rfl := Option.some.inj hy
   rw [hcd]
   exact ⟨hnm, hbg, hks, by omega, by omega, by omega⟩
 intro h68 S
 refine cF S (wp_region_lit (qG [1, 1] S ?_)); intro a S
 refine nxC (qi 68 S ?_ ?_)
 ·intro h68 S
  refine cT S (nxD (qR [5, 1, 1, 1] S M ?_)); intro a S
  refine qi 74 S ?_ ?_
  ·intro h74 S
   refine qG [0, 0, 0, 1, 1, 0, 0, 0, 0, 0, 0, 0, 1] S ?_; intro a S
   replace S := S.keep [0, 3, 4, 6, 67, 68, 87]
   refine nxC (cT S (nxD (qG [1] S ?_))); intro a S
   refine nxC (wp_ret (block_ret (block_ret (then_ret (then_ret (block_ret (then_ret (qO S ?_))))))))
   first
    | (refine ⟨false, rfl, M.below, fun h => (by cases h), fun h => absurd h (hno fun hc => ?_)⟩
       rw [hcd] at hc
       omega)
    | (obtain rfl : k = l.length := by omega
       exact ⟨true, rfl, M.below, fun _ => fun j y hy => hpre j y (List.getElem?_eq_some_iff.1 hy).1 hy, fun _ => rfl⟩)
  intro h74 S
  refine qR [5, 1, 1, 1, 1] S M ?_; intro a S
  refine qi 79 S ?_ ?_
  ·intro h79 S
   refine qG [0, 0, 0, 0, 0, 0, 0, 1] S ?_; intro a S
   replace S := S.keep [0, 3, 4, 6, 67, 68, 87]
   refine nxC (cT S (nxD (qG [1] S ?_))); intro a S
   refine nxC (wp_ret (block_ret (block_ret (then_ret (then_ret (block_ret (then_ret (qO S ?_))))))))
   first
    | (refine ⟨false, rfl, M.below, fun h => (by cases h), fun h => absurd h (hno fun hc => ?_)⟩
       rw [hcd] at hc
       omega)
    | (obtain rfl : k = l.length := by omega
       exact ⟨true, rfl, M.below, fun _ => fun j y hy => hpre j y (List.getElem?_eq_some_iff.1 hy).1 hy, fun _ => rfl⟩)
  intro h79 S
  refine qG [1, 1, 1] S ?_; intro a S
  refine qf 82 S ?_ ?_
  ·intro h82 S
   refine qG [0, 0, 0, 1, 1] S ?_; intro a S
   replace S := S.keep [0, 3, 4, 6, 67, 68, 87]
   refine nxC (cF S (wp_skip (block_normal (block_normal (nxF (qG [1] S ?_)))))); intro a S
   refine qA S ?_; intro a S
   refine qG [1] S ?_; intro a S
   refine nxC ?_
   skip
   replace M := M.drp 0
   refine ⟨l.length - (k + 1), by omega, k + 1, by omega, rfl, S.sub _ rfl, M, fun j y hj hy => ?_⟩
   rcases Nat.lt_or_ge j k with h | h
   ·exact hpre j y h hy
   ·obtain rfl : j = k := by omega
    rw [hx] at hy; obtain rfl := Option.some.inj hy
    rw [hcd]
    exact ⟨hnm, hbg, hks, by omega, by omega, by omega⟩
  intro h82 S
  refine qG [1, 1, 1, 1, 1] S ?_; intro a S
  replace S := S.keep [0, 3, 4, 6, 67, 68, 87]
  refine nxC (qi 87 S ?_ ?_)
  ·intro h87 S
   refine cT S (nxD (qG [1] S ?_)); intro a S
   refine nxC (wp_ret (block_ret (block_ret (then_ret (then_ret (block_ret (then_ret (qO S ?_))))))))
   first
    | (refine ⟨false, rfl, M.below, fun h => (by cases h), fun h => absurd h (hno fun hc => ?_)⟩
       rw [hcd] at hc
       omega)
    | (obtain rfl : k = l.length := by omega
       exact ⟨true, rfl, M.below, fun _ => fun j y hy => hpre j y (List.getElem?_eq_some_iff.1 hy).1 hy, fun _ => rfl⟩)
  intro h87 S
  refine cF S (wp_skip (block_normal (block_normal (nxF (qG [1] S ?_))))); intro a S
  refine qA S ?_; intro a S
  refine qG [1] S ?_; intro a S
  refine nxC ?_
  skip
  replace M := M.drp 0
  refine ⟨l.length - (k + 1), by omega, k + 1, by omega, rfl, S.sub _ rfl, M, fun j y hj hy => ?_⟩
  rcases Nat.lt_or_ge j k with h | h
  ·exact hpre j y h hy
  ·obtain rfl : j = k := by omega
   rw [hx] at hy; obtain rfl := Option.some.inj hy
   rw [hcd]
   exact ⟨hnm, hbg, hks, by omega, by omega, by omega⟩
 intro h68 S
 refine cF S (nxD (qG [1, 1] S ?_)); intro a S
 refine nxC (qf 88 S ?_ ?_)
 ·intro h88 S
  refine cF S (nxD (qG [1, 1] S ?_)); intro a S
  refine nxC (qf 102 S ?_ ?_)
  ·intro h102 S
   refine cF S (wp_skip (block_normal (block_normal (nxF (qG [1] S ?_))))); intro a S
   refine qA S ?_; intro a S
   refine qG [1] S ?_; intro a S
   refine nxC ?_
   skip
   replace M := M.drp 0
   refine ⟨l.length - (k + 1), by omega, k + 1, by omega, rfl, S.sub _ rfl, M, fun j y hj hy => ?_⟩
   rcases Nat.lt_or_ge j k with h | h
   ·exact hpre j y h hy
   ·obtain rfl : j = k := by omega
    rw [hx] at hy; obtain rfl := Option.some.inj hy
    rw [hcd]
    exact ⟨hnm, hbg, hks, by omega, by omega, by omega⟩
  intro h102 S
  refine cT S (nxD (qG [1, 1, 1] S ?_)); intro a S
  refine qi 106 S ?_ ?_
  ·intro h106 S
   refine qG [0, 0, 0, 1] S ?_; intro a S
   refine nxC (cT S (nxD (qG [1] S ?_))); intro a S
   refine nxC (wp_ret (block_ret (block_ret (then_ret (then_ret (block_ret (then_ret (qO S ?_))))))))
   first
    | (refine ⟨false, rfl, M.below, fun h => (by cases h), fun h => absurd h (hno fun hc => ?_)⟩
       rw [hcd] at hc
       omega)
    | (obtain rfl : k = l.length := by omega
       exact ⟨true, rfl, M.below, fun _ => fun j y hy => hpre j y (List.getElem?_eq_some_iff.1 hy).1 hy, fun _ => rfl⟩)
  intro h106 S
  refine qG [1, 1, 1, 1] S ?_; intro a S
  refine nxC (qi 110 S ?_ ?_)
  ·intro h110 S
   refine cT S (nxD (qG [1] S ?_)); intro a S
   refine nxC (wp_ret (block_ret (block_ret (then_ret (then_ret (block_ret (then_ret (qO S ?_))))))))
   first
    | (refine ⟨false, rfl, M.below, fun h => (by cases h), fun h => absurd h (hno fun hc => ?_)⟩
       rw [hcd] at hc
       omega)
    | (obtain rfl : k = l.length := by omega
       exact ⟨true, rfl, M.below, fun _ => fun j y hy => hpre j y (List.getElem?_eq_some_iff.1 hy).1 hy, fun _ => rfl⟩)
  intro h110 S
  refine cF S (wp_skip (block_normal (block_normal (nxF (qG [1] S ?_))))); intro a S
  refine qA S ?_; intro a S
  refine qG [1] S ?_; intro a S
  replace S := S.keep [0, 4, 6, 67, 68, 88, 102, 110, 3]
  refine nxC ?_
  skip
  replace M := M.drp 0
  refine ⟨l.length - (k + 1), by omega, k + 1, by omega, rfl, S.sub _ rfl, M, fun j y hj hy => ?_⟩
  rcases Nat.lt_or_ge j k with h | h
  ·exact hpre j y h hy
  ·obtain rfl : j = k := by omega
   rw [hx] at hy; obtain rfl := Option.some.inj hy
   rw [hcd]
   exact ⟨hnm, hbg, hks, by omega, by omega, by omega⟩
 intro h88 S
 refine cT S (nxD (qR [14, 1, 1, 1] S M ?_)); intro a S
 refine qf 93 S ?_ ?_
 ·intro h93 S
  refine qG [0, 0, 0, 0, 0, 0, 0, 1] S ?_; intro a S
  replace S := S.keep [0, 3, 4, 6, 67, 68, 88, 101]
  refine nxC (cF S (wp_skip (block_normal (block_normal (nxF (qG [1] S ?_)))))); intro a S
  refine qA S ?_; intro a S
  refine qG [1] S ?_; intro a S
  refine nxC ?_
  skip
  replace M := M.drp 0
  refine ⟨l.length - (k + 1), by omega, k + 1, by omega, rfl, S.sub _ rfl, M, fun j y hj hy => ?_⟩
  rcases Nat.lt_or_ge j k with h | h
  ·exact hpre j y h hy
  ·obtain rfl : j = k := by omega
   rw [hx] at hy; obtain rfl := Option.some.inj hy
   rw [hcd]
   exact ⟨hnm, hbg, hks, by omega, by omega, by omega⟩
 intro h93 S
 refine qG [1, 1, 1] S ?_; intro a S
 refine qi 96 S ?_ ?_
 ·intro h96 S
  refine qG [0, 0, 0, 1, 1] S ?_; intro a S
  replace S := S.keep [0, 3, 4, 6, 67, 68, 88, 101]
  refine nxC (cT S (nxD (qG [1] S ?_))); intro a S
  refine nxC (wp_ret (block_ret (block_ret (then_ret (then_ret (block_ret (then_ret (qO S ?_))))))))
  first
   | (refine ⟨false, rfl, M.below, fun h => (by cases h), fun h => absurd h (hno fun hc => ?_)⟩
      rw [hcd] at hc
      omega)
   | (obtain rfl : k = l.length := by omega
      exact ⟨true, rfl, M.below, fun _ => fun j y hy => hpre j y (List.getElem?_eq_some_iff.1 hy).1 hy, fun _ => rfl⟩)
 intro h96 S
 refine qG [1, 1, 1, 1, 1] S ?_; intro a S
 replace S := S.keep [0, 3, 4, 6, 67, 68, 88, 101]
 refine nxC (qi 101 S ?_ ?_)
 ·intro h101 S
  refine cT S (nxD (qG [1] S ?_)); intro a S
  refine nxC (wp_ret (block_ret (block_ret (then_ret (then_ret (block_ret (then_ret (qO S ?_))))))))
  first
   | (refine ⟨false, rfl, M.below, fun h => (by cases h), fun h => absurd h (hno fun hc => ?_)⟩
      rw [hcd] at hc
      omega)
   | (obtain rfl : k = l.length := by omega
      exact ⟨true, rfl, M.below, fun _ => fun j y hy => hpre j y (List.getElem?_eq_some_iff.1 hy).1 hy, fun _ => rfl⟩)
 intro h101 S
 refine cF S (wp_skip (block_normal (block_normal (nxF (qG [1] S ?_))))); intro a S
 refine qA S ?_; intro a S
 refine qG [1] S ?_; intro a S
 refine nxC ?_
 skip
 replace M := M.drp 0
 refine ⟨l.length - (k + 1), by omega, k + 1, by omega, rfl, S.sub _ rfl, M, fun j y hj hy => ?_⟩
 rcases Nat.lt_or_ge j k with h | h
 ·exact hpre j y h hy
 ·obtain rfl : j = k := by omega
  rw [hx] at hy; obtain rfl := Option.some.inj hy
  rw [hcd]
  exact ⟨hnm, hbg, hks, by omega, by omega, by omega⟩
def ordP (l : List Sn) (k : Nat) : List Nm := ((l.take k).filter fun x => x.kind == 3 && decide (0 ≤ fstI l 5 x.name)).map (·.name)
theorem ordP_len (l : List Sn) (k : Nat) : (ordP l k).length ≤ l.length := by
 unfold ordP; rw [List.length_map]; refine Nat.le_trans (List.length_filter_le ..) ?_; rw [List.length_take]; omega
theorem ordP_yes {l : List Sn} {k : Nat} {x : Sn} (hx : l[k]? = some x) (h3 : x.kind = 3) (h5 : 0 ≤ fstI l 5 x.name) : ordP l (k + 1) = ordP l k ++ [x.name] := by
 unfold ordP; rw [List.take_add_one, hx, List.filter_append, List.map_append]
 congr 1; simp [h3, h5]
theorem ordP_no {l : List Sn} {k : Nat} {x : Sn} (hx : l[k]? = some x) (h : ¬ (x.kind = 3 ∧ 0 ≤ fstI l 5 x.name)) : ordP l (k + 1) = ordP l k := by
 unfold ordP; rw [List.take_add_one, hx, List.filter_append, List.map_append]
 have : (x.kind == 3 && decide (0 ≤ fstI l 5 x.name)) = false := by
  rw [Bool.eq_false_iff]; intro h2; simp at h2; exact h h2
 simp [this]
set_option maxHeartbeats 2000000 in
theorem order27_any (va : Option Addr) (vc : Nat) (l : List Sn) (w : World) (hv : Ss 0 w.heap.size w (.slice va l.length vc) l) (hl : l.length ≤ 200) :
 Calls Tryz.prog 69 #[.slice va l.length vc] w fun e w' => ∃ er lo hi a c r, e = .returned (.tuple #[.slice a r.length c, .int .i64 er]) ∧ Mem w w' [rowE lo hi 28 3 (.slice a r.length c) r.length (nmcells r)] ∧ (er = 0 ↔ mayS l) ∧ (er = 0 → r = ordS l) := by
 have M := Mem.start w
 refine qI Tryz.func69 40 ?_; intro a S
 refine nxD (qG [1, 1] S ?_); intro a S
 refine nxC (wp_seq (nxD (qG [1] S ?_))); intro a S
 refine qC (xs := [.tmp 6]) S (qE Tryz.func70) rfl (may27_any va vc l _ (M.argW hv)) ?_
 rintro _ w1 ⟨b, rfl, hK, hb⟩; refine ⟨_, rfl, ?_⟩; intro a S; replace M := M.grow hK; clear hK
 refine qG [1] S ?_; intro a S
 refine nxC (st_split (t := 8) S rfl ?_ ?_)
 ·intro h8 S
  refine cT S (nxD (qG [1, 1] S ?_)); intro a S
  refine nxC (wp_ret (then_ret (qOO S ?_)))
  replace M := M.rowNil 28 3
  refine ⟨2, _, _, none, 0, [], rfl, M, ⟨fun h => absurd h (by decide), fun h => ?_⟩, fun h => absurd h (by decide)⟩
  have := hb.2 h; simp_all
 intro h8 S
 refine cF S (wp_skip (nxE (qG [1] S ?_))); intro a S
 refine nxC (wp_seq (nxD ?_))
 replace M := M.rowNil 28 3
 have hm : mayS l := hb.1 (by simpa using h8)
 refine qY S (y_assign S rfl) ?_; intro a S
 refine nxC (wp_block (wp_loop_g (fun m a w' => ∃ (k lo hi : Nat) (aa : Option Addr) (ac : Nat), k ≤ l.length ∧ m = l.length - k ∧ Sees 40 a [(0, .slice va l.length vc), (4, .slice aa (ordP l k).length ac), (5, .int .i64 (k : Int))] ∧ Mem w w' [rowE lo hi 28 3 (.slice aa (ordP l k).length ac) (ordP l k).length (nmcells (ordP l k))]) (l.length) ?_ ?_))
 ·skip
  exact ⟨0, _, _, none, 0, Nat.zero_le _, rfl, S.sub _ rfl, M⟩
 intro m a wl
 rintro ⟨k, lo, hi, aa, ac, hk, rfl, S, M⟩
 have hpl := ordP_len l k
 refine wp_seq (nxD (qG [1, 1] S ?_)); intro a S
 refine qY S (y_lenR (E := 157) S rfl ((M.arg hv)) (by kernel_rfl)) ?_; intro a S
 refine qG [1] S ?_; intro a S
 refine nxC (qf 12 S ?_ ?_)
 ·intro h12 S
  refine cF S (wp_exit (then_exit (then_exit (block_hit (nxE (qG [1, 1, 1] S ?_)))))); intro a S
  refine nxC (wp_ret (qOO S ?_))
  obtain rfl : k = l.length := by omega
  exact ⟨0, lo, hi, aa, ac, _, rfl, M, ⟨fun _ => hm, fun _ => rfl⟩, fun _ => by unfold ordP ordS; rw [List.take_length]⟩
 intro h12 S
 refine cT S (wp_skip (then_normal (wp_seq (wp_block (wp_seq ?_)))))
 obtain ⟨x, hx⟩ : ∃ x, l[k]? = some x := ⟨_, List.getElem?_eq_getElem (by omega)⟩
 refine wp_region_lit (qG [1, 1] S ?_); intro a S
 refine qY S (qX 157 14 S ((M.arg hv))) ?_; intro a S
 try simp only [Int.toNat_natCast, Nat.mul_one, Nat.zero_add] at S
 refine qG [1] S ?_; intro a S
 refine qY S (y_load S (by kernel_rfl) rfl ((M.arg hv).at_.elem (i := k) (sz := 14) (k := 0) (scells_at hx 0 rfl))) ?_; intro a S
 refine qG [1, 1] S ?_; intro a S
 refine qf 21 S ?_ ?_
 ·intro h21 S
  refine qG [0, 0, 0, 0, 0, 0, 0, 0, 1] S ?_; intro a S
  replace S := S.keep [0, 4, 5, 12, 30]
  refine nxC (cF S (wp_skip (block_normal (nxF (qG [1] S ?_))))); intro a S
  refine qA S ?_; intro a S
  refine qG [1] S ?_; intro a S
  refine nxC ?_
  first
   | (have e := ordP_no hx (fun h => by omega)
      refine ⟨l.length - (k + 1), by omega, k + 1, lo, hi, aa, ac, by omega, rfl, ?_, ?_⟩
      ·rw [e]; exact S.sub _ rfl
      ·rw [e]; exact M)
   | (have e := ordP_yes hx (by omega) (by omega)
      refine ⟨l.length - (k + 1), by omega, k + 1, loA, hiA, aA, cA, by omega, rfl, ?_, ?_⟩
      ·rw [e, List.length_append]; exact S.sub _ rfl
      ·rw [e, List.length_append, nmcells_snoc]; exact M.drop 1)
 intro h21 S
 refine qG [1, 1, 1] S ?_; intro a S
 refine qY S (qX 157 14 S ((M.arg hv))) ?_; intro a S
 try simp only [Int.toNat_natCast, Nat.mul_one, Nat.zero_add] at S
 refine qG [2] S ?_; intro a S
 refine qY S (y_loadAgg S (by kernel_rfl) rfl rfl (((M.arg hv).at_.row (i := k) (scells_get hx) rfl).sub (i := 1) (k := 3))) ?_; intro a S
 refine qQ (xs := [.tmp 22, .const (.int .i8 5), .tmp 27]) S (qE Tryz.func102) rfl (first27_any va vc l 5 x.name _ (M.argW hv)) M ?_; intro a w2 S hK M
 refine qG [1, 1] S ?_; intro a S
 replace S := S.keep [0, 4, 5, 12, 30]
 refine nxC (qf 30 S ?_ ?_)
 ·intro h30 S
  refine cF S (wp_skip (block_normal (nxF (qG [1] S ?_)))); intro a S
  refine qA S ?_; intro a S
  refine qG [1] S ?_; intro a S
  refine nxC ?_
  first
   | (have e := ordP_no hx (fun h => by omega)
      refine ⟨l.length - (k + 1), by omega, k + 1, lo, hi, aa, ac, by omega, rfl, ?_, ?_⟩
      ·rw [e]; exact S.sub _ rfl
      ·rw [e]; exact M)
   | (have e := ordP_yes hx (by omega) (by omega)
      refine ⟨l.length - (k + 1), by omega, k + 1, loA, hiA, aA, cA, by omega, rfl, ?_, ?_⟩
      ·rw [e, List.length_append]; exact S.sub _ rfl
      ·rw [e, List.length_append, nmcells_snoc]; exact M.drop 1)
 intro h30 S
 refine cT S (wp_region_lit (qG [1, 1, 1] S ?_)); intro a S
 refine qY S (qX 157 14 S ((M.arg hv))) ?_; intro a S
 try simp only [Int.toNat_natCast, Nat.mul_one, Nat.zero_add] at S
 refine qG [2] S ?_; intro a S
 refine qY S (y_loadAgg S (by kernel_rfl) rfl rfl (((M.arg hv).at_.row (i := k) (scells_get hx) rfl).sub (i := 1) (k := 3))) ?_; intro a S
 refine st_lit (ps := [(0, .tmp 36)]) (e := 28) (sz := 3) (zl := [.int .i64 0, .int .i64 0, .int .i64 0]) (cs := [_, _, _]) S M rfl rfl (by kernel_rfl) rfl (rfl) ?_; intro a w3 bZ S M hB
 refine st_append (e := 28) (sz := 3) (by_ := 24) (zc := [.int .i64 0, .int .i64 0, .int .i64 0]) S M 1 rfl rfl (by kernel_rfl) rfl (by decide) rfl rfl rfl (show Rd _ _ _ 3 _ 1 [.int .i64 x.name.stamp, .int .i64 x.name.inc, .int .i64 x.name.try_] from M.sliceAt 0 rfl (M.cellsAt (k := 3) 0 rfl rfl) rfl (Nat.le_refl _) (by unfold maxLen; omega)) (rfl) (by omega) (by unfold maxLen; omega) ?_; intro a w4 vA loA hiA S M
 obtain ⟨aA, cA, rfl, -, -⟩ := (M.readAll 0 rfl (by unfold maxLen; omega)).form
 refine qY S (y_assign S rfl) ?_; intro a S
 refine wpList_nil (block_normal (nxF (qG [1] S ?_))); intro a S
 refine qA S ?_; intro a S
 refine qG [1] S ?_; intro a S
 refine nxC ?_
 first
  | (have e := ordP_no hx (fun h => by omega)
     refine ⟨l.length - (k + 1), by omega, k + 1, lo, hi, aa, ac, by omega, rfl, ?_, ?_⟩
     ·rw [e]; exact S.sub _ rfl
     ·rw [e]; exact M)
  | (have e := ordP_yes hx (by omega) (by omega)
     refine ⟨l.length - (k + 1), by omega, k + 1, loA, hiA, aA, cA, by omega, rfl, ?_, ?_⟩
     ·rw [e, List.length_append]; exact S.sub _ rfl
     ·rw [e, List.length_append, nmcells_snoc]; exact M.drop 1)
def yesP (l : List Sn) (k : Nat) : List Nm := yesS (l.take k)
def noP (l : List Sn) (k : Nat) : List Nm := noS (l.take k)
theorem yesP_len (l : List Sn) (k : Nat) : (yesP l k).length ≤ l.length := by
 unfold yesP yesS; rw [List.length_map]; refine Nat.le_trans (List.length_filter_le ..) ?_; rw [List.length_take]; omega
theorem noP_len (l : List Sn) (k : Nat) : (noP l k).length ≤ l.length := by
 unfold noP noS; rw [List.length_map]; refine Nat.le_trans (List.length_filter_le ..) ?_; rw [List.length_take]; omega
theorem yesP_step {l : List Sn} {k : Nat} {x : Sn} (hx : l[k]? = some x) : yesP l (k + 1) = yesP l k ++ if x.kind = 4 ∧ x.e = 0 then [x.name] else [] := by
 unfold yesP yesS; rw [List.take_add_one, hx, List.filter_append, List.map_append]
 congr 1
 by_cases h : x.kind = 4 ∧ x.e = 0
 ·simp [h]
 ·rw [if_neg h]
  have : (x.kind == 4 && x.e == 0) = false := by rw [Bool.eq_false_iff]; intro h2; simp at h2; exact h h2
  simp [this]
theorem noP_step {l : List Sn} {k : Nat} {x : Sn} (hx : l[k]? = some x) : noP l (k + 1) = noP l k ++ if x.kind = 4 ∧ x.e ≠ 0 ∧ x.e ≠ 122 then [x.name] else [] := by
 unfold noP noS; rw [List.take_add_one, hx, List.filter_append, List.map_append]
 congr 1
 by_cases h : x.kind = 4 ∧ x.e ≠ 0 ∧ x.e ≠ 122
 ·simp [h]
 ·rw [if_neg h]
  have : (x.kind == 4 && (x.e != 0 && x.e != 122)) = false := by rw [Bool.eq_false_iff]; intro h2; simp at h2; exact h h2
  simp [this]
set_option maxHeartbeats 2000000 in
theorem told27_any (va : Option Addr) (vc : Nat) (l : List Sn) (w : World) (hv : Ss 0 w.heap.size w (.slice va l.length vc) l) (hl : l.length ≤ 200) :
 Calls Tryz.prog 42 #[.slice va l.length vc] w fun e w' => ∃ er lo hi a c r lo2 hi2 a2 c2 r2, e = .returned (.tuple #[.slice a r.length c, .slice a2 r2.length c2, .int .i64 er]) ∧ Mem w w' [rowE lo hi 28 3 (.slice a r.length c) r.length (nmcells r), rowE lo2 hi2 28 3 (.slice a2 r2.length c2) r2.length (nmcells r2)] ∧ (er = 0 ↔ mayS l) ∧ (er = 0 → r = yesS l ∧ r2 = noS l) := by
 have M := Mem.start w
 refine qI Tryz.func42 53 ?_; intro a S
 refine nxD (qG [1, 1, 1] S ?_); intro a S
 refine nxC (wp_seq (nxD (qG [1] S ?_))); intro a S
 refine qC (xs := [.tmp 8]) S (qE Tryz.func70) rfl (may27_any va vc l _ (M.argW hv)) ?_
 rintro _ w1 ⟨b, rfl, hK, hb⟩; refine ⟨_, rfl, ?_⟩; intro a S; replace M := M.grow hK; clear hK
 refine qG [1] S ?_; intro a S
 refine nxC (st_split (t := 10) S rfl ?_ ?_)
 ·intro h10 S
  refine cT S (nxD (qG [1, 1, 1] S ?_)); intro a S
  refine nxC (wp_ret (then_ret (end_three S rfl (res_tmp rfl) (res_tmp rfl) (res_tmp rfl) ?_)))
  replace M := (M.rowNil 28 3).rowNil 28 3
  refine ⟨2, _, _, none, 0, [], _, _, none, 0, [], rfl, M, ⟨fun h => absurd h (by decide), fun h => ?_⟩, fun h => absurd h (by decide)⟩
  have := hb.2 h; simp_all
 intro h10 S
 refine cF S (wp_skip (nxE (qG [1, 1] S ?_))); intro a S
 refine nxC (wp_seq (nxD ?_))
 replace M := (M.rowNil 28 3).rowNil 28 3
 have hm : mayS l := hb.1 (by simpa using h10)
 refine qY S (y_assign S rfl) ?_; intro a S
 refine nxC (wp_block (wp_loop_g (fun m a w' => ∃ (k lo hi lo2 hi2 : Nat) (aa a2 : Option Addr) (ac c2 : Nat), k ≤ l.length ∧ m = l.length - k ∧ Sees 53 a [(0, .slice va l.length vc), (5, .slice aa (yesP l k).length ac), (6, .slice a2 (noP l k).length c2), (7, .int .i64 (k : Int))] ∧ Mem w w' [rowE lo hi 28 3 (.slice aa (yesP l k).length ac) (yesP l k).length (nmcells (yesP l k)), rowE lo2 hi2 28 3 (.slice a2 (noP l k).length c2) (noP l k).length (nmcells (noP l k))]) (l.length) ?_ ?_))
 ·skip
  exact ⟨0, _, _, _, _, none, none, 0, 0, Nat.zero_le _, rfl, S.sub _ rfl, M⟩
 intro m a wl
 rintro ⟨k, lo, hi, lo2, hi2, aa, a2, ac, c2, hk, rfl, S, M⟩
 have hpl := yesP_len l k
 have hpl2 := noP_len l k
 refine wp_seq (nxD (qG [1, 1] S ?_)); intro a S
 refine qY S (y_lenR (E := 157) S rfl ((M.arg hv)) (by kernel_rfl)) ?_; intro a S
 refine qG [1] S ?_; intro a S
 refine nxC (qf 14 S ?_ ?_)
 ·intro h14 S
  refine cF S (wp_exit (then_exit (then_exit (block_hit (nxE (qG [1, 1, 1, 1, 1] S ?_)))))); intro a S
  refine nxC (wp_ret (end_three S rfl (res_tmp rfl) (res_tmp rfl) (res_tmp rfl) ?_))
  obtain rfl : k = l.length := by omega
  exact ⟨0, lo, hi, aa, ac, _, lo2, hi2, a2, c2, _, rfl, M, ⟨fun _ => hm, fun _ => rfl⟩, fun _ => by unfold yesP noP; rw [List.take_length]; exact ⟨rfl, rfl⟩⟩
 intro h14 S
 refine cT S (wp_skip (then_normal (wp_seq (wp_block (wp_seq (wp_seq ?_))))))
 obtain ⟨x, hx⟩ : ∃ x, l[k]? = some x := ⟨_, List.getElem?_eq_getElem (by omega)⟩
 refine wp_region_lit (qG [1, 1] S ?_); intro a S
 refine qY S (qX 157 14 S ((M.arg hv))) ?_; intro a S
 try simp only [Int.toNat_natCast, Nat.mul_one, Nat.zero_add] at S
 refine qG [1] S ?_; intro a S
 refine qY S (y_load S (by kernel_rfl) rfl ((M.arg hv).at_.elem (i := k) (sz := 14) (k := 0) (scells_at hx 0 rfl))) ?_; intro a S
 refine qG [1] S ?_; intro a S
 refine nxC (qi 22 S ?_ ?_)
 ·intro h22 S
  refine cT S (wp_exit (then_exit (block_hit (nxF (qG [1] S ?_))))); intro a S
  refine qA S ?_; intro a S
  refine qG [1] S ?_; intro a S
  refine nxC ?_
  have ey := yesP_step hx
  have en := noP_step hx
  first
   | (rw [if_neg (by omega), List.append_nil] at ey en
      refine ⟨l.length - (k + 1), by omega, k + 1, lo, hi, lo2, hi2, aa, a2, ac, c2, by omega, rfl, ?_, ?_⟩
      ·rw [ey, en]; exact S.sub _ rfl
      ·rw [ey, en]; exact M)
   | (rw [if_pos (by omega)] at ey
      rw [if_neg (by omega), List.append_nil] at en
      refine ⟨l.length - (k + 1), by omega, k + 1, loA, hiA, lo2, hi2, aA, a2, cA, c2, by omega, rfl, ?_, ?_⟩
      ·rw [ey, en, List.length_append]; exact S.sub _ rfl
      ·rw [ey, en, List.length_append, nmcells_snoc]; exact M.drop 1)
   | (rw [if_neg (by omega), List.append_nil] at ey
      rw [if_pos (by omega)] at en
      refine ⟨l.length - (k + 1), by omega, k + 1, lo, hi, loA, hiA, aa, aA, ac, cA, by omega, rfl, ?_, ?_⟩
      ·rw [ey, en, List.length_append]; exact S.sub _ rfl
      ·rw [ey, en, List.length_append, nmcells_snoc]; exact (M.drop 1).perm (.swap _ _ _))
 intro h22 S
 refine cF S (wp_skip (nxE (qG [1, 1] S ?_))); intro a S
 refine qY S (qX 157 14 S ((M.arg hv))) ?_; intro a S
 try simp only [Int.toNat_natCast, Nat.mul_one, Nat.zero_add] at S
 refine qG [14] S ?_; intro a S
 refine qY S (y_load S (by kernel_rfl) rfl ((M.arg hv).at_.elem (i := k) (sz := 14) (k := 13) (scells_at hx 13 rfl))) ?_; intro a S
 refine qG [1] S ?_; intro a S
 refine nxC (qi 28 S ?_ ?_)
 ·intro h28 S
  refine cT S (wp_region_lit (qG [1, 1, 1] S ?_)); intro a S
  refine qY S (qX 157 14 S ((M.arg hv))) ?_; intro a S
  try simp only [Int.toNat_natCast, Nat.mul_one, Nat.zero_add] at S
  refine qG [2] S ?_; intro a S
  refine qY S (y_loadAgg S (by kernel_rfl) rfl rfl (((M.arg hv).at_.row (i := k) (scells_get hx) rfl).sub (i := 1) (k := 3))) ?_; intro a S
  refine st_lit (ps := [(0, .tmp 34)]) (e := 28) (sz := 3) (zl := [.int .i64 0, .int .i64 0, .int .i64 0]) (cs := [_, _, _]) S M rfl rfl (by kernel_rfl) rfl (rfl) ?_; intro a w2 bZ S M hB
  refine st_append (e := 28) (sz := 3) (by_ := 24) (zc := [.int .i64 0, .int .i64 0, .int .i64 0]) S M 1 rfl rfl (by kernel_rfl) rfl (by decide) rfl rfl rfl (show Rd _ _ _ 3 _ 1 [.int .i64 x.name.stamp, .int .i64 x.name.inc, .int .i64 x.name.try_] from M.sliceAt 0 rfl (M.cellsAt (k := 3) 0 rfl rfl) rfl (Nat.le_refl _) (by unfold maxLen; omega)) (rfl) (by omega) (by unfold maxLen; omega) ?_; intro a w3 vA loA hiA S M
  obtain ⟨aA, cA, rfl, -, -⟩ := (M.readAll 0 rfl (by unfold maxLen; omega)).form
  refine qY S (y_assign S rfl) ?_; intro a S
  replace S := S.keep [0, 6, 7, 14, 22, 28, 5]
  refine wpList_nil (block_normal (nxF (qG [1] S ?_))); intro a S
  refine qA S ?_; intro a S
  refine qG [1] S ?_; intro a S
  refine nxC ?_
  have ey := yesP_step hx
  have en := noP_step hx
  first
   | (rw [if_neg (by omega), List.append_nil] at ey en
      refine ⟨l.length - (k + 1), by omega, k + 1, lo, hi, lo2, hi2, aa, a2, ac, c2, by omega, rfl, ?_, ?_⟩
      ·rw [ey, en]; exact S.sub _ rfl
      ·rw [ey, en]; exact M)
   | (rw [if_pos (by omega)] at ey
      rw [if_neg (by omega), List.append_nil] at en
      refine ⟨l.length - (k + 1), by omega, k + 1, loA, hiA, lo2, hi2, aA, a2, cA, c2, by omega, rfl, ?_, ?_⟩
      ·rw [ey, en, List.length_append]; exact S.sub _ rfl
      ·rw [ey, en, List.length_append, nmcells_snoc]; exact M.drop 1)
   | (rw [if_neg (by omega), List.append_nil] at ey
      rw [if_pos (by omega)] at en
      refine ⟨l.length - (k + 1), by omega, k + 1, lo, hi, loA, hiA, aa, aA, ac, cA, by omega, rfl, ?_, ?_⟩
      ·rw [ey, en, List.length_append]; exact S.sub _ rfl
      ·rw [ey, en, List.length_append, nmcells_snoc]; exact (M.drop 1).perm (.swap _ _ _))
 intro h28 S
 refine cF S (nxD (qG [1, 1] S ?_)); intro a S
 refine qY S (qX 157 14 S ((M.arg hv))) ?_; intro a S
 try simp only [Int.toNat_natCast, Nat.mul_one, Nat.zero_add] at S
 refine qG [14] S ?_; intro a S
 refine qY S (y_load S (by kernel_rfl) rfl ((M.arg hv).at_.elem (i := k) (sz := 14) (k := 13) (scells_at hx 13 rfl))) ?_; intro a S
 refine qG [1] S ?_; intro a S
 replace S := S.keep [0, 5, 6, 7, 14, 22, 28, 42]
 refine nxC (qf 42 S ?_ ?_)
 ·intro h42 S
  refine cF S (wp_skip (block_normal (nxF (qG [1] S ?_)))); intro a S
  refine qA S ?_; intro a S
  refine qG [1] S ?_; intro a S
  refine nxC ?_
  have ey := yesP_step hx
  have en := noP_step hx
  first
   | (rw [if_neg (by omega), List.append_nil] at ey en
      refine ⟨l.length - (k + 1), by omega, k + 1, lo, hi, lo2, hi2, aa, a2, ac, c2, by omega, rfl, ?_, ?_⟩
      ·rw [ey, en]; exact S.sub _ rfl
      ·rw [ey, en]; exact M)
   | (rw [if_pos (by omega)] at ey
      rw [if_neg (by omega), List.append_nil] at en
      refine ⟨l.length - (k + 1), by omega, k + 1, loA, hiA, lo2, hi2, aA, a2, cA, c2, by omega, rfl, ?_, ?_⟩
      ·rw [ey, en, List.length_append]; exact S.sub _ rfl
      ·rw [ey, en, List.length_append, nmcells_snoc]; exact M.drop 1)
   | (rw [if_neg (by omega), List.append_nil] at ey
      rw [if_pos (by omega)] at en
      refine ⟨l.length - (k + 1), by omega, k + 1, lo, hi, loA, hiA, aa, aA, ac, cA, by omega, rfl, ?_, ?_⟩
      ·rw [ey, en, List.length_append]; exact S.sub _ rfl
      ·rw [ey, en, List.length_append, nmcells_snoc]; exact (M.drop 1).perm (.swap _ _ _))
 intro h42 S
 refine cT S (wp_region_lit (qG [1, 1, 1] S ?_)); intro a S
 refine qY S (qX 157 14 S ((M.arg hv))) ?_; intro a S
 try simp only [Int.toNat_natCast, Nat.mul_one, Nat.zero_add] at S
 refine qG [2] S ?_; intro a S
 refine qY S (y_loadAgg S (by kernel_rfl) rfl rfl (((M.arg hv).at_.row (i := k) (scells_get hx) rfl).sub (i := 1) (k := 3))) ?_; intro a S
 refine st_lit (ps := [(0, .tmp 48)]) (e := 28) (sz := 3) (zl := [.int .i64 0, .int .i64 0, .int .i64 0]) (cs := [_, _, _]) S M rfl rfl (by kernel_rfl) rfl (rfl) ?_; intro a w4 bY S M hB
 refine st_append (e := 28) (sz := 3) (by_ := 24) (zc := [.int .i64 0, .int .i64 0, .int .i64 0]) S M 2 rfl rfl (by kernel_rfl) rfl (by decide) rfl rfl rfl (show Rd _ _ _ 3 _ 1 [.int .i64 x.name.stamp, .int .i64 x.name.inc, .int .i64 x.name.try_] from M.sliceAt 0 rfl (M.cellsAt (k := 3) 0 rfl rfl) rfl (Nat.le_refl _) (by unfold maxLen; omega)) (rfl) (by omega) (by unfold maxLen; omega) ?_; intro a w5 vA loA hiA S M
 obtain ⟨aA, cA, rfl, -, -⟩ := (M.readAll 0 rfl (by unfold maxLen; omega)).form
 refine qY S (y_assign S rfl) ?_; intro a S
 refine wpList_nil (block_normal (nxF (qG [1] S ?_))); intro a S
 refine qA S ?_; intro a S
 refine qG [1] S ?_; intro a S
 refine nxC ?_
 have ey := yesP_step hx
 have en := noP_step hx
 first
  | (rw [if_neg (by omega), List.append_nil] at ey en
     refine ⟨l.length - (k + 1), by omega, k + 1, lo, hi, lo2, hi2, aa, a2, ac, c2, by omega, rfl, ?_, ?_⟩
     ·rw [ey, en]; exact S.sub _ rfl
     ·rw [ey, en]; exact M)
  | (rw [if_pos (by omega)] at ey
     rw [if_neg (by omega), List.append_nil] at en
     refine ⟨l.length - (k + 1), by omega, k + 1, loA, hiA, lo2, hi2, aA, a2, cA, c2, by omega, rfl, ?_, ?_⟩
     ·rw [ey, en, List.length_append]; exact S.sub _ rfl
     ·rw [ey, en, List.length_append, nmcells_snoc]; exact M.drop 1)
  | (rw [if_neg (by omega), List.append_nil] at ey
     rw [if_pos (by omega)] at en
     refine ⟨l.length - (k + 1), by omega, k + 1, lo, hi, loA, hiA, aa, aA, ac, cA, by omega, rfl, ?_, ?_⟩
     ·rw [ey, en, List.length_append]; exact S.sub _ rfl
     ·rw [ey, en, List.length_append, nmcells_snoc]; exact (M.drop 1).perm (.swap _ _ _))
def TrksP (l : List Sn) (mv : Value) (b : Bool) (H : List Ent) : Prop := (b = false ∧ H = [] ∧ ¬ mayS l) ∨ (b = true ∧ ∃ bM ml c K, mv = .map (some bM) ∧ H = mapX bM ml c :: rowsK K ∧ TrkI l l.length ml c K)
theorem tracks_uni {va : Option Addr} {vc : Nat} {l : List Sn} {w : World} (hv : Ss 0 w.heap.size w (.slice va l.length vc) l) (hl : l.length ≤ 200) :
 Calls Tryz.prog 49 #[.slice va l.length vc] w fun e w' => ∃ mv b H, e = .returned (.tuple #[mv, .bool b]) ∧ Mem w w' H ∧ TrksP l mv b H := by
 refine (tracks_any va vc l w hv hl).mono fun e w' h => ?_
 rcases h with ⟨rfl, h1, h2⟩ | ⟨bM, ml, c, K, rfl, M1, h2⟩
 ·exact ⟨_, _, [], rfl, (Mem.start w).grow h1, .inl ⟨rfl, rfl, h2⟩⟩
 ·exact ⟨_, _, _, rfl, M1, .inr ⟨rfl, bM, ml, c, K, rfl, rfl, h2⟩⟩
theorem TrkI.mayS {l : List Sn} {ml : Mes Nm} {c : Nat} {K : List Ky} (h : TrkI l l.length ml c K) : mayS l := fun j y hy => h.may j y (List.getElem?_eq_some_iff.1 hy).1 hy
theorem TrkI.few {l : List Sn} {ml : Mes Nm} {c : Nat} {K : List Ky} (h : TrkI l l.length ml c K) : ml.length ≤ l.length := by
 have h1 := congrArg List.length h.trk.keys
 rw [List.length_map, List.length_map] at h1
 have := h.len
 omega
set_option maxHeartbeats 1000000 in
theorem orderO_any (va : Option Addr) (vc : Nat) (l : List Sn) (w : World) (hv : Ss 0 w.heap.size w (.slice va l.length vc) l) (hl : l.length ≤ 200) :
 Calls Tryz.prog 39 #[.slice va l.length vc] w fun e w' => ∃ er lo hi a c r, e = .returned (.tuple #[.slice a r.length c, .int .i64 er]) ∧ Mem w w' [rowE lo hi 28 3 (.slice a r.length c) r.length (nmcells r)] ∧ r.length ≤ 200 ∧ (er = 0 ↔ mayS l) ∧ (er = 0 → r = ordS l) := by
 have M := Mem.start w
 refine qI Tryz.func39 15 ?_; intro a S
 refine nxD (qG [1, 1] S ?_); intro a S
 refine nxA (qG [1] S ?_); intro a S
 refine qC (xs := [.tmp 7]) S (qE Tryz.func49) rfl (tracks_uni (M.argW hv) hl) ?_
 rintro _ w1 ⟨mv, b, HT, rfl, M1, hT⟩; refine ⟨_, rfl, ?_⟩; intro a S; replace M := M.join M1; clear M1; rw [List.append_nil] at M
 refine qG [1, 1, 1, 1, 1] S ?_; intro a S
 refine nxC (wp_seq (nxD (qG [1, 1] S ?_))); intro a S
 refine nxC (qi 12 S ?_ ?_)
 ·intro h12 S
  refine cT S (nxD (qG [1, 1] S ?_)); intro a S
  refine nxC (wp_ret (then_ret (qOO S ?_)))
  rcases hT with ⟨rfl, rfl, hn⟩ | ⟨rfl, -⟩
  ·replace M := M.rowNil 28 3
   exact ⟨2, _, _, none, 0, [], rfl, M, by simp, ⟨fun h => absurd h (by decide), fun h => absurd h hn⟩, fun h => absurd h (by decide)⟩
  ·cases h12
 intro h12 S
 refine cF S (wp_skip (then_normal (wp_seq ?_)))
 rcases hT with ⟨rfl, -⟩ | ⟨rfl, bM, ml, c, K, rfl, rfl, hT⟩
 ·cases h12
 refine wp_region_lit (qG [1] S ?_); intro a S
 refine qC (xs := [.tmp 13]) S (qE Tryz.func50) rfl (decided_any hT.good hT.trk M (by have := hT.few; omega)) ?_
 rintro _ w2 ⟨lo, hi, a2, cap, r, rfl, M1, hn, hrl, hm, hs⟩; refine ⟨_, rfl, ?_⟩; intro a S; replace M := M1; clear M1
 refine qG [1, 1] S ?_; intro a S
 refine nxC (wp_ret (qOO S ?_))
 exact ⟨0, lo, hi, a2, cap, r, rfl, M.sub (.cons_cons _ (List.nil_sublist _)), by have := hT.few; omega, ⟨fun _ => hT.mayS, fun _ => rfl⟩, fun _ => decided_ord hT.mayS hT.trp hn hm hs⟩
def toldL (l : List Sn) (k : Nat) : List Nm × List Nm := (yesP l k, noP l k)
set_option maxHeartbeats 2000000 in
theorem toldO_any (va : Option Addr) (vc : Nat) (l : List Sn) (w : World) (hv : Ss 0 w.heap.size w (.slice va l.length vc) l) (hl : l.length ≤ 200) :
 Calls Tryz.prog 40 #[.slice va l.length vc] w fun e w' => ∃ er lo hi a c r lo2 hi2 a2 c2 r2, e = .returned (.tuple #[.slice a r.length c, .slice a2 r2.length c2, .int .i64 er]) ∧ Mem w w' [rowE lo hi 28 3 (.slice a r.length c) r.length (nmcells r), rowE lo2 hi2 28 3 (.slice a2 r2.length c2) r2.length (nmcells r2)] ∧ (er = 0 ↔ mayS l) ∧ (er = 0 → r = yesS l ∧ r2 = noS l) := by
 have M := Mem.start w
 refine calls_enterM Tryz.func40 rfl 35 rfl rfl ?_; intro a S
 refine nxD (qN S M #[.slice none 0 0] ?_); intro a w1 bY S M hB
 refine qN S M #[.slice none 0 0] ?_; intro a w2 bN S M hB
 refine qG [1] S ?_; intro a S
 refine nxC (wp_seq (nxD (qG [1] S ?_))); intro a S
 refine qC (xs := [.tmp 7]) S (qE Tryz.func67) rfl (mayO_any va vc l _ (M.argW hv) hl) ?_
 rintro _ w3 ⟨b, rfl, hK, hb⟩; refine ⟨_, rfl, ?_⟩; intro a S; replace M := M.grow hK; clear hK
 refine qG [1] S ?_; intro a S
 refine nxC (qi 9 S ?_ ?_)
 ·intro h9 S
  refine cT S (nxD (qS (sz := 1) (us := [_]) S M 1 ?_)); intro w4 M
  refine qS (sz := 1) (us := [_]) S M 0 ?_; intro w5 M
  refine qG [1] S ?_; intro a S
  refine nxC (wp_ret (then_ret (end_plain ?_)))
  refine end_three S rfl (res_cell (by kernel_rfl) rfl (M.cell 1 rfl rfl)) (res_cell (by kernel_rfl) rfl (M.cell 0 rfl rfl)) (res_tmp rfl) ?_
  replace M := ((M.drop 0).drop 0).rowNil 28 3
  replace M := M.rowNil 28 3
  have hn : ¬ mayS l := fun h => by have := hb.2 h; simp_all
  exact ⟨2, _, _, none, 0, [], _, _, none, 0, [], rfl, M, ⟨fun h => absurd h (by decide), fun h => absurd h hn⟩, fun h => absurd h (by decide)⟩
 intro h9 S
 refine cF S (wp_skip (then_normal (wp_seq (wp_seq ?_))))
 have hm : mayS l := hb.1 (by simpa using h9)
 refine wp_region_lit (qG [1] S ?_); intro a S
 refine qC (xs := [.tmp 10]) S (qE Tryz.func68) rfl (each_any va l.length vc _) ?_
 rintro _ w6 ⟨bE, rfl, M1⟩; refine ⟨_, rfl, ?_⟩; intro a S
 replace M := M.join M1; clear M1
 simp only [List.cons_append, List.nil_append] at M
 replace M := (M.rowNil 28 3).rowNil 28 3
 replace M := M.ord [1, 1, 4, 4, 4] (by simp only [ordO, oG, oS, oE, oZ, oB] <;> rfl)
 refine nxC (wp_block (wp_rangeB (encs := encSe) (xs := l.zipIdx) S M rfl (enters_of Tryz.func101 (by decide) rfl) (each1_gen bE va vc l) (fun _ => rfl) (by kernel_rfl) (fun pre Hs => ∃ (lo hi lo2 hi2 : Nat) (a1 a2 : Option Addr) (c1 c2 : Nat), pre = l.zipIdx.take pre.length ∧ Hs = .blk bE #[.slice va l.length vc] 22 :: .blk bN #[.slice a2 (noP l pre.length).length c2] 97 :: .blk bY #[.slice a1 (yesP l pre.length).length c1] 97 :: rowE lo2 hi2 28 3 (.slice a2 (noP l pre.length).length c2) (noP l pre.length).length (nmcells (noP l pre.length)) :: rowE lo hi 28 3 (.slice a1 (yesP l pre.length).length c1) (yesP l pre.length).length (nmcells (yesP l pre.length)) :: []) (fun _ _ _ => False) (⟨_, _, _, _, none, none, 0, 0, rfl, rfl⟩) (fun pre Hs W TT hI M => by obtain ⟨lo, hi, lo2, hi2, a1, a2, c1, c2, -, rfl⟩ := hI; exact ⟨M.blk 0 rfl, M.argW hv⟩) ?_ ?_ ?_))
 ·intro lY pre x tX Hs wr TT a hx hI M S
  simp only [putsL, encSe] at S
  obtain ⟨lo, hi, lo2, hi2, a1, a2, c1, c2, hpr, rfl⟩ := hI
  obtain ⟨x, i⟩ := x
  simp only [List.cons_append, List.nil_append] at M
  have hpl := yesP_len l pre.length
  have hpl2 := noP_len l pre.length
  refine wpI_region (by kernel_rfl) (fun _ _ h => h) ?_
  refine qN S M #[.int .i8 0, .int .i64 0, .int .i64 0, .int .i64 0, .int .i64 0, .int .u8 0, .int .u8 0, .int .u8 0, .int .u8 0, .int .u8 0, .int .u8 0, .int .u8 0, .int .u8 0, .int .i64 0] ?_; intro a w7 bX S M hB
  refine qS (sz := 14) (us := [_, _, _, _, _, _, _, _, _, _, _, _, _, _]) S M 0 ?_; intro w8 M
  refine nxC ?_
  refine ⟨_ :: _ :: _ :: _ :: _ :: _ :: [], M, ?_⟩; intro wb TT M; simp only [List.cons_append, List.nil_append] at M
  refine wpIn_block ?_
  refine wpIn_seq ?_
  refine wpIn_seq ?_
  obtain ⟨hx2, hxi⟩ : l[i]? = some x ∧ i = pre.length := by
   have h9 : l.zipIdx[pre.length]? = some (x, i) := by rw [hx]; simp
   rw [List.getElem?_zipIdx] at h9
   cases h8 : l[pre.length]? with
   | none => rw [h8] at h9; cases h9
   | some y => rw [h8] at h9; simp at h9; obtain ⟨rfl, rfl⟩ := h9; exact ⟨h8, rfl⟩
  subst hxi
  refine wpI_region (by kernel_rfl) (fun _ _ h => h) ?_
  refine qR [1, 1, 1] S M ?_; intro a S
  refine nxC (qi 16 S ?_ ?_)
  ·intro h16 S
   refine stI_condT S rfl ?_
   refine wpIn_exit ?_
   refine then_exit (block_hit ?_)
   skip
   replace M := M.ord [5, 5, 5, 5, 5] (by simp only [ordO, oG, oS, oE, oZ, oB] <;> rfl)
   have ey := yesP_step hx2
   have en := noP_step hx2
   have e9 : (pre ++ [(x, pre.length)]).length = pre.length + 1 := by simp
   have hpre2 : pre ++ [(x, pre.length)] = l.zipIdx.take (pre ++ [(x, pre.length)]).length := by
    rw [hx, show pre ++ (x, pre.length) :: tX = (pre ++ [(x, pre.length)]) ++ tX by simp]
    exact (List.take_left ..).symm
   first
    | (rw [if_neg (by omega), List.append_nil] at ey en
       exact ⟨[_, _, _, _, _], M.drop 5, lo, hi, lo2, hi2, a1, a2, c1, c2, hpre2, by rw [e9, ey, en]⟩)
    | (rw [if_pos (by omega)] at ey
       rw [if_neg (by omega), List.append_nil] at en
       exact ⟨[_, _, _, _, _], (M.drop 5).drop 5, loA, hiA, lo2, hi2, aA, a2, cA, c2, hpre2, by rw [e9, ey, en, List.length_append, nmcells_snoc]; rfl⟩)
    | (rw [if_neg (by omega), List.append_nil] at ey
       rw [if_pos (by omega)] at en
       exact ⟨[_, _, _, _, _], (M.drop 5).drop 5, lo, hi, loA, hiA, a1, aA, c1, cA, hpre2, by rw [e9, ey, en, List.length_append, nmcells_snoc]; rfl⟩)
  intro h16 S
  refine stI_condF S rfl ?_
  refine wpIn_skip ?_
  refine then_normal (wpIn_seq ?_)
  refine wpI_region (by kernel_rfl) (fun _ _ h => h) ?_
  refine qR [14, 1] S M ?_; intro a S
  refine nxC (wpIn_block ?_)
  refine wpIn_seq ?_
  refine wpI_region (by kernel_rfl) (fun _ _ h => h) ?_
  refine qG [1, 1] S ?_; intro a S
  refine nxC (qi 24 S ?_ ?_)
  ·intro h24 S
   refine stI_condT S rfl ?_
   refine wpI_region (by kernel_rfl) (fun _ _ h => h) ?_
   refine qR [4, 2] S M ?_; intro a S
   refine qY S (qL3 S M 0) ?_; intro a S
   refine st_lit (ps := [(0, .tmp 28)]) (e := 28) (sz := 3) (zl := [.int .i64 0, .int .i64 0, .int .i64 0]) (cs := [_, _, _]) S M rfl rfl (by kernel_rfl) rfl (rfl) ?_; intro a w9 bZ S M hB
   refine st_append (e := 28) (sz := 3) (by_ := 24) (zc := [.int .i64 0, .int .i64 0, .int .i64 0]) S M 6 rfl rfl (by kernel_rfl) rfl (by decide) rfl rfl rfl (show Rd _ _ _ 3 _ 1 [.int .i64 x.name.stamp, .int .i64 x.name.inc, .int .i64 x.name.try_] from M.sliceAt 0 rfl (M.cellsAt (k := 3) 0 rfl rfl) rfl (Nat.le_refl _) (by unfold maxLen; omega)) (rfl) (by omega) (by unfold maxLen; omega) ?_; intro a w10 vA loA hiA S M
   obtain ⟨aA, cA, rfl, -, -⟩ := (M.readAll 0 rfl (by unfold maxLen; omega)).form
   refine qS (sz := 1) (us := [_]) S M 5 ?_; intro w11 M
   replace S := S.keep [0, 2, 3, 4, 9, 11, 6, 16, 18, 24]
   refine wpList_nil (block_normal (block_normal ?_))
   skip
   replace M := M.ord [6, 6, 6, 6] (by simp only [ordO, oG, oS, oE, oZ, oB] <;> rfl)
   have ey := yesP_step hx2
   have en := noP_step hx2
   have e9 : (pre ++ [(x, pre.length)]).length = pre.length + 1 := by simp
   have hpre2 : pre ++ [(x, pre.length)] = l.zipIdx.take (pre ++ [(x, pre.length)]).length := by
    rw [hx, show pre ++ (x, pre.length) :: tX = (pre ++ [(x, pre.length)]) ++ tX by simp]
    exact (List.take_left ..).symm
   first
    | (rw [if_neg (by omega), List.append_nil] at ey en
       exact ⟨[_, _, _, _, _], M.drop 5, lo, hi, lo2, hi2, a1, a2, c1, c2, hpre2, by rw [e9, ey, en]⟩)
    | (rw [if_pos (by omega)] at ey
       rw [if_neg (by omega), List.append_nil] at en
       exact ⟨[_, _, _, _, _], (M.drop 5).drop 5, loA, hiA, lo2, hi2, aA, a2, cA, c2, hpre2, by rw [e9, ey, en, List.length_append, nmcells_snoc]; rfl⟩)
    | (rw [if_neg (by omega), List.append_nil] at ey
       rw [if_pos (by omega)] at en
       exact ⟨[_, _, _, _, _], (M.drop 5).drop 5, lo, hi, loA, hiA, a1, aA, c1, cA, hpre2, by rw [e9, ey, en, List.length_append, nmcells_snoc]; rfl⟩)
  intro h24 S
  refine stI_condF S rfl ?_
  refine wpIn_seq ?_
  refine wpI_region (by kernel_rfl) (fun _ _ h => h) ?_
  refine qG [1, 1] S ?_; intro a S
  refine nxC (qi 31 S ?_ ?_)
  ·intro h31 S
   refine stI_condT S rfl ?_
   refine wpIn_skip ?_
   refine block_normal (block_normal ?_)
   skip
   replace M := M.ord [5, 5, 5, 5, 5] (by simp only [ordO, oG, oS, oE, oZ, oB] <;> rfl)
   have ey := yesP_step hx2
   have en := noP_step hx2
   have e9 : (pre ++ [(x, pre.length)]).length = pre.length + 1 := by simp
   have hpre2 : pre ++ [(x, pre.length)] = l.zipIdx.take (pre ++ [(x, pre.length)]).length := by
    rw [hx, show pre ++ (x, pre.length) :: tX = (pre ++ [(x, pre.length)]) ++ tX by simp]
    exact (List.take_left ..).symm
   first
    | (rw [if_neg (by omega), List.append_nil] at ey en
       exact ⟨[_, _, _, _, _], M.drop 5, lo, hi, lo2, hi2, a1, a2, c1, c2, hpre2, by rw [e9, ey, en]⟩)
    | (rw [if_pos (by omega)] at ey
       rw [if_neg (by omega), List.append_nil] at en
       exact ⟨[_, _, _, _, _], (M.drop 5).drop 5, loA, hiA, lo2, hi2, aA, a2, cA, c2, hpre2, by rw [e9, ey, en, List.length_append, nmcells_snoc]; rfl⟩)
    | (rw [if_neg (by omega), List.append_nil] at ey
       rw [if_pos (by omega)] at en
       exact ⟨[_, _, _, _, _], (M.drop 5).drop 5, lo, hi, loA, hiA, a1, aA, c1, cA, hpre2, by rw [e9, ey, en, List.length_append, nmcells_snoc]; rfl⟩)
  intro h31 S
  refine stI_condF S rfl ?_
  refine wpI_region (by kernel_rfl) (fun _ _ h => h) ?_
  refine qR [3, 2] S M ?_; intro a S
  refine qY S (qL3 S M 0) ?_; intro a S
  refine st_lit (ps := [(0, .tmp 21)]) (e := 28) (sz := 3) (zl := [.int .i64 0, .int .i64 0, .int .i64 0]) (cs := [_, _, _]) S M rfl rfl (by kernel_rfl) rfl (rfl) ?_; intro a w12 bZ S M hB
  refine st_append (e := 28) (sz := 3) (by_ := 24) (zc := [.int .i64 0, .int .i64 0, .int .i64 0]) S M 5 rfl rfl (by kernel_rfl) rfl (by decide) rfl rfl rfl (show Rd _ _ _ 3 _ 1 [.int .i64 x.name.stamp, .int .i64 x.name.inc, .int .i64 x.name.try_] from M.sliceAt 0 rfl (M.cellsAt (k := 3) 0 rfl rfl) rfl (Nat.le_refl _) (by unfold maxLen; omega)) (rfl) (by omega) (by unfold maxLen; omega) ?_; intro a w13 vA loA hiA S M
  obtain ⟨aA, cA, rfl, -, -⟩ := (M.readAll 0 rfl (by unfold maxLen; omega)).form
  refine qS (sz := 1) (us := [_]) S M 4 ?_; intro w14 M
  replace S := S.keep [0, 2, 3, 4, 9, 11, 6, 16, 18, 24, 31]
  refine wpList_nil (block_normal (block_normal ?_))
  skip
  replace M := M.ord [6, 1, 6, 6, 6] (by simp only [ordO, oG, oS, oE, oZ, oB] <;> rfl)
  have ey := yesP_step hx2
  have en := noP_step hx2
  have e9 : (pre ++ [(x, pre.length)]).length = pre.length + 1 := by simp
  have hpre2 : pre ++ [(x, pre.length)] = l.zipIdx.take (pre ++ [(x, pre.length)]).length := by
   rw [hx, show pre ++ (x, pre.length) :: tX = (pre ++ [(x, pre.length)]) ++ tX by simp]
   exact (List.take_left ..).symm
  first
   | (rw [if_neg (by omega), List.append_nil] at ey en
      exact ⟨[_, _, _, _, _], M.drop 5, lo, hi, lo2, hi2, a1, a2, c1, c2, hpre2, by rw [e9, ey, en]⟩)
   | (rw [if_pos (by omega)] at ey
      rw [if_neg (by omega), List.append_nil] at en
      exact ⟨[_, _, _, _, _], (M.drop 5).drop 5, loA, hiA, lo2, hi2, aA, a2, cA, c2, hpre2, by rw [e9, ey, en, List.length_append, nmcells_snoc]; rfl⟩)
   | (rw [if_neg (by omega), List.append_nil] at ey
      rw [if_pos (by omega)] at en
      exact ⟨[_, _, _, _, _], (M.drop 5).drop 5, lo, hi, loA, hiA, a1, aA, c1, cA, hpre2, by rw [e9, ey, en, List.length_append, nmcells_snoc]; rfl⟩)
 ·intro D1 wd Hs a hI M S
  obtain ⟨lo, hi, lo2, hi2, a1, a2, c1, c2, hpr, rfl⟩ := hI
  refine block_normal (then_normal (wp_seq (wp_regionKC (C := fun W => Blk W bY #[.slice a1 (yesP l l.zipIdx.length).length c1] 97 ∧ Blk W bN #[.slice a2 (noP l l.zipIdx.length).length c2] 97) [2, 3] #[false, false, false, false, false] rfl M (by kernel_rfl) ?_))); intro w15 M; have hC := And.intro (M.blk 3 rfl) (M.blk 2 rfl)
  refine kc_readC 0 S rfl hC (fun w hC => y_load S (by kernel_rfl) rfl (hC.1.cells 0)) ?_; intro a S
  refine kc_readC 1 S rfl hC (fun w hC => y_load S (by kernel_rfl) rfl (hC.2.cells 0)) ?_; intro a S
  refine kc_one 2 rfl (by kernel_rfl) ?_
  refine qS (sz := 1) (us := [_]) S M 3 ?_; intro w16 M
  replace hC := And.intro (M.blk 3 rfl) (M.blk 2 rfl)
  refine nxC ⟨fun h => absurd h (by decide), hC, ?_⟩
  refine kc_one 3 rfl (by kernel_rfl) ?_
  refine qS (sz := 1) (us := [_]) S M 2 ?_; intro w17 M
  replace hC := And.intro (M.blk 3 rfl) (M.blk 2 rfl)
  refine nxC ⟨fun h => absurd h (by decide), hC, ?_⟩
  refine kcP 4 S hC ?_; intro a S
  refine kc_end (by kernel_rfl) ?_
  refine then_normal (wp_ret (end_mark S M 0 rfl ?_)); intro a wM S M
  simp only [List.eraseIdx_cons_succ, List.eraseIdx_cons_zero] at M
  refine end_plain ?_
  refine end_three S rfl (res_cell (by kernel_rfl) rfl (M.cell 2 rfl rfl)) (res_cell (by kernel_rfl) rfl (M.cell 1 rfl rfl)) (res_tmp rfl) ?_
  exact ⟨0, lo, hi, a1, c1, _, lo2, hi2, a2, c2, _, rfl, (((M.drop 0).drop 0).drop 0).perm (.swap _ _ _), ⟨fun _ => hm, fun _ => rfl⟩, fun _ => by rw [List.length_zipIdx]; unfold yesP noP; rw [List.take_length]; exact ⟨rfl, rfl⟩⟩
 intro D1 wd Hs a cX pre x tX hx hX M S
 exact hX.elim
def zHm : List V8 := List.replicate 32 zV
theorem zHm_len : (hcells zHm).length = 256 := by rw [hcells_length, zHm, List.length_replicate]
theorem homeAt {w : World} {b t i : Nat} {h : List V8} {v : V8} (B : Blk w b (hcells h).toArray t) (hx : h[i]? = some v) : CellsAt w b (i * 8) v.cellsL := fun j hj => by
 rw [B.cells, List.getElem?_toArray]
 have := hcells_get hx
 rw [← this, List.getElem?_take_of_lt (by have : v.cellsL.length = 8 := rfl; omega), List.getElem?_drop]
theorem Mem.readOf {w0 w : World} {H : List Ent} {lo hi e sz m : Nat} {x : Value} {xs : List Value} (M : Mem w0 w H) (h : rowE lo hi e sz x m xs ∈ H) (hm : m ≤ maxLen) : Rd 0 w.heap.size w sz x m xs := by
 obtain ⟨p, hp⟩ := List.getElem?_of_mem h
 exact M.readAll p hp hm
theorem TrkI.row {l : List Sn} {i : Nat} {ml : Mes Nm} {c : Nat} {K : List Ky} (h : TrkI l i ml c K) {n : Nm} (hd : (tkOf K n).decided = true) : ∃ r, (getM ml n).getD (tkVal zTk ⟨0, 0, none, 0⟩) = tkVal (tkOf K n) r ∧ tkE (tkOf K n) r ∈ rowsK K := by
 by_cases hk : n ∈ K.map (·.1)
 ·obtain ⟨k, h1, h2, h3⟩ := keyK_some hk
  have et : tkOf K n = k.2.1 := by unfold tkOf; rw [h1]; rfl
  refine ⟨k.2.2, by rw [h.trk.get, h1, et]; rfl, ?_⟩
  rw [et]
  exact List.mem_map_of_mem (f := Ky.ent) h2
 ·unfold tkOf at hd
  rw [keyK_none hk] at hd
  cases hd
theorem rpP_len (l : List Sn) (s : Rp) (p : Int × Nat) : (rpP l s p).1.length = s.1.length := by unfold rpP; (repeat' split) <;> simp
theorem rpPs_len (l : List Sn) : ∀ (q : List (Int × Nat)) (s : Rp), (q.foldl (rpP l) s).1.length = s.1.length
 | [], s => rfl
 | p :: q, s => by rw [List.foldl_cons, rpPs_len l q, rpP_len]
theorem rpNs_len (l : List Sn) : ∀ (q : List Nm) (s : Rp), (q.foldl (rpN l) s).1.length = s.1.length
 | [], s => rfl
 | p :: q, s => by rw [List.foldl_cons, rpNs_len l q, rpN_len]
set_option maxHeartbeats 4000000 in
set_option maxRecDepth 10000 in
theorem replayO_any (va : Option Addr) (vc : Nat) (l : List Sn) (w : World) (hv : Ss 0 w.heap.size w (.slice va l.length vc) l) (hl : l.length ≤ 200) :
 Calls Tryz.prog 21 #[.slice va l.length vc] w fun e w' => ∃ er st sr, e = .returned (.tuple #[.agg (hcells st).toArray, .bool sr, .int .i64 er]) ∧ Below w.heap.size w w' ∧ st.length = 32 ∧ (er = 0 ↔ mayS l) ∧ (er = 0 → (st, sr) = rpA l) := by
 have M := Mem.start w
 refine qI Tryz.func21 63 ?_; intro a S
 refine nxD (qN S M (hcells zHm).toArray ?_); intro a w1 bR S M hB
 refine qG [1, 1] S ?_; intro a S
 refine nxA (qG [1] S ?_); intro a S
 refine qC (xs := [.tmp 14]) S (qE Tryz.func49) rfl (tracks_uni (M.argW hv) hl) ?_
 rintro _ w2 ⟨mv, b, HT, rfl, M1, hT⟩; refine ⟨_, rfl, ?_⟩; intro a S; replace M := (M.join M1).perm List.perm_append_comm; clear M1; simp only [List.cons_append, List.nil_append] at M
 refine qG [1, 1, 1, 1, 1] S ?_; intro a S
 refine nxC (wp_seq (nxD (qG [1, 1] S ?_))); intro a S
 refine nxC (qi 19 S ?_ ?_)
 ·intro h19 S
  refine cT S (nxD (qY S (y_loadAgg (k := 256) (cs := _) S (by kernel_rfl) rfl (by with_reducible first | exact zHm_len | exact hq1 | exact hq2) (M.cellsAt 0 rfl cutL_all)) ?_)); intro a S
  refine st_storeAll (sz := 256) S M 0 rfl (by kernel_rfl) rfl rfl (by with_reducible first | exact zHm_len | exact hq1 | exact hq2) (by exact allOne_hcells _) rfl (by with_reducible first | exact zHm_len | exact hq1 | exact hq2) ?_; intro w3 M
  simp only [List.set_cons_zero, List.set_cons_succ] at M
  refine qG [1, 1] S ?_; intro a S
  refine nxC (wp_ret (then_ret (end_three S rfl (res_agg (k := 256) (cs := _) (by kernel_rfl) rfl (by with_reducible first | exact zHm_len | exact hq1 | exact hq2) (M.cellsAt 0 rfl cutL_all)) (res_tmp rfl) (res_tmp rfl) ?_)))
  rcases hT with ⟨rfl, rfl, hn⟩ | ⟨rfl, -⟩
  ·exact ⟨2, zHm, false, rfl, M.below, rfl, ⟨fun h => absurd h (by decide), fun h => absurd h hn⟩, fun h => absurd h (by decide)⟩
  ·cases h19
 intro h19 S
 refine cF S (wp_skip (then_normal (wp_seq ?_)))
 rcases hT with ⟨rfl, -⟩ | ⟨rfl, bM, ml, c, K, rfl, rfl, hT⟩
 ·cases h19
 replace M := M.frn 1
 refine wp_region_lit (qG [1] S ?_); intro a S
 refine nxC (wp_seq (nxD (qG [1] S ?_))); intro a S
 refine qC (xs := [.tmp 21]) S (qE Tryz.func50) rfl (decided_any hT.good hT.trk M (by have := hT.few; omega)) ?_
 rintro _ w4 ⟨lo, hi, a2, cap, r, rfl, M1, hn, hrl, hm, hs⟩; refine ⟨_, rfl, ?_⟩; intro a S; replace M := M1; clear M1
 have hrs : r = ordS l := decided_ord hT.mayS hT.trp hn hm hs
 have hrl2 : r.length ≤ 200 := by have := hT.few; omega
 refine qY S (qH 28 S) ?_; intro a S
 refine qG [1] S ?_; intro a S
 refine nxC (wp_block (wp_loop_g (fun q a w' => ∃ (k : Nat) (s : Rp), k ≤ r.length ∧ q = r.length - k ∧ s = (r.take k).foldl (rpN l) (zHm, true) ∧ Sees 63 a [(0, .slice va l.length vc), (2, .pointer (some ⟨bR, 0, none⟩)), (3, .bool s.2), (5, .map (some bM)), (22, .slice a2 r.length cap), (23, .int .i64 (r.length : Int)), (24, .int .i64 (k : Int))] ∧ Mem w w' (rowE lo hi 28 3 (.slice a2 r.length cap) r.length (nmcells r) :: mapX bM ml c :: .blk bR (hcells s.1).toArray 60 :: rowsK K)) (r.length) ?_ ?_))
 ·skip
  exact ⟨0, (zHm, true), Nat.zero_le _, rfl, rfl, S.sub _ rfl, M⟩
 intro m a wl
 rintro ⟨k, s, hk, rfl, hsk, S, M⟩
 have hq0 : s.1.length = 32 := by rw [hsk, rpNs_len]; rfl
 have hq1 : (hcells s.1).length = 256 := by rw [hcells_length, hq0]
 refine nxD (qG [1] S ?_); intro a S
 refine nxC (wp_seq (qf 25 S ?_ ?_))
 ·intro h25 S
  refine cF S (wp_exit (then_exit (then_exit (block_hit (nxE (qY S (y_loadAgg (k := 256) (cs := _) S (by kernel_rfl) rfl (by with_reducible first | exact zHm_len | exact hq1 | exact hq2) (M.cellsAt 2 rfl cutL_all)) ?_)))))); intro a S
  refine qG [1] S ?_; intro a S
  refine st_storeAll (sz := 256) S M 2 rfl (by kernel_rfl) rfl rfl (by with_reducible first | exact zHm_len | exact hq1 | exact hq2) (by exact allOne_hcells _) rfl (by with_reducible first | exact zHm_len | exact hq1 | exact hq2) ?_; intro w12 M
  simp only [List.set_cons_zero, List.set_cons_succ] at M
  refine qG [1, 1] S ?_; intro a S
  refine nxC (wp_ret (end_three S rfl (res_agg (k := 256) (cs := _) (by kernel_rfl) rfl (by with_reducible first | exact zHm_len | exact hq1 | exact hq2) (M.cellsAt 2 rfl cutL_all)) (res_tmp rfl) (res_tmp rfl) ?_))
  obtain rfl : k = r.length := by omega
  rw [List.take_length, hrs] at hsk
  exact ⟨0, s.1, s.2, rfl, M.below, hq0, ⟨fun _ => hT.mayS, fun _ => rfl⟩, fun _ => by rw [hsk]; rfl⟩
 intro h25 S
 refine cT S (wp_skip (then_normal (wp_seq (wp_block (wp_seq ?_)))))
 obtain ⟨n, hnk⟩ : ∃ n, r[k]? = some n := ⟨_, List.getElem?_eq_getElem (by omega)⟩
 have hnd := (hm n).1 (List.mem_of_getElem? hnk)
 obtain ⟨rr, hget, hrow⟩ := hT.row hnd
 have hst : (tkOf K n).steps = stepsS l n := steps_all hT.trp n
 have hsl : (tkOf K n).steps.length ≤ 200 := by rw [hst]; unfold stepsS; rw [List.length_map]; refine Nat.le_trans (List.length_filter_le ..) ?_; rw [List.length_zipIdx]; exact hl
 refine wp_region_lit (qY S (qX 28 3 S ((M.readAll 0 rfl (show r.length ≤ maxLen by unfold maxLen; omega)))) ?_); intro a S
 try simp only [Int.toNat_natCast, Nat.mul_one, Nat.zero_add] at S
 refine qY S (y_loadAgg S (by kernel_rfl) rfl rfl ((M.readAll 0 rfl (show r.length ≤ maxLen by unfold maxLen; omega)).at_.row (i := k) (nmcells_get hnk) rfl)) ?_; intro a S
 refine qN S M #[.int .i64 0, .int .i64 0, .int .i64 0] ?_; intro a w5 bP S M hB
 refine qS (sz := 3) (us := [_, _, _]) S M 0 ?_; intro w6 M
 refine nxA (qG [1] S ?_); intro a S
 refine qY S (qL3 S M 0) ?_; intro a S
 refine qY S (y_lookupM (pos := 2) S M (keyNm) (hT.good) Tryz.underlying147 (zero_trk) rfl rfl rfl) ?_; intro a S
 simp only [Bool.false_eq_true, if_false, hget] at S
 refine qY S (y_field (v := .slice rr.a (tkOf K n).steps.length rr.c) S rfl (fun _ => by kernel_rfl)) ?_; intro a S
 refine qY S (qH 154 S) ?_; intro a S
 refine qG [1] S ?_; intro a S
 refine nxC (wp_block (wp_loop_g (fun q a w' => ∃ (j : Nat) (s2 : Rp), j ≤ (tkOf K n).steps.length ∧ q = (tkOf K n).steps.length - j ∧ s2 = ((tkOf K n).steps.take j).foldl (rpP l) s ∧ Sees 63 a [(0, .slice va l.length vc), (2, .pointer (some ⟨bR, 0, none⟩)), (3, .bool s2.2), (5, .map (some bM)), (22, .slice a2 r.length cap), (23, .int .i64 (r.length : Int)), (24, .int .i64 (k : Int)), (31, .slice rr.a (tkOf K n).steps.length rr.c), (32, .int .i64 ((tkOf K n).steps.length : Int)), (33, .int .i64 (j : Int))] ∧ Mem w w' (rowE lo hi 28 3 (.slice a2 r.length cap) r.length (nmcells r) :: mapX bM ml c :: .blk bR (hcells s2.1).toArray 60 :: rowsK K)) ((tkOf K n).steps.length) ?_ ?_))
 ·skip
  replace M := M.drp 0
  exact ⟨0, s, Nat.zero_le _, rfl, rfl, S.sub _ rfl, M⟩
 intro m a wl
 rintro ⟨j, s2, hj, rfl, hs2, S, M⟩
 have hq0b : s2.1.length = 32 := by rw [hs2, rpPs_len]; exact hq0
 have hq2 : (hcells s2.1).length = 256 := by rw [hcells_length, hq0b]
 refine nxD (qG [1] S ?_); intro a S
 refine nxC (wp_seq (qf 34 S ?_ ?_))
 ·intro h34 S
  refine cF S (wp_exit (then_exit (then_exit (block_hit (block_normal (nxF (qA S ?_))))))); intro a S
  refine qG [1] S ?_; intro a S
  refine nxC ?_
  obtain rfl : j = (tkOf K n).steps.length := by omega
  rw [List.take_length, hst, rp_same] at hs2
  exact ⟨r.length - (k + 1), by omega, k + 1, s2, by omega, rfl, by rw [List.take_add_one, hnk, List.foldl_append, ← hsk, hs2]; rfl, S.sub _ rfl, M⟩
 intro h34 S
 refine cT S (wp_skip (then_normal (wp_seq (wp_block (wp_seq ?_)))))
 obtain ⟨p, hp⟩ : ∃ p, (tkOf K n).steps[j]? = some p := ⟨_, List.getElem?_eq_getElem (by omega)⟩
 obtain ⟨hp0, hp32, hpl, x, hx, hbk, hkd⟩ := steps_small hT.trp hT.may n p (List.mem_of_getElem? hp)
 obtain ⟨kb, pt⟩ := p
 simp only at hp0 hp32 hpl hx hbk
 obtain ⟨kb, rfl⟩ := Int.eq_ofNat_of_zero_le hp0
 obtain ⟨v, hv0⟩ : ∃ v, s2.1[kb]? = some v := ⟨_, List.getElem?_eq_getElem (by omega)⟩
 refine wp_region_lit (qY S (qX 154 1 S ((M.readOf (.tail _ (.tail _ (.tail _ hrow))) (show (tkOf K n).steps.length ≤ maxLen by unfold maxLen; omega)))) ?_); intro a S
 try simp only [Int.toNat_natCast, Nat.mul_one, Nat.zero_add] at S
 refine qY S (y_load S (by kernel_rfl) rfl ((M.readOf (.tail _ (.tail _ (.tail _ hrow))) (show (tkOf K n).steps.length ≤ maxLen by unfold maxLen; omega)).at_.one j (by unfold ccells; rw [List.getElem?_map, hp]; rfl))) ?_; intro a S
 refine qG [1] S ?_; intro a S
 refine nxC (wp_seq (wp_regionK [11] #[false, false, false, false, false, false, false, false, false, false, false, false] rfl M (by kernel_rfl) ?_)); intro w7 M
 refine kP 0 S ?_; intro a S
 refine k_pure 1 S rfl (fun w => y_real S rfl) ?_; intro a S
 refine k_pure 2 S rfl (fun w => y_fromFl S rfl (by omega) (by kernel_rfl) (by kernel_rfl)) ?_; intro a S
 refine kP 3 S ?_; intro a S
 refine kP 4 S ?_; intro a S
 refine k_pure 5 S rfl (fun w => y_imag S rfl) ?_; intro a S
 refine k_pure 6 S rfl (fun w => y_fromFl S rfl (by omega) (by kernel_rfl) (by kernel_rfl)) ?_; intro a S
 refine kR 7 S rfl M (fun w M => qX 157 14 S ((M.arg hv))) ?_; intro a S
 try simp only [Int.toNat_natCast, Nat.mul_one, Nat.zero_add] at S
 refine kR 8 S rfl M (fun w M => y_loadAgg S (by kernel_rfl) rfl rfl ((M.arg hv).at_.row (i := pt) (scells_get hx) rfl)) ?_; intro a S
 refine k_one 9 rfl (by kernel_rfl) ?_
 refine qN S M #[.int .i8 0, .int .i64 0, .int .i64 0, .int .i64 0, .int .i64 0, .int .u8 0, .int .u8 0, .int .u8 0, .int .u8 0, .int .u8 0, .int .u8 0, .int .u8 0, .int .u8 0, .int .i64 0] ?_; intro a w8 bQ S M hB
 refine nxC ⟨fun _ => hB, ?_⟩
 refine kP 10 S ?_; intro a S
 refine k_one 11 rfl (by kernel_rfl) ?_
 refine qS (sz := 14) (us := [_, _, _, _, _, _, _, _, _, _, _, _, _, _]) S M 0 ?_; intro w9 M
 refine nxC ⟨fun h => absurd h (by decide), ?_⟩
 refine k_end (by kernel_rfl) ?_
 refine nxE (qR [1, 1, 1] S M ?_); intro a S
 refine nxC (qi 48 S ?_ ?_)
 ·intro h48 S
  refine cT S (wp_region_lit (qG [1, 6] S ?_)); intro a S
  refine qY S (qL8 S M 0) ?_; intro a S
  refine qY S (y_indexA (m := 32) (sz := 8) S (by kernel_rfl) rfl rfl (by first | omega | (simp; done) | (simp; omega))) ?_; intro a S
  try simp only [Int.toNat_natCast, Nat.mul_one, Nat.zero_add] at S
  refine st_store (sz := 8) (us := [_, _, _, _, _, _, _, _]) S M 3 rfl (by kernel_rfl) rfl rfl rfl rfl rfl rfl (by first | decide | (simp; done) | (simp; omega)) ?_; intro w10 M
  simp only [List.set_cons_zero, List.set_cons_succ] at M
  replace S := S.keep [0, 2, 3, 5, 22, 23, 24, 31, 32, 33, 34, 10, 12, 11, 48]
  refine wpList_nil (block_normal (nxF (qA S ?_))); intro a S
  refine qG [1] S ?_; intro a S
  refine nxC ?_
  skip
  replace M := M.drp 0
  have hs3 : ((tkOf K n).steps.take (j + 1)).foldl (rpP l) s = rpP l s2 ((kb : Int), pt) := by rw [List.take_add_one, hp, List.foldl_append, ← hs2]; rfl
  have hrp : rpP l s2 ((kb : Int), pt) = if x.kind = 2 then (s2.1.set kb x.val, s2.2) else (s2.1, s2.2 && v.eqb x.val) := by
   unfold rpP at8; rw [hx]; simp only [Int.toNat_natCast, hv0, Option.getD_some]
  first
   | (rw [if_pos h48] at hrp
      refine ⟨(tkOf K n).steps.length - (j + 1), by omega, j + 1, (s2.1.set kb x.val, s2.2), by omega, rfl, by rw [hs3, hrp], S.sub _ rfl, ?_⟩
      have e8 := hcells_set (show kb < s2.1.length by omega) x.val
      rw [← e8]
      exact M)
   | (rw [if_neg h48] at hrp
      have h58' : v.eqb x.val = false := by simpa using h58
      rw [h58', Bool.and_false] at hrp
      exact ⟨(tkOf K n).steps.length - (j + 1), by omega, j + 1, (s2.1, false), by omega, rfl, by rw [hs3, hrp], S.sub _ rfl, M⟩)
   | (rw [if_neg h48] at hrp
      have h58' : v.eqb x.val = true := by simpa using h58
      rw [h58', Bool.and_true] at hrp
      exact ⟨(tkOf K n).steps.length - (j + 1), by omega, j + 1, s2, by omega, rfl, by rw [hs3, hrp], S.sub _ rfl, M⟩)
 intro h48 S
 refine cF S (wp_seq (wp_quiet M (by kernel_rfl) (by kernel_rfl) ?_))
 refine qU S (fun w M => y_move S rfl) ?_; intro a S
 refine qU S (fun w M => y_indexA (m := 32) (sz := 8) S (by kernel_rfl) rfl rfl (by first | omega | (simp; done) | (simp; omega))) ?_; intro a S
 try simp only [Int.toNat_natCast, Nat.mul_one, Nat.zero_add] at S
 refine qU S (fun w M => y_loadAgg (cs := [_, _, _, _, _, _, _, _]) S (by kernel_rfl) rfl rfl (homeAt (M.blk 3 rfl) hv0)) ?_; intro a S
 refine qU S (fun w M => y_fieldAddr (k := 5) S (by kernel_rfl) rfl) ?_; intro a S
 refine qU S (fun w M => qL8 S M 0) ?_; intro a S
 refine qU S (fun w M => y_neqG (by kernel_rfl) S rfl rfl (fun w => equalV8 9998 v x.val w)) ?_; intro a S
 refine wpQuiet_nil ?_; intro w11 M
 replace S := S.keep [0, 2, 3, 5, 22, 23, 24, 31, 32, 33, 34, 10, 12, 11, 48, 58]
 refine then_normal (st_tils (t := 58) S rfl ?_ ?_)
 ·intro h58 S
  refine cF S (wp_skip (block_normal (nxF (qA S ?_)))); intro a S
  refine qG [1] S ?_; intro a S
  refine nxC ?_
  skip
  replace M := M.drp 0
  have hs3 : ((tkOf K n).steps.take (j + 1)).foldl (rpP l) s = rpP l s2 ((kb : Int), pt) := by rw [List.take_add_one, hp, List.foldl_append, ← hs2]; rfl
  have hrp : rpP l s2 ((kb : Int), pt) = if x.kind = 2 then (s2.1.set kb x.val, s2.2) else (s2.1, s2.2 && v.eqb x.val) := by
   unfold rpP at8; rw [hx]; simp only [Int.toNat_natCast, hv0, Option.getD_some]
  first
   | (rw [if_pos h48] at hrp
      refine ⟨(tkOf K n).steps.length - (j + 1), by omega, j + 1, (s2.1.set kb x.val, s2.2), by omega, rfl, by rw [hs3, hrp], S.sub _ rfl, ?_⟩
      have e8 := hcells_set (show kb < s2.1.length by omega) x.val
      rw [← e8]
      exact M)
   | (rw [if_neg h48] at hrp
      have h58' : v.eqb x.val = false := by simpa using h58
      rw [h58', Bool.and_false] at hrp
      exact ⟨(tkOf K n).steps.length - (j + 1), by omega, j + 1, (s2.1, false), by omega, rfl, by rw [hs3, hrp], S.sub _ rfl, M⟩)
   | (rw [if_neg h48] at hrp
      have h58' : v.eqb x.val = true := by simpa using h58
      rw [h58', Bool.and_true] at hrp
      exact ⟨(tkOf K n).steps.length - (j + 1), by omega, j + 1, s2, by omega, rfl, by rw [hs3, hrp], S.sub _ rfl, M⟩)
 intro h58 S
 refine cT S (wp_region_lit (qG [1] S ?_)); intro a S
 refine wpList_nil (block_normal (nxF (qA S ?_))); intro a S
 refine qG [1] S ?_; intro a S
 refine nxC ?_
 skip
 replace M := M.drp 0
 have hs3 : ((tkOf K n).steps.take (j + 1)).foldl (rpP l) s = rpP l s2 ((kb : Int), pt) := by rw [List.take_add_one, hp, List.foldl_append, ← hs2]; rfl
 have hrp : rpP l s2 ((kb : Int), pt) = if x.kind = 2 then (s2.1.set kb x.val, s2.2) else (s2.1, s2.2 && v.eqb x.val) := by
  unfold rpP at8; rw [hx]; simp only [Int.toNat_natCast, hv0, Option.getD_some]
 first
  | (rw [if_pos h48] at hrp
     refine ⟨(tkOf K n).steps.length - (j + 1), by omega, j + 1, (s2.1.set kb x.val, s2.2), by omega, rfl, by rw [hs3, hrp], S.sub _ rfl, ?_⟩
     have e8 := hcells_set (show kb < s2.1.length by omega) x.val
     rw [← e8]
     exact M)
  | (rw [if_neg h48] at hrp
     have h58' : v.eqb x.val = false := by simpa using h58
     rw [h58', Bool.and_false] at hrp
     exact ⟨(tkOf K n).steps.length - (j + 1), by omega, j + 1, (s2.1, false), by omega, rfl, by rw [hs3, hrp], S.sub _ rfl, M⟩)
  | (rw [if_neg h48] at hrp
     have h58' : v.eqb x.val = true := by simpa using h58
     rw [h58', Bool.and_true] at hrp
     exact ⟨(tkOf K n).steps.length - (j + 1), by omega, j + 1, s2, by omega, rfl, by rw [hs3, hrp], S.sub _ rfl, M⟩)
theorem ordS_len (l : List Sn) : (ordS l).length ≤ l.length := by unfold ordS; rw [List.length_map]; exact List.length_filter_le ..
def rpI (l : List Sn) (s : Rp) (n : Nm) (i : Nat) : Rp := ((l.take i).filter fun x => x.name.eqb n).foldl rpS s
theorem rpI_len (l : List Sn) (s : Rp) (n : Nm) (i : Nat) : (rpI l s n i).1.length = s.1.length := by
 unfold rpI
 generalize (l.take i).filter (fun x => x.name.eqb n) = q
 induction q generalizing s with
 | nil => rfl
 | cons x q ih => rw [List.foldl_cons, ih, rpS_len]
theorem rpI_yes {l : List Sn} {s : Rp} {n : Nm} {i : Nat} {x : Sn} (hx : l[i]? = some x) (h : x.name.eqb n = true) : rpI l s n (i + 1) = rpS (rpI l s n i) x := by
 unfold rpI
 rw [List.take_add_one, hx, List.filter_append, List.foldl_append]
 simp [h]
theorem rpI_no {l : List Sn} {s : Rp} {n : Nm} {i : Nat} {x : Sn} (hx : l[i]? = some x) (h : x.name.eqb n = false) : rpI l s n (i + 1) = rpI l s n i := by
 unfold rpI
 rw [List.take_add_one, hx, List.filter_append, List.foldl_append]
 simp [h]
theorem rpI_all (l : List Sn) (s : Rp) (n : Nm) : rpI l s n l.length = rpN l s n := by unfold rpI rpN; rw [List.take_length]
set_option maxHeartbeats 4000000 in
set_option maxRecDepth 10000 in
theorem replay27_any (va : Option Addr) (vc : Nat) (l : List Sn) (w : World) (hv : Ss 0 w.heap.size w (.slice va l.length vc) l) (hl : l.length ≤ 200) :
 Calls Tryz.prog 41 #[.slice va l.length vc] w fun e w' => ∃ er st sr, e = .returned (.tuple #[.agg (hcells st).toArray, .bool sr, .int .i64 er]) ∧ Below w.heap.size w w' ∧ st.length = 32 ∧ (er = 0 ↔ mayS l) ∧ (er = 0 → (st, sr) = rpA l) := by
 have M := Mem.start w
 refine qI Tryz.func41 85 ?_; intro a S
 refine nxD (qN S M (hcells zHm).toArray ?_); intro a w1 bR S M hB
 refine qG [1, 1] S ?_; intro a S
 refine nxA (qN S M (hcells zHm).toArray ?_); intro a w2 bT S M hB
 refine nxA (qG [1] S ?_); intro a S
 refine qC (xs := [.tmp 13]) S (qE Tryz.func69) rfl (order27_any va vc l _ (M.argW hv) hl) ?_
 rintro _ w3 ⟨er, lo, hi, a2, cap, r, rfl, M1, her, hro⟩; refine ⟨_, rfl, ?_⟩; intro a S; replace M := M.join M1; clear M1; simp only [List.cons_append, List.nil_append] at M
 refine qG [1, 1, 1, 1, 1] S ?_; intro a S
 refine nxC (wp_seq (nxD (qG [1, 1] S ?_))); intro a S
 refine nxC (qi 18 S ?_ ?_)
 ·intro h18 S
  refine cT S (nxD (qY S (y_loadAgg (k := 256) (cs := _) S (by kernel_rfl) rfl (by with_reducible first | exact zHm_len | exact hq1 | exact hq2) (M.cellsAt 1 rfl cutL_all)) ?_)); intro a S
  refine qG [1] S ?_; intro a S
  refine st_storeAll (sz := 256) S M 2 rfl (by kernel_rfl) rfl rfl (by with_reducible first | exact zHm_len | exact hq1 | exact hq2) (by exact allOne_hcells _) rfl (by with_reducible first | exact zHm_len | exact hq1 | exact hq2) ?_; intro w4 M
  simp only [List.set_cons_zero, List.set_cons_succ] at M
  refine qG [1, 1] S ?_; intro a S
  refine nxC (wp_ret (then_ret (end_three S rfl (res_agg (k := 256) (cs := _) (by kernel_rfl) rfl (by with_reducible first | exact zHm_len | exact hq1 | exact hq2) (M.cellsAt 2 rfl cutL_all)) (res_tmp rfl) (res_tmp rfl) ?_)))
  exact ⟨er, zHm, false, rfl, M.below, rfl, her, fun h => absurd h h18⟩
 intro h18 S
 refine cF S (wp_skip (then_normal (wp_seq ?_)))
 have hr0 : er = 0 := h18
 have hmay : mayS l := her.1 hr0
 have hrs := hro hr0
 have hrl2 : r.length ≤ 200 := by rw [hrs]; exact Nat.le_trans (ordS_len l) hl
 refine wp_region_lit (qG [1] S ?_); intro a S
 refine nxC (wp_seq (nxD (qG [1] S ?_))); intro a S
 refine nxC (wp_block (wp_loop_g (fun q a w' => ∃ (k : Nat) (s : Rp), k ≤ r.length ∧ q = r.length - k ∧ s = (r.take k).foldl (rpN l) (zHm, true) ∧ Sees 85 a [(0, .slice va l.length vc), (2, .pointer (some ⟨bR, 0, none⟩)), (5, .pointer (some ⟨bT, 0, none⟩)), (6, .slice a2 r.length cap), (8, .bool s.2), (9, .int .i64 (k : Int))] ∧ Mem w w' [rowE lo hi 28 3 (.slice a2 r.length cap) r.length (nmcells r), .blk bT (hcells s.1).toArray 60, .blk bR (hcells zHm).toArray 60]) (r.length) ?_ ?_))
 ·skip
  exact ⟨0, (zHm, true), Nat.zero_le _, rfl, rfl, S.sub _ rfl, M⟩
 intro m a wl
 rintro ⟨k, s, hk, rfl, hsk, S, M⟩
 have hq0 : s.1.length = 32 := by rw [hsk, rpNs_len]; rfl
 have hq1 : (hcells s.1).length = 256 := by rw [hcells_length, hq0]
 refine wp_seq (nxD (qG [1, 1] S ?_)); intro a S
 refine qY S (qH 28 S) ?_; intro a S
 refine qG [1] S ?_; intro a S
 refine nxC (qf 24 S ?_ ?_)
 ·intro h24 S
  refine cF S (wp_exit (then_exit (then_exit (block_hit (nxE (qY S (y_loadAgg (k := 256) (cs := _) S (by kernel_rfl) rfl (by with_reducible first | exact zHm_len | exact hq1 | exact hq2) (M.cellsAt 1 rfl cutL_all)) ?_)))))); intro a S
  refine qG [1] S ?_; intro a S
  refine st_storeAll (sz := 256) S M 2 rfl (by kernel_rfl) rfl rfl (by with_reducible first | exact zHm_len | exact hq1 | exact hq2) (by exact allOne_hcells _) rfl (by with_reducible first | exact zHm_len | exact hq1 | exact hq2) ?_; intro w13 M
  simp only [List.set_cons_zero, List.set_cons_succ] at M
  refine qG [1, 1] S ?_; intro a S
  refine nxC (wp_ret (end_three S rfl (res_agg (k := 256) (cs := _) (by kernel_rfl) rfl (by with_reducible first | exact zHm_len | exact hq1 | exact hq2) (M.cellsAt 2 rfl cutL_all)) (res_tmp rfl) (res_tmp rfl) ?_))
  obtain rfl : k = r.length := by omega
  rw [List.take_length, hrs] at hsk
  exact ⟨0, s.1, s.2, rfl, M.below, hq0, ⟨fun _ => hmay, fun _ => rfl⟩, fun _ => by rw [hsk]; rfl⟩
 intro h24 S
 refine cT S (wp_skip (then_normal (wp_seq (wp_block (wp_seq ?_)))))
 obtain ⟨n, hnk⟩ : ∃ n, r[k]? = some n := ⟨_, List.getElem?_eq_getElem (by omega)⟩
 refine wp_region_lit (qY S (y_loadAgg (k := 256) (cs := _) S (by kernel_rfl) rfl (by with_reducible first | exact zHm_len | exact hq1 | exact hq2) (M.cellsAt 1 rfl cutL_all)) ?_); intro a S
 refine qN S M (hcells zHm).toArray ?_; intro a w5 bO S M hB
 refine st_storeAll (sz := 256) S M 0 rfl (by kernel_rfl) rfl rfl (by with_reducible first | exact zHm_len | exact hq1 | exact hq2) (by exact allOne_hcells _) rfl (by with_reducible first | exact zHm_len | exact hq1 | exact hq2) ?_; intro w6 M
 simp only [List.set_cons_zero, List.set_cons_succ] at M
 refine nxC (wp_seq (nxD (qG [1] S ?_))); intro a S
 refine nxC (wp_block (wp_loop_g (fun q a w' => ∃ (i : Nat) (s2 : Rp), i ≤ l.length ∧ q = l.length - i ∧ s2 = rpI l s n i ∧ Sees 85 a [(0, .slice va l.length vc), (2, .pointer (some ⟨bR, 0, none⟩)), (5, .pointer (some ⟨bT, 0, none⟩)), (6, .slice a2 r.length cap), (8, .bool s2.2), (9, .int .i64 (k : Int)), (10, .pointer (some ⟨bO, 0, none⟩)), (11, .int .i64 (i : Int))] ∧ Mem w w' [.blk bO (hcells s2.1).toArray 60, rowE lo hi 28 3 (.slice a2 r.length cap) r.length (nmcells r), .blk bT (hcells s.1).toArray 60, .blk bR (hcells zHm).toArray 60]) (l.length) ?_ ?_))
 ·skip
  exact ⟨0, s, Nat.zero_le _, rfl, rfl, S.sub _ rfl, M⟩
 intro m a wl
 rintro ⟨i, s2, hi', rfl, hs2, S, M⟩
 have hq0b : s2.1.length = 32 := by rw [hs2, rpI_len]; exact hq0
 have hq2 : (hcells s2.1).length = 256 := by rw [hcells_length, hq0b]
 refine wp_seq (nxD (qG [1, 1] S ?_)); intro a S
 refine qY S (y_lenR (E := 157) S rfl ((M.arg hv)) (by kernel_rfl)) ?_; intro a S
 refine qG [1] S ?_; intro a S
 refine nxC (qf 31 S ?_ ?_)
 ·intro h31 S
  refine cF S (wp_exit (then_exit (then_exit (block_hit (nxF (qY S (y_loadAgg (k := 256) (cs := _) S (by kernel_rfl) rfl (by with_reducible first | exact zHm_len | exact hq1 | exact hq2) (M.cellsAt 0 rfl cutL_all)) ?_)))))); intro a S
  refine st_storeAll (sz := 256) S M 2 rfl (by kernel_rfl) rfl rfl (by with_reducible first | exact zHm_len | exact hq1 | exact hq2) (by exact allOne_hcells _) rfl (by with_reducible first | exact zHm_len | exact hq1 | exact hq2) ?_; intro w12 M
  simp only [List.set_cons_zero, List.set_cons_succ] at M
  refine wpList_nil (block_normal (nxF (qG [1] S ?_))); intro a S
  refine qA S ?_; intro a S
  refine qG [1] S ?_; intro a S
  refine nxC ?_
  obtain rfl : i = l.length := by omega
  rw [rpI_all] at hs2
  replace M := M.drp 0
  exact ⟨r.length - (k + 1), by omega, k + 1, s2, by omega, rfl, by rw [List.take_add_one, hnk, List.foldl_append, ← hsk, hs2]; rfl, S.sub _ rfl, M⟩
 intro h31 S
 refine cT S (wp_skip (then_normal (wp_seq (wp_block (wp_seq (wp_seq ?_))))))
 obtain ⟨x, hx⟩ : ∃ x, l[i]? = some x := ⟨_, List.getElem?_eq_getElem (by omega)⟩
 obtain ⟨xk, xn, xb, xv, xe⟩ := x
 obtain ⟨-, -, -, hxb, -, -⟩ := hmay i _ hx
 simp only at hxb
 obtain ⟨kb, hkb⟩ : ∃ kb : Nat, (xk = 1 ∨ xk = 2) → xb = (kb : Int) ∧ kb < 32 := ⟨xb.toNat, fun h => by have := (hxb h).1; omega⟩
 obtain ⟨v, hv0⟩ : ∃ v, kb < 32 → s2.1[kb]? = some v := ⟨(s2.1[kb]?).getD zV, fun h => by rw [List.getElem?_eq_getElem (show kb < s2.1.length by omega)]; rfl⟩
 refine wp_quiet M (by kernel_rfl) (by kernel_rfl) ?_
 refine qU S (fun w M => y_move S rfl) ?_; intro a S
 refine qU S (fun w M => y_move S rfl) ?_; intro a S
 refine qU S (fun w M => qX 157 14 S ((M.arg hv))) ?_; intro a S
 try simp only [Int.toNat_natCast, Nat.mul_one, Nat.zero_add] at S
 refine qU S (fun w M => y_fieldAddr (k := 1) S (by kernel_rfl) rfl) ?_; intro a S
 refine qU S (fun w M => y_loadAgg S (by kernel_rfl) rfl rfl (((M.arg hv).at_.row (i := i) (scells_get hx) rfl).sub (i := 1) (k := 3))) ?_; intro a S
 refine qU S (fun w M => y_move S rfl) ?_; intro a S
 refine qU S (fun w M => y_move S rfl) ?_; intro a S
 refine qU S (fun w M => qX 28 3 S ((M.readAll 1 rfl (show r.length ≤ maxLen by unfold maxLen; omega)))) ?_; intro a S
 try simp only [Int.toNat_natCast, Nat.mul_one, Nat.zero_add] at S
 refine qU S (fun w M => y_loadAgg S (by kernel_rfl) rfl rfl ((M.readAll 1 rfl (show r.length ≤ maxLen by unfold maxLen; omega)).at_.row (i := k) (nmcells_get hnk) rfl)) ?_; intro a S
 refine qU S (fun w M => y_neqG (by kernel_rfl) S rfl rfl (fun w => equalNm 9998 xn n w)) ?_; intro a S
 refine wpQuiet_nil ?_; intro w7 M
 refine then_normal (st_split (t := 43) S rfl ?_ ?_)
 ·intro h43 S
  refine cT S (wp_exit (then_exit (block_hit (nxF (qG [1] S ?_))))); intro a S
  refine qA S ?_; intro a S
  refine qG [1] S ?_; intro a S
  replace S := S.keep [0, 2, 5, 6, 8, 9, 10, 31, 43, 11]
  refine nxC ?_
  skip
  first
   | (have e : xn.eqb n = false := by simpa using h43
      exact ⟨l.length - (i + 1), by omega, i + 1, s2, by omega, rfl, by rw [rpI_no hx e, hs2], S.sub _ rfl, M⟩)
   | (have e : xn.eqb n = true := by simpa using h43
      have hstep := rpI_yes (s := s) hx e
      rw [← hs2, show rpS s2 _ = (s2.1.set kb xv, s2.2) by unfold rpS; rw [if_pos h70]; simp only [Int.toNat_natCast]] at hstep
      refine ⟨l.length - (i + 1), by omega, i + 1, (s2.1.set kb xv, s2.2), by omega, rfl, hstep.symm, S.sub _ rfl, ?_⟩
      have e8 := hcells_set (show kb < s2.1.length by omega) xv
      rw [← e8]
      exact M)
   | (have e : xn.eqb n = true := by simpa using h43
      have hstep := rpI_yes (s := s) hx e
      have h64' : v.eqb xv = false := by simpa using h64
      rw [← hs2, show rpS s2 _ = (s2.1, false) by unfold rpS at8; rw [if_neg h70, if_pos h50]; simp only [Int.toNat_natCast, hv0 hk32, Option.getD_some, h64', Bool.and_false]] at hstep
      exact ⟨l.length - (i + 1), by omega, i + 1, (s2.1, false), by omega, rfl, hstep.symm, S.sub _ rfl, M⟩)
   | (have e : xn.eqb n = true := by simpa using h43
      have hstep := rpI_yes (s := s) hx e
      have h64' : v.eqb xv = true := by simpa using h64
      rw [← hs2, show rpS s2 _ = s2 by unfold rpS at8; rw [if_neg h70, if_pos h50]; simp only [Int.toNat_natCast, hv0 hk32, Option.getD_some, h64', Bool.and_true]] at hstep
      exact ⟨l.length - (i + 1), by omega, i + 1, s2, by omega, rfl, hstep.symm, S.sub _ rfl, M⟩)
   | (have e : xn.eqb n = true := by simpa using h43
      have hstep := rpI_yes (s := s) hx e
      rw [← hs2, show rpS s2 _ = s2 by unfold rpS; rw [if_neg h70, if_neg h50]] at hstep
      exact ⟨l.length - (i + 1), by omega, i + 1, s2, by omega, rfl, hstep.symm, S.sub _ rfl, M⟩)
 intro h43 S
 refine cF S (wp_skip (then_normal (wp_seq (wp_seq (wp_quiet M (by kernel_rfl) (by kernel_rfl) ?_)))))
 refine qU S (fun w M => y_move S rfl) ?_; intro a S
 refine qU S (fun w M => y_move S rfl) ?_; intro a S
 refine qU S (fun w M => qX 157 14 S ((M.arg hv))) ?_; intro a S
 try simp only [Int.toNat_natCast, Nat.mul_one, Nat.zero_add] at S
 refine qU S (fun w M => y_fieldAddr (k := 0) S (by kernel_rfl) rfl) ?_; intro a S
 refine qU S (fun w M => y_load S (by kernel_rfl) rfl ((M.arg hv).at_.elem (i := i) (sz := 14) (k := 0) (scells_at hx 0 rfl))) ?_; intro a S
 refine qU S (fun w M => y_int S rfl rfl rfl) ?_; intro a S
 refine qU S (fun w M => y_move S rfl) ?_; intro a S
 refine qf 50 S ?_ ?_
 ·intro h50 S
  refine qt_no S rfl rfl rfl ?_; intro a S
  refine qt_skip 12 S rfl ?_; intro a S
  refine qU S (fun w M => y_pickF S rfl rfl) ?_; intro a S
  refine wpQuiet_nil ?_; intro w9 M
  replace S := S.keep [0, 2, 5, 6, 8, 9, 10, 11, 31, 43, 64]
  refine then_normal (cF S (wp_skip (nxE (qG [1, 1] S ?_)))); intro a S
  refine qY S (qX 157 14 S ((M.arg hv))) ?_; intro a S
  try simp only [Int.toNat_natCast, Nat.mul_one, Nat.zero_add] at S
  refine qG [1] S ?_; intro a S
  refine qY S (y_load S (by kernel_rfl) rfl ((M.arg hv).at_.elem (i := i) (sz := 14) (k := 0) (scells_at hx 0 rfl))) ?_; intro a S
  refine qG [1] S ?_; intro a S
  refine nxC (qf 70 S ?_ ?_)
  ·intro h70 S
   refine cF S (wp_skip (block_normal (nxF (qG [1] S ?_)))); intro a S
   refine qA S ?_; intro a S
   refine qG [1] S ?_; intro a S
   refine nxC ?_
   skip
   first
    | (have e : xn.eqb n = false := by simpa using h43
       exact ⟨l.length - (i + 1), by omega, i + 1, s2, by omega, rfl, by rw [rpI_no hx e, hs2], S.sub _ rfl, M⟩)
    | (have e : xn.eqb n = true := by simpa using h43
       have hstep := rpI_yes (s := s) hx e
       rw [← hs2, show rpS s2 _ = (s2.1.set kb xv, s2.2) by unfold rpS; rw [if_pos h70]; simp only [Int.toNat_natCast]] at hstep
       refine ⟨l.length - (i + 1), by omega, i + 1, (s2.1.set kb xv, s2.2), by omega, rfl, hstep.symm, S.sub _ rfl, ?_⟩
       have e8 := hcells_set (show kb < s2.1.length by omega) xv
       rw [← e8]
       exact M)
    | (have e : xn.eqb n = true := by simpa using h43
       have hstep := rpI_yes (s := s) hx e
       have h64' : v.eqb xv = false := by simpa using h64
       rw [← hs2, show rpS s2 _ = (s2.1, false) by unfold rpS at8; rw [if_neg h70, if_pos h50]; simp only [Int.toNat_natCast, hv0 hk32, Option.getD_some, h64', Bool.and_false]] at hstep
       exact ⟨l.length - (i + 1), by omega, i + 1, (s2.1, false), by omega, rfl, hstep.symm, S.sub _ rfl, M⟩)
    | (have e : xn.eqb n = true := by simpa using h43
       have hstep := rpI_yes (s := s) hx e
       have h64' : v.eqb xv = true := by simpa using h64
       rw [← hs2, show rpS s2 _ = s2 by unfold rpS at8; rw [if_neg h70, if_pos h50]; simp only [Int.toNat_natCast, hv0 hk32, Option.getD_some, h64', Bool.and_true]] at hstep
       exact ⟨l.length - (i + 1), by omega, i + 1, s2, by omega, rfl, hstep.symm, S.sub _ rfl, M⟩)
    | (have e : xn.eqb n = true := by simpa using h43
       have hstep := rpI_yes (s := s) hx e
       rw [← hs2, show rpS s2 _ = s2 by unfold rpS; rw [if_neg h70, if_neg h50]] at hstep
       exact ⟨l.length - (i + 1), by omega, i + 1, s2, by omega, rfl, hstep.symm, S.sub _ rfl, M⟩)
  intro h70 S
  refine cT S ?_
  obtain ⟨rfl, hk32⟩ := hkb (.inr h70)
  refine wp_regionK [11] #[false, false, false, false, false, false, false, false, false, false, false, false] rfl M (by kernel_rfl) ?_; intro w10 M
  refine kP 0 S ?_; intro a S
  refine kP 1 S ?_; intro a S
  refine kR 2 S rfl M (fun w M => qX 157 14 S ((M.arg hv))) ?_; intro a S
  try simp only [Int.toNat_natCast, Nat.mul_one, Nat.zero_add] at S
  refine kF 3 4 S ?_; intro a S
  refine kR 4 S rfl M (fun w M => y_load S (by kernel_rfl) rfl ((M.arg hv).at_.elem (i := i) (sz := 14) (k := 4) (scells_at hx 4 rfl))) ?_; intro a S
  refine kP 5 S ?_; intro a S
  refine kP 6 S ?_; intro a S
  refine kR 7 S rfl M (fun w M => qX 157 14 S ((M.arg hv))) ?_; intro a S
  try simp only [Int.toNat_natCast, Nat.mul_one, Nat.zero_add] at S
  refine kF 8 5 S ?_; intro a S
  refine kR 9 S rfl M (fun w M => y_loadAgg S (by kernel_rfl) rfl rfl (((M.arg hv).at_.row (i := i) (scells_get hx) rfl).sub (i := 5) (k := 8))) ?_; intro a S
  refine k_pure 10 S rfl (fun w => y_indexA (m := 32) (sz := 8) S (by kernel_rfl) rfl rfl (by first | omega | (simp; done) | (simp; omega))) ?_; intro a S
  try simp only [Int.toNat_natCast, Nat.mul_one, Nat.zero_add] at S
  refine k_one 11 rfl (by kernel_rfl) ?_
  refine st_store (sz := 8) (us := [_, _, _, _, _, _, _, _]) S M 0 rfl (by kernel_rfl) rfl rfl rfl rfl rfl rfl (by first | decide | (simp; done) | (simp; omega)) ?_; intro w11 M
  simp only [List.set_cons_zero, List.set_cons_succ] at M
  refine nxC ⟨fun h => absurd h (by decide), ?_⟩
  refine k_end (by kernel_rfl) ?_
  replace S := S.keep [0, 2, 5, 6, 8, 9, 10, 11, 31, 43, 64, 70]
  refine block_normal (nxF (qG [1] S ?_)); intro a S
  refine qA S ?_; intro a S
  refine qG [1] S ?_; intro a S
  refine nxC ?_
  skip
  first
   | (have e : xn.eqb n = false := by simpa using h43
      exact ⟨l.length - (i + 1), by omega, i + 1, s2, by omega, rfl, by rw [rpI_no hx e, hs2], S.sub _ rfl, M⟩)
   | (have e : xn.eqb n = true := by simpa using h43
      have hstep := rpI_yes (s := s) hx e
      rw [← hs2, show rpS s2 _ = (s2.1.set kb xv, s2.2) by unfold rpS; rw [if_pos h70]; simp only [Int.toNat_natCast]] at hstep
      refine ⟨l.length - (i + 1), by omega, i + 1, (s2.1.set kb xv, s2.2), by omega, rfl, hstep.symm, S.sub _ rfl, ?_⟩
      have e8 := hcells_set (show kb < s2.1.length by omega) xv
      rw [← e8]
      exact M)
   | (have e : xn.eqb n = true := by simpa using h43
      have hstep := rpI_yes (s := s) hx e
      have h64' : v.eqb xv = false := by simpa using h64
      rw [← hs2, show rpS s2 _ = (s2.1, false) by unfold rpS at8; rw [if_neg h70, if_pos h50]; simp only [Int.toNat_natCast, hv0 hk32, Option.getD_some, h64', Bool.and_false]] at hstep
      exact ⟨l.length - (i + 1), by omega, i + 1, (s2.1, false), by omega, rfl, hstep.symm, S.sub _ rfl, M⟩)
   | (have e : xn.eqb n = true := by simpa using h43
      have hstep := rpI_yes (s := s) hx e
      have h64' : v.eqb xv = true := by simpa using h64
      rw [← hs2, show rpS s2 _ = s2 by unfold rpS at8; rw [if_neg h70, if_pos h50]; simp only [Int.toNat_natCast, hv0 hk32, Option.getD_some, h64', Bool.and_true]] at hstep
      exact ⟨l.length - (i + 1), by omega, i + 1, s2, by omega, rfl, hstep.symm, S.sub _ rfl, M⟩)
   | (have e : xn.eqb n = true := by simpa using h43
      have hstep := rpI_yes (s := s) hx e
      rw [← hs2, show rpS s2 _ = s2 by unfold rpS; rw [if_neg h70, if_neg h50]] at hstep
      exact ⟨l.length - (i + 1), by omega, i + 1, s2, by omega, rfl, hstep.symm, S.sub _ rfl, M⟩)
 intro h50 S
 obtain ⟨rfl, hk32⟩ := hkb (.inl h50)
 refine qU S (fun w M => y_move S rfl) ?_; intro a S
 refine qU S (fun w M => y_move S rfl) ?_; intro a S
 refine qU S (fun w M => qX 157 14 S ((M.arg hv))) ?_; intro a S
 try simp only [Int.toNat_natCast, Nat.mul_one, Nat.zero_add] at S
 refine qU S (fun w M => y_fieldAddr (k := 4) S (by kernel_rfl) rfl) ?_; intro a S
 refine qU S (fun w M => y_load S (by kernel_rfl) rfl ((M.arg hv).at_.elem (i := i) (sz := 14) (k := 4) (scells_at hx 4 rfl))) ?_; intro a S
 refine qU S (fun w M => y_indexA (m := 32) (sz := 8) S (by kernel_rfl) rfl rfl (by first | omega | (simp; done) | (simp; omega))) ?_; intro a S
 try simp only [Int.toNat_natCast, Nat.mul_one, Nat.zero_add] at S
 refine qU S (fun w M => y_loadAgg (cs := [_, _, _, _, _, _, _, _]) S (by kernel_rfl) rfl rfl (homeAt (M.blk 0 rfl) (hv0 hk32))) ?_; intro a S
 refine qU S (fun w M => y_move S rfl) ?_; intro a S
 refine qU S (fun w M => y_move S rfl) ?_; intro a S
 refine qU S (fun w M => qX 157 14 S ((M.arg hv))) ?_; intro a S
 try simp only [Int.toNat_natCast, Nat.mul_one, Nat.zero_add] at S
 refine qU S (fun w M => y_fieldAddr (k := 5) S (by kernel_rfl) rfl) ?_; intro a S
 refine qU S (fun w M => y_loadAgg S (by kernel_rfl) rfl rfl (((M.arg hv).at_.row (i := i) (scells_get hx) rfl).sub (i := 5) (k := 8))) ?_; intro a S
 refine qU S (fun w M => y_neqG (by kernel_rfl) S rfl rfl (fun w => equalV8 9998 v xv w)) ?_; intro a S
 refine qU S (fun w M => y_pickT S rfl rfl) ?_; intro a S
 refine wpQuiet_nil ?_; intro w8 M
 replace S := S.keep [0, 2, 5, 6, 8, 9, 10, 11, 31, 43, 64]
 refine then_normal (st_tils (t := 64) S rfl ?_ ?_)
 ·intro h64 S
  refine cF S (wp_skip (nxE (qG [1, 1] S ?_))); intro a S
  refine qY S (qX 157 14 S ((M.arg hv))) ?_; intro a S
  try simp only [Int.toNat_natCast, Nat.mul_one, Nat.zero_add] at S
  refine qG [1] S ?_; intro a S
  refine qY S (y_load S (by kernel_rfl) rfl ((M.arg hv).at_.elem (i := i) (sz := 14) (k := 0) (scells_at hx 0 rfl))) ?_; intro a S
  refine qG [1] S ?_; intro a S
  refine nxC (qi 70 S ?_ ?_)
  ·intro h70 S
   exact absurd (h50.symm.trans h70) (by decide)
  intro h70 S
  refine cF S (wp_skip (block_normal (nxF (qG [1] S ?_)))); intro a S
  refine qA S ?_; intro a S
  refine qG [1] S ?_; intro a S
  refine nxC ?_
  skip
  first
   | (have e : xn.eqb n = false := by simpa using h43
      exact ⟨l.length - (i + 1), by omega, i + 1, s2, by omega, rfl, by rw [rpI_no hx e, hs2], S.sub _ rfl, M⟩)
   | (have e : xn.eqb n = true := by simpa using h43
      have hstep := rpI_yes (s := s) hx e
      rw [← hs2, show rpS s2 _ = (s2.1.set kb xv, s2.2) by unfold rpS; rw [if_pos h70]; simp only [Int.toNat_natCast]] at hstep
      refine ⟨l.length - (i + 1), by omega, i + 1, (s2.1.set kb xv, s2.2), by omega, rfl, hstep.symm, S.sub _ rfl, ?_⟩
      have e8 := hcells_set (show kb < s2.1.length by omega) xv
      rw [← e8]
      exact M)
   | (have e : xn.eqb n = true := by simpa using h43
      have hstep := rpI_yes (s := s) hx e
      have h64' : v.eqb xv = false := by simpa using h64
      rw [← hs2, show rpS s2 _ = (s2.1, false) by unfold rpS at8; rw [if_neg h70, if_pos h50]; simp only [Int.toNat_natCast, hv0 hk32, Option.getD_some, h64', Bool.and_false]] at hstep
      exact ⟨l.length - (i + 1), by omega, i + 1, (s2.1, false), by omega, rfl, hstep.symm, S.sub _ rfl, M⟩)
   | (have e : xn.eqb n = true := by simpa using h43
      have hstep := rpI_yes (s := s) hx e
      have h64' : v.eqb xv = true := by simpa using h64
      rw [← hs2, show rpS s2 _ = s2 by unfold rpS at8; rw [if_neg h70, if_pos h50]; simp only [Int.toNat_natCast, hv0 hk32, Option.getD_some, h64', Bool.and_true]] at hstep
      exact ⟨l.length - (i + 1), by omega, i + 1, s2, by omega, rfl, hstep.symm, S.sub _ rfl, M⟩)
   | (have e : xn.eqb n = true := by simpa using h43
      have hstep := rpI_yes (s := s) hx e
      rw [← hs2, show rpS s2 _ = s2 by unfold rpS; rw [if_neg h70, if_neg h50]] at hstep
      exact ⟨l.length - (i + 1), by omega, i + 1, s2, by omega, rfl, hstep.symm, S.sub _ rfl, M⟩)
 intro h64 S
 refine cT S (wp_region_lit (qG [1] S ?_)); intro a S
 refine nxA (qG [1, 1] S ?_); intro a S
 refine qY S (qX 157 14 S ((M.arg hv))) ?_; intro a S
 try simp only [Int.toNat_natCast, Nat.mul_one, Nat.zero_add] at S
 refine qG [1] S ?_; intro a S
 refine qY S (y_load S (by kernel_rfl) rfl ((M.arg hv).at_.elem (i := i) (sz := 14) (k := 0) (scells_at hx 0 rfl))) ?_; intro a S
 refine qG [1] S ?_; intro a S
 refine nxC (qi 70 S ?_ ?_)
 ·intro h70 S
  exact absurd (h50.symm.trans h70) (by decide)
 intro h70 S
 refine cF S (wp_skip (block_normal (nxF (qG [1] S ?_)))); intro a S
 refine qA S ?_; intro a S
 refine qG [1] S ?_; intro a S
 refine nxC ?_
 skip
 first
  | (have e : xn.eqb n = false := by simpa using h43
     exact ⟨l.length - (i + 1), by omega, i + 1, s2, by omega, rfl, by rw [rpI_no hx e, hs2], S.sub _ rfl, M⟩)
  | (have e : xn.eqb n = true := by simpa using h43
     have hstep := rpI_yes (s := s) hx e
     rw [← hs2, show rpS s2 _ = (s2.1.set kb xv, s2.2) by unfold rpS; rw [if_pos h70]; simp only [Int.toNat_natCast]] at hstep
     refine ⟨l.length - (i + 1), by omega, i + 1, (s2.1.set kb xv, s2.2), by omega, rfl, hstep.symm, S.sub _ rfl, ?_⟩
     have e8 := hcells_set (show kb < s2.1.length by omega) xv
     rw [← e8]
     exact M)
  | (have e : xn.eqb n = true := by simpa using h43
     have hstep := rpI_yes (s := s) hx e
     have h64' : v.eqb xv = false := by simpa using h64
     rw [← hs2, show rpS s2 _ = (s2.1, false) by unfold rpS at8; rw [if_neg h70, if_pos h50]; simp only [Int.toNat_natCast, hv0 hk32, Option.getD_some, h64', Bool.and_false]] at hstep
     exact ⟨l.length - (i + 1), by omega, i + 1, (s2.1, false), by omega, rfl, hstep.symm, S.sub _ rfl, M⟩)
  | (have e : xn.eqb n = true := by simpa using h43
     have hstep := rpI_yes (s := s) hx e
     have h64' : v.eqb xv = true := by simpa using h64
     rw [← hs2, show rpS s2 _ = s2 by unfold rpS at8; rw [if_neg h70, if_pos h50]; simp only [Int.toNat_natCast, hv0 hk32, Option.getD_some, h64', Bool.and_true]] at hstep
     exact ⟨l.length - (i + 1), by omega, i + 1, s2, by omega, rfl, hstep.symm, S.sub _ rfl, M⟩)
  | (have e : xn.eqb n = true := by simpa using h43
     have hstep := rpI_yes (s := s) hx e
     rw [← hs2, show rpS s2 _ = s2 by unfold rpS; rw [if_neg h70, if_neg h50]] at hstep
     exact ⟨l.length - (i + 1), by omega, i + 1, s2, by omega, rfl, hstep.symm, S.sub _ rfl, M⟩)
theorem yesS_len (l : List Sn) : (yesS l).length ≤ l.length := by unfold yesS; rw [List.length_map]; exact List.length_filter_le ..
theorem noS_len (l : List Sn) : (noS l).length ≤ l.length := by unfold noS; rw [List.length_map]; exact List.length_filter_le ..
set_option maxHeartbeats 1000000 in
set_option maxRecDepth 10000 in
theorem history31_any (va : Option Addr) (vc : Nat) (l : List Sn) (w : World) (hv : Ss 0 w.heap.size w (.slice va l.length vc) l) (hl : l.length ≤ 200) :
 Calls Tryz.prog 14 #[.slice va l.length vc] w fun e w' => ∃ b, e = .returned (.bool b) ∧ Below w.heap.size w w' ∧ (b = true ↔ rightS l) := by
 have M := Mem.start w
 refine qI Tryz.func14 58 ?_; intro a S
 refine nxD (qG [1] S ?_); intro a S
 refine nxA (qG [1] S ?_); intro a S
 refine qC (xs := [.tmp 12]) S (qE Tryz.func41) rfl (replay27_any va vc l _ (M.argW hv) hl) ?_
 rintro _ w1 ⟨er, st, sr, rfl, hK, hst, her, hro⟩; refine ⟨_, rfl, ?_⟩; intro a S; replace M := M.grow hK; clear hK
 have hq1 : (hcells st).length = 256 := by rw [hcells_length, hst]
 refine qG [1, 1, 1, 1] S ?_; intro a S
 refine qN S M (hcells zHm).toArray ?_; intro a w2 bB S M hB
 refine st_storeAll (sz := 256) S M 0 rfl (by kernel_rfl) rfl rfl (by with_reducible first | exact zHm_len | exact hq1) (by exact allOne_hcells _) rfl (by with_reducible first | exact zHm_len | exact hq1) ?_; intro w3 M
 simp only [List.set_cons_zero, List.set_cons_succ] at M
 refine qG [1, 1] S ?_; intro a S
 refine nxA (qG [1] S ?_); intro a S
 refine qC (xs := [.tmp 18]) S (qE Tryz.func42) rfl (told27_any va vc l _ (M.argW hv) hl) ?_
 rintro _ w4 ⟨f, lo, hi, a1, c1, ys, lo2, hi2, a2, c2, ns, rfl, M1, hf, hyn⟩; refine ⟨_, rfl, ?_⟩; intro a S; replace M := M.join M1; clear M1; simp only [List.cons_append, List.nil_append] at M
 refine qG [1, 1, 1, 1, 1, 1, 1] S ?_; intro a S
 refine nxC (wp_seq (nxD (qG [1, 1, 1] S ?_))); intro a S
 refine qi 25 S ?_ ?_
 ·intro h25 S
  refine qG [0, 0, 1, 1, 0, 0, 1] S ?_; intro a S
  replace S := S.keep [0, 2, 4, 5, 6, 7, 8, 32]
  refine nxC (cT S (nxD (qG [1] S ?_))); intro a S
  refine nxC (wp_ret (then_ret (qO S ?_)))
  refine ⟨false, rfl, M.below, fun h => (by cases h), fun h => ?_⟩
  have e1 := her.2 h.1
  have e2 := hf.2 h.1
  have e3 : sr = true := (congrArg Prod.snd (hro e1)).trans h.2.1
  first
   | exact absurd e1 h25
   | exact absurd e2 h29
   | (rw [e3] at h32; cases h32)
 intro h25 S
 refine qG [1, 1, 1, 1] S ?_; intro a S
 refine qi 29 S ?_ ?_
 ·intro h29 S
  refine qG [0, 0, 1] S ?_; intro a S
  replace S := S.keep [0, 2, 4, 5, 6, 7, 8, 32]
  refine nxC (cT S (nxD (qG [1] S ?_))); intro a S
  refine nxC (wp_ret (then_ret (qO S ?_)))
  refine ⟨false, rfl, M.below, fun h => (by cases h), fun h => ?_⟩
  have e1 := her.2 h.1
  have e2 := hf.2 h.1
  have e3 : sr = true := (congrArg Prod.snd (hro e1)).trans h.2.1
  first
   | exact absurd e1 h25
   | exact absurd e2 h29
   | (rw [e3] at h32; cases h32)
 intro h29 S
 refine qG [1, 1, 1] S ?_; intro a S
 replace S := S.keep [0, 2, 4, 5, 6, 7, 8, 32]
 refine nxC (qi 32 S ?_ ?_)
 ·intro h32 S
  refine cT S (nxD (qG [1] S ?_)); intro a S
  refine nxC (wp_ret (then_ret (qO S ?_)))
  refine ⟨false, rfl, M.below, fun h => (by cases h), fun h => ?_⟩
  have e1 := her.2 h.1
  have e2 := hf.2 h.1
  have e3 : sr = true := (congrArg Prod.snd (hro e1)).trans h.2.1
  first
   | exact absurd e1 h25
   | exact absurd e2 h29
   | (rw [e3] at h32; cases h32)
 intro h32 S
 refine cF S (wp_skip (then_normal (wp_seq (wp_seq ?_))))
 have hm : mayS l := her.1 h25
 have hserial : (rpA l).2 = true := (congrArg Prod.snd (hro h25)).symm.trans h32
 have hys := (hyn h29).1
 have hns := (hyn h29).2
 have hyl : ys.length ≤ 200 := by rw [hys]; exact Nat.le_trans (yesS_len l) hl
 have hnl : ns.length ≤ 200 := by rw [hns]; exact Nat.le_trans (noS_len l) hl
 refine wp_region_lit (qG [1] S ?_); intro a S
 refine nxC (wp_block (wp_loop_g (fun q a w' => ∃ k : Nat, k ≤ ys.length ∧ q = ys.length - k ∧ (∀ n ∈ ys.take k, ∃ j, hitS l 5 n j) ∧ Sees 58 a [(0, .slice va l.length vc), (6, .slice a1 ys.length c1), (7, .slice a2 ns.length c2), (9, .int .i64 (k : Int))] ∧ Mem w w' [rowE lo hi 28 3 (.slice a1 ys.length c1) ys.length (nmcells ys), rowE lo2 hi2 28 3 (.slice a2 ns.length c2) ns.length (nmcells ns)]) (ys.length) ?_ ?_))
 ·skip
  replace M := M.drp 2
  exact ⟨0, Nat.zero_le _, rfl, fun n h => (by cases h), S.sub _ rfl, M⟩
 intro m a wl
 rintro ⟨k, hk, rfl, hpre, S, M⟩
 refine wp_seq (nxD (qG [1, 1] S ?_)); intro a S
 refine qY S (y_lenR (E := 28) S rfl ((M.readAll 0 rfl (show ys.length ≤ maxLen by unfold maxLen; omega))) (by kernel_rfl)) ?_; intro a S
 refine qG [1] S ?_; intro a S
 refine nxC (qi 36 S ?_ ?_)
 ·intro h36 S
  refine cT S (wp_skip (then_normal (wp_seq (wp_block (wp_seq ?_)))))
  obtain ⟨n, hnk⟩ : ∃ n, ys[k]? = some n := ⟨_, List.getElem?_eq_getElem (by omega)⟩
  refine wp_region_lit (qG [1, 1, 1] S ?_); intro a S
  refine qY S (qX 28 3 S ((M.readAll 0 rfl (show ys.length ≤ maxLen by unfold maxLen; omega)))) ?_; intro a S
  try simp only [Int.toNat_natCast, Nat.mul_one, Nat.zero_add] at S
  refine qY S (y_loadAgg S (by kernel_rfl) rfl rfl ((M.readAll 0 rfl (show ys.length ≤ maxLen by unfold maxLen; omega)).at_.row (i := k) (nmcells_get hnk) rfl)) ?_; intro a S
  refine qQ (xs := [.tmp 39, .tmp 43]) S (qE Tryz.func43) rfl (done31_any va vc l n _ (M.argW hv)) M ?_; intro a w5 S hK M
  refine qG [1] S ?_; intro a S
  refine nxC (st_split (t := 45) S rfl ?_ ?_)
  ·intro h45 S
   refine cT S (nxD (qG [1] S ?_)); intro a S
   refine nxC (wp_ret (block_ret (then_ret (then_ret (block_ret (then_ret (qO S ?_)))))))
   refine ⟨false, rfl, M.below, fun h => (by cases h), fun h => ?_⟩
   have h2 := fstI_some.2 (((right_doc l).1 h).2.2.1 n (by rw [← hys]; exact List.mem_of_getElem? hnk))
   rw [decide_eq_true h2] at h45
   cases h45
  intro h45 S
  refine cF S (wp_skip (block_normal (nxF (qG [1] S ?_)))); intro a S
  refine qA S ?_; intro a S
  refine qG [1] S ?_; intro a S
  refine nxC ?_
  have h2 : 0 ≤ fstI l 5 n := by simpa using h45
  refine ⟨ys.length - (k + 1), by omega, k + 1, by omega, rfl, fun m hm2 => ?_, S.sub _ rfl, M⟩
  rw [List.take_add_one, hnk] at hm2
  rcases List.mem_append.1 hm2 with h | h
  ·exact hpre m h
  ·obtain rfl : m = n := by simpa using h
   exact fstI_some.1 h2
 intro h36 S
 refine cF S (wp_exit (then_exit (then_exit (block_hit (then_normal (wp_seq (wp_seq ?_)))))))
 obtain rfl : k = ys.length := by omega
 rw [List.take_length] at hpre
 refine wp_region_lit (qG [1] S ?_); intro a S
 refine nxC (wp_block (wp_loop_g (fun q a w' => ∃ k : Nat, k ≤ ns.length ∧ q = ns.length - k ∧ (∀ n ∈ ns.take k, ¬ ∃ j, hitS l 5 n j) ∧ Sees 58 a [(0, .slice va l.length vc), (7, .slice a2 ns.length c2), (10, .int .i64 (k : Int))] ∧ Mem w w' [rowE lo hi 28 3 (.slice a1 ys.length c1) ys.length (nmcells ys), rowE lo2 hi2 28 3 (.slice a2 ns.length c2) ns.length (nmcells ns)]) (ns.length) ?_ ?_))
 ·skip
  exact ⟨0, Nat.zero_le _, rfl, fun n h => (by cases h), S.sub _ rfl, M⟩
 intro m a wl
 rintro ⟨k2, hk2, rfl, hpre2, S, M⟩
 refine wp_seq (nxD (qG [1, 1] S ?_)); intro a S
 refine qY S (y_lenR (E := 28) S rfl ((M.readAll 1 rfl (show ns.length ≤ maxLen by unfold maxLen; omega))) (by kernel_rfl)) ?_; intro a S
 refine qG [1] S ?_; intro a S
 refine nxC (qf 49 S ?_ ?_)
 ·intro h49 S
  refine cF S (wp_exit (then_exit (then_exit (block_hit (nxE (qG [1] S ?_)))))); intro a S
  refine nxC (wp_ret (qO S ?_))
  obtain rfl : k2 = ns.length := by omega
  rw [List.take_length] at hpre2
  exact ⟨true, rfl, M.below, fun _ => (right_doc l).2 ⟨hm, hserial, by rw [← hys]; exact hpre, by rw [← hns]; exact hpre2⟩, fun _ => rfl⟩
 intro h49 S
 refine cT S (wp_skip (then_normal (wp_seq (wp_block (wp_seq ?_)))))
 obtain ⟨n, hnk⟩ : ∃ n, ns[k2]? = some n := ⟨_, List.getElem?_eq_getElem (by omega)⟩
 refine wp_region_lit (qG [1, 1, 1] S ?_); intro a S
 refine qY S (qX 28 3 S ((M.readAll 1 rfl (show ns.length ≤ maxLen by unfold maxLen; omega)))) ?_; intro a S
 try simp only [Int.toNat_natCast, Nat.mul_one, Nat.zero_add] at S
 refine qY S (y_loadAgg S (by kernel_rfl) rfl rfl ((M.readAll 1 rfl (show ns.length ≤ maxLen by unfold maxLen; omega)).at_.row (i := k2) (nmcells_get hnk) rfl)) ?_; intro a S
 refine qQ (xs := [.tmp 52, .tmp 56]) S (qE Tryz.func43) rfl (done31_any va vc l n _ (M.argW hv)) M ?_; intro a w6 S hK M
 refine nxC (st_split (t := 57) S rfl ?_ ?_)
 ·intro h57 S
  refine cT S (nxD (qG [1] S ?_)); intro a S
  refine nxC (wp_ret (block_ret (then_ret (then_ret (block_ret (then_ret (qO S ?_)))))))
  refine ⟨false, rfl, M.below, fun h => (by cases h), fun h => ?_⟩
  have h2 : 0 ≤ fstI l 5 n := by simpa using h57
  exact absurd (fstI_some.1 h2) (((right_doc l).1 h).2.2.2 n (by rw [← hns]; exact List.mem_of_getElem? hnk))
 intro h57 S
 refine cF S (wp_skip (block_normal (nxF (qG [1] S ?_)))); intro a S
 refine qA S ?_; intro a S
 refine qG [1] S ?_; intro a S
 refine nxC ?_
 have h2 : ¬ 0 ≤ fstI l 5 n := by simpa using h57
 refine ⟨ns.length - (k2 + 1), by omega, k2 + 1, by omega, rfl, fun m hm2 => ?_, S.sub _ rfl, M⟩
 rw [List.take_add_one, hnk] at hm2
 rcases List.mem_append.1 hm2 with h | h
 ·exact hpre2 m h
 ·obtain rfl : m = n := by simpa using h
  exact fun h9 => h2 (fstI_some.2 h9)
end Go.Proofs.YtdcgcgifgnaccaaGreat
namespace Go.Proofs.YtdcgcgifgnaccaaGreat
open Go.RowKit Go.Sort
variable {ds : List Deferred}
variable {P : Program} {ops : Array Oper} {Q : Exit → Act → World → Prop} {rest : List Oper} {n d : Nat} {a : Act} {L : List (Nat × Value)} {w w0 : World} {v : Value} {o : Oper} {H : List Ent}
variable {κ : Type} {enc : κ → Value}
abbrev newM (enc : κ → Value) (l : Mes κ) (c : Nat) (k : κ) (v : Value) : Mes κ := l ++ [(k, { key := enc k, val := v, born := c })]
theorem run_entryStoreN {b t c : Nat} {l : Mes κ} {k : κ} {z : Value} (G : Good enc l c) (hb : w.heap[b]? = some (.map ((newM enc l c k z).map (·.2)).toArray (c + 1))) :
 (Instr.entryStore t (.map (some b)) (.int .i64 (c : Int)) v).run P w = .ok () (w.putObj b (.map ((newM enc l c k v).map (·.2)).toArray (c + 1))) := by
 have hfi : ((newM enc l c k z).map (·.2)).toArray.findIdx? (fun e => (e.born : Int) == (c : Int)) = some l.length := by
  rw [List.findIdx?_toArray, List.map_append, List.findIdx?_append]
  have h1 : (l.map (·.2)).findIdx? (fun e => (e.born : Int) == (c : Int)) = none := by
   rw [List.findIdx?_eq_none_iff]
   intro x hx
   obtain ⟨p, hp, rfl⟩ := List.mem_map.1 hx
   have := G.old p hp
   simp; omega
  rw [h1]
  simp
 have hmod : ((newM enc l c k z).map (·.2)).toArray.modify l.length (fun e => { e with val := v }) = ((newM enc l c k v).map (·.2)).toArray := by
  apply Array.ext'
  rw [Array.toList_modify]
  refine List.ext_getElem? fun i => ?_
  rw [List.getElem?_modify]
  simp only [List.map_append, List.toList_toArray]
  rcases Nat.lt_trichotomy i l.length with h | h | h
  ·rw [List.getElem?_append_left (by simpa using h), List.getElem?_append_left (by simpa using h)]; simp [show ¬ l.length = i by omega]
  ·subst h; simp
  ·rw [List.getElem?_eq_none (by simp; omega), List.getElem?_eq_none (by simp; omega)]; simp
 simp only [Instr.entryStore, Sem.run_bind, getObj, Sem.run, hb, Result.andThen, asInt, asIntOf, Sem.run_pure]
 simp only [hfi, hmod]
 simp [setObj, Sem.run, hb, World.putObj]
theorem st_entryStoreN {t b c pos : Nat} {l : Mes κ} {k : κ} {z : Value} {x y u : Operand} (S : SeesD ds n a L) (M : Mem w0 w H) (G : Good enc l c) (hp : H[pos]? = some (mapX b (newM enc l c k z) (c + 1))) (hx : val L x = some (.map (some b))) (hy : val L y = some (.int .i64 (c : Int))) (hu : val L u = some v) {ty : TypeId} {p : String} {ed : Array Edge} {g : Option (Nat × Bool)}
 (hg : gd ops L ⟨none, .entryStore t x y u, ty, p, ed, g⟩ = some true)
 (kk : ∀ w', Mem w0 w' (H.set pos (mapX b (newM enc l c k v) (c + 1))) → wpList P ops Q rest a w') : wpList P ops Q (⟨none, .entryStore t x y u, ty, p, ed, g⟩ :: rest) a w := by
 refine st_s S hg rfl (w' := w.putObj b (.map ((newM enc l c k v).map (·.2)).toArray (c + 1))) ?_ (kk _ (M.mapSet hp))
 unfold execOp
 simp only [S.eval hx, S.eval hy, S.eval hu, Sem.run_bind, run_entryStoreN G (M.mapAt hp), Result.andThen]
 rfl
variable [DecidableEq κ]
theorem Good.new {l : Mes κ} {c : Nat} (h : Good enc l c) {k : κ} (hk : k ∉ l.map (·.1)) (v : Value) : Good enc (newM enc l c k v) (c + 1) := by
 have := h.put k v
 unfold putM at this
 rwa [if_neg hk] at this
theorem getM_new {l : Mes κ} {c : Nat} {k : κ} (hk : k ∉ l.map (·.1)) (v : Value) (j : κ) : getM (newM enc l c k v) j = if j = k then some v else getM l j := by
 unfold getM newM
 rw [List.find?_append]
 by_cases h : j = k
 ·subst h
  have : l.find? (fun p => decide (p.1 = j)) = none := by
   rw [List.find?_eq_none]
   intro p hp
   simp only [decide_eq_true_eq]
   intro e; exact hk (by rw [← e]; exact List.mem_map_of_mem hp)
  rw [this]; simp
 ·rw [if_neg h]
  have : ([(k, ({ key := enc k, val := v, born := c } : MapEntry))] : Mes κ).find? (fun p => decide (p.1 = j)) = none := by
   simp only [List.find?_cons, List.find?_nil, decide_eq_false (fun e : k = j => h e.symm)]
  rw [this, Option.or_none]
theorem run_mapEntryN {b t kt e c : Nat} {l : Mes κ} {k : κ} {z : Value} (K : KeyT P kt enc) (G : Good enc l c) (ht : P.underlying t = some (.map kt e)) (hz : ∀ w, (zeroValue e).run P w = .ok z w) (hk : k ∉ l.map (·.1)) (hb : w.heap[b]? = some (.map (l.map (·.2)).toArray c)) :
 (Instr.mapEntry t (.map (some b)) (enc k)).run P w = .ok (.tuple #[z, .int .i64 (c : Int)]) (w.putObj b (.map ((newM enc l c k z).map (·.2)).toArray (c + 1))) := by
 have hf := K.find k l w G.keys
 simp only [Instr.mapEntry, Sem.run_bind, run_underlying ht, Result.andThen_ok, getObj, Sem.run, hb, Result.andThen, Sem.run_pure, List.toList_toArray, K.check]
 rw [hf]
 simp only [posK_none hk, Sem.run_bind, hz, Result.andThen]
 simp [setObj, Sem.run, hb, World.putObj, goInt]
theorem st_mapEntryN {t kt e b c pos : Nat} {l : Mes κ} {k : κ} {z : Value} {x y : Operand} (S : SeesD ds n a L) (M : Mem w0 w H) (K : KeyT P kt enc) (G : Good enc l c) (ht : P.underlying t = some (.map kt e)) (hz : ∀ w, (zeroValue e).run P w = .ok z w) (hk : k ∉ l.map (·.1)) (hp : H[pos]? = some (mapX b l c)) (hx : val L x = some (.map (some b))) (hy : val L y = some (enc k)) {d : Nat} {ty : TypeId} {p : String} {ed : Array Edge} {g : Option (Nat × Bool)}
 (hg : gd ops L ⟨some d, .mapEntry t x y, ty, p, ed, g⟩ = some true) (hn : Nat.blt d n = true)
 (kk : ∀ a w', SeesD ds n a ((d, .tuple #[z, .int .i64 (c : Int)]) :: L) → Mem w0 w' (H.set pos (mapX b (newM enc l c k z) (c + 1))) → wpList P ops Q rest a w') : wpList P ops Q (⟨some d, .mapEntry t x y, ty, p, ed, g⟩ :: rest) a w := by
 refine st_w S hg rfl hn (w' := w.putObj b (.map ((newM enc l c k z).map (·.2)).toArray (c + 1))) ?_ fun a S => kk a _ S (M.mapSet hp)
 unfold execOp
 simp only [S.eval hx, S.eval hy, Sem.run_bind, run_mapEntryN K G ht hz hk (M.mapAt hp), Result.andThen]
 rfl
end Go.Proofs.YtdcgcgifgnaccaaGreat

namespace Go.Proofs.YtdcgcgifgnaccaaGreat
open Go.RowKit Go.Sort
variable {ds : List Deferred} {κ : Type}
theorem st_makeMapN {P : Program} {ops : Array Oper} {Q : Exit → Act → World → Prop} {rest : List Oper} {n : Nat} {a : Act} {L : List (Nat × Value)} {w w0 : World} {H : List Ent} {t kt et : TypeId} {x : Operand} {ki : IntKind} {i : Int} (S : SeesD ds n a L) (M : Mem w0 w H) (ht : P.underlying t = some (.map kt et)) (hx : val L x = some (.int ki i)) {d : Nat} {ty : TypeId} {p : String} {e : Array Edge} {g : Option (Nat × Bool)} (hg : gd ops L ⟨some d, .makeMap t (some x), ty, p, e, g⟩ = some true) (hn : Nat.blt d n = true)
 (k : ∀ a w' b, SeesD ds n a ((d, .map (some b)) :: L) → Mem w0 w' (mapX b ([] : Mes κ) 0 :: H) → Below w.heap.size w w' → wpList P ops Q rest a w') : wpList P ops Q (⟨some d, .makeMap t (some x), ty, p, e, g⟩ :: rest) a w := by
 refine st_w (v := .map (some w.heap.size)) (w' := w.alloc (.map #[] 0)) S hg rfl hn ?_ fun a S => k a _ w.heap.size S ?_ (ext_alloc (ext_refl _) _)
 ·unfold execOp
  simp only [Option.map_some, S.eval hx, Sem.run_bind, Instr.makeMap, run_underlying ht, Result.andThen]
  simp [newObj, Sem.run, go_sem, asInt]
 ·refine M.push (ext_alloc (ext_refl _) _) _ (fun W' hs => ?_) (Nat.le_refl _) (by simp [Ent.hi])
  show W'.heap[w.heap.size]? = _
  rw [hs w.heap.size (Nat.le_refl _) (Nat.lt_succ_self _)]; exact World.alloc_heap_new w _
end Go.Proofs.YtdcgcgifgnaccaaGreat

