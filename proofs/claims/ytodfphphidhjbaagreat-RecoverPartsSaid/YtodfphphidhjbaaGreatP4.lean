/-
  What RecoverParts rests on, part 4.
-/
import Derived.Test.YtodfphphidhjbaaGreatP3
namespace Go.Proofs.YtodfphphidhjbaaGreat
open Go.RowKit Go.Sort
theorem frC_snoc (fs : List FrM) (x : FrM) : frC (fs ++ [x]) = frC fs ++ x.cellsL := by simp [frC]
theorem fdC_snoc (ls : List FdM) (x : FdM) : fdC (ls ++ [x]) = fdC ls ++ x.cellsL := by simp [fdC]
theorem perm_in {α : Type} (r : α) (X A : List α) : (r :: (X ++ A)).Perm ((X ++ [r]) ++ A) := by
 rw [List.append_assoc]; exact List.perm_middle.symm
set_option maxHeartbeats 2000000 in
theorem take_any {wc w : World} {A E : List Ent} {b : Nat} {s : Sc} (f : Fr) (r : RB) (hE : ScE b s E) (M : Mem wc w (r.ent :: (A ++ E))) (hb : s.begun.length ≤ 900) (hl : s.l.length ≤ 1000) (hs : -1099511627776 ≤ s.seq ∧ s.seq ≤ 1099511627776) (hm : f.may r.bs.length = true) :
 Calls Tryz.prog 102 #[.pointer (some ⟨b, 0, none⟩), .agg (f.cells r.val).toArray] w fun e w' => e = .returned (.bool (takeP s (f, r.bs)).2) ∧ ∃ E', ScE b (takeP s (f, r.bs)).1 E' ∧ Mem wc w' (A ++ E') := by
 obtain ⟨m, O, rfl⟩ := hE
 replace M : Mem wc w (.blk b (scC s m).toArray 144 :: rowE m.lo m.hi 130 6 m.bv m.fs.length (frC m.fs) :: rowE m.lo2 m.hi2 148 2 m.lv m.ls.length (fdC m.ls) :: (r.ent :: (m.rows ++ A))) := M.perm ((List.Perm.cons _ List.perm_append_comm).trans (List.perm_middle (l₁ := [_, _, _]) (l₂ := m.rows ++ A)).symm)
 have hlen : s.begun.length = m.fs.length := by rw [O.begun, List.length_map]
 have hlen2 : s.l.length = m.ls.length := by rw [O.l, List.length_map]
 rw [hlen] at hb
 rw [hlen2] at hl
 obtain ⟨fs2, hfs2⟩ : ∃ fs2, fs2 = m.fs ++ [(f, r)] := ⟨_, rfl⟩
 have hf2l : fs2.length = m.fs.length + 1 := by rw [hfs2, List.length_append]; rfl
 have hpl2 : fs2.map FrM.pl = s.begun ++ [(f, r.bs)] := by rw [hfs2, List.map_append, O.begun]; rfl
 have hmay2 : ∀ p ∈ fs2, p.1.may p.2.bs.length = true := fun p hp => by
  rw [hfs2] at hp
  rcases List.mem_append.1 hp with h | h
  ·exact O.may p h
  ·rw [List.mem_singleton.1 h]; exact hm
 have hin : ∀ p ∈ fs2, p.2.ent ∈ r.ent :: (m.rows ++ A) := fun p hp => by
  rw [hfs2] at hp
  rcases List.mem_append.1 hp with h | h
  ·exact .tail _ (List.mem_append_left _ (by unfold ScM.rows; exact List.mem_append_left _ (List.mem_map_of_mem h)))
  ·rw [List.mem_singleton.1 h]; exact .head _
 have hbig : ∀ x ∈ fs2.map FrM.pl, x.2.length ≤ 1000 := fun x hx => by
  obtain ⟨p, hp, rfl⟩ := List.mem_map.1 hx
  have := hmay2 p hp
  simp only [Fr.may, decide_eq_true_eq] at this
  show p.2.bs.length ≤ 1000
  omega
 have hsq : ∀ x ∈ fs2.map FrM.pl, -9223372036854775808 ≤ x.1.seq ∧ x.1.seq ≤ 9223372036854775807 := fun x hx => by
  obtain ⟨p, hp, rfl⟩ := List.mem_map.1 hx
  have := hmay2 p hp
  simp only [Fr.may, decide_eq_true_eq] at this
  show -9223372036854775808 ≤ p.1.seq ∧ p.1.seq ≤ 9223372036854775807
  omega
 have hlenT : ((s.begun ++ [((f, r.bs) : FrB)]).length : Int) = ((m.fs.length + 1 : Nat) : Int) := by rw [List.length_append, hlen]; rfl
 refine calls_enter Tryz.func102 rfl 75 rfl rfl ?_; intro a S
 refine wp_seq ?_
 skip
 refine wp_region_lit (st_box S M rfl rfl rfl #[_, _, _, _, _, _] rfl ?_); clear S M a; intro a w1 bF S M hB
 refine qG [1] S ?_; clear S a; intro a S
 refine nxA (qR [1, 1, 1, 2] S M ?_); clear S a; intro a S
 (first | refine qY S (y_addN S rfl rfl (by omega)) ?_ | refine qY S (y_int S rfl rfl rfl) ?_); clear S a; intro a S
 refine qG [1, 1] S ?_; clear S a; intro a S
 refine qS (sz := 1) (us := [_]) S M 1 ?_; clear M; intro w2 M
 refine nxA (qR [1, 2, 1, 1, 2] S M ?_); clear S a; intro a S
 refine qS (sz := 1) (us := [_]) S M 1 ?_; clear M; intro w3 M
 refine nxC (wp_seq (wp_regionK [7, 10] #[false, false, false, false, false, false, false, false, false, false, false] rfl M (by kernel_rfl) ?_)); clear M; intro w4 M
 refine k_pure 0 S rfl (fun w => y_move S rfl) ?_; clear S a; intro a S
 refine k_pure 1 S rfl (fun w => y_move S rfl) ?_; clear S a; intro a S
 refine k_pure 2 S rfl (fun w => y_nilCheck S rfl) ?_; clear S a; intro a S
 refine k_pure 3 S rfl (fun w => y_fieldAddr (k := 2) S (by kernel_rfl) rfl) ?_; clear S a; intro a S
 refine k_read 4 S rfl (fun w hW => have M := M.grow hW; y_load S (by kernel_rfl) rfl (M.cell 1 rfl rfl)) ?_; clear S a; intro a S
 refine k_read 5 S rfl (fun w hW => have M := M.grow hW; y_loadAgg (cs := [_, _, _, _, _, _]) S (by kernel_rfl) rfl rfl (M.cellsAt (k := 6) 0 rfl rfl)) ?_; clear S a; intro a S
 refine k_one 6 rfl (by kernel_rfl) ?_
 refine st_lit (ps := [(0, .tmp 24)]) (e := 130) (sz := 6) (zl := [.int .i64 0, .int .i64 0, .int .i64 0, .int .i64 0, .int .u32 0, .slice none 0 0]) (cs := [_, _, _, _, _, _]) S M rfl rfl (by kernel_rfl) rfl (rfl) ?_; clear S M a; intro a w5 bZ S M hB
 refine wpList_nil ?_; refine then_normal ?_; refine ⟨fun _ => hB, ?_⟩
 refine k_one 7 rfl (by kernel_rfl) ?_
 refine st_append (e := 130) (sz := 6) (by_ := 64) (zc := [.int .i64 0, .int .i64 0, .int .i64 0, .int .i64 0, .int .u32 0, .slice none 0 0]) S M 3 rfl rfl (by kernel_rfl) rfl (by decide) rfl rfl rfl (show Rd _ _ _ 6 _ 1 (f.cells r.val) from M.sliceAt 0 rfl (M.cellsAt (k := 6) 0 rfl rfl) rfl (Nat.le_refl _) (by unfold maxLen; omega)) (rfl) (by omega) (by unfold maxLen; omega) ?_; clear S M a; intro a w6 vA loA hiA S M
 refine wpList_nil ?_; refine then_normal ?_; refine ⟨fun h => absurd h (by decide), ?_⟩
 refine k_pure 8 S rfl (fun w => y_nilCheck S rfl) ?_; clear S a; intro a S
 refine k_pure 9 S rfl (fun w => y_fieldAddr (k := 2) S (by kernel_rfl) rfl) ?_; clear S a; intro a S
 refine k_one 10 rfl (by kernel_rfl) ?_
 obtain ⟨aA, cA, rfl, -, -⟩ := (M.readAll 0 rfl (by unfold maxLen; omega)).form
 refine qS (sz := 1) (us := [_]) S M 3 ?_; clear M; intro w7 M
 refine wpList_nil ?_; refine then_normal ?_; refine ⟨fun h => absurd h (by decide), ?_⟩
 refine k_end (by kernel_rfl) ?_
 replace S := S.keep [0, 1, 3, 4]
 refine then_normal (wp_seq (wp_seq ?_))
 skip
 replace M := M.drop 1
 simp only [List.eraseIdx_cons_succ, List.eraseIdx_cons_zero] at M
 replace M := M.ord [3, 1, 3] (by simp only [ordO, oG, oS, oE, oZ, oB] <;> rfl)
 have hM2 : rowE loA hiA 130 6 (.slice aA (m.fs.length + 1) cA) (m.fs.length + 1) (frC m.fs ++ f.cells r.val) = rowE loA hiA 130 6 (.slice aA fs2.length cA) fs2.length (frC fs2) := by rw [hf2l, hfs2, frC_snoc]
 replace M : Mem wc w7 (.blk b #[.int .i64 (s.seq + 1), .int .i64 f.inc, .slice aA (m.fs.length + 1) cA, m.lv, .int .i64 s.next] 144 :: rowE loA hiA 130 6 (.slice aA (m.fs.length + 1) cA) (m.fs.length + 1) (frC m.fs ++ f.cells r.val) :: rowE m.lo2 m.hi2 148 2 m.lv m.ls.length (fdC m.ls) :: .blk bF (f.cells r.val).toArray 130 :: (r.ent :: (m.rows ++ A))) := M
 rw [hM2, ← hf2l] at M
 obtain ⟨m2, hm2⟩ : ∃ m2 : ScM, m2 = { m with fs := fs2, ba := aA, bc := cA, lo := loA, hi := hiA } := ⟨_, rfl⟩
 have hmid : ∀ {W : World} {X Y : Ent} {R : List Ent}, Mem wc W (X :: Y :: R ++ (r.ent :: (m.rows ++ A))) → Mem wc W ((X :: Y :: R) ++ (m2.rows ++ A)) := fun M => M.perm (List.Perm.append_left _ (by rw [hm2, hfs2]; unfold ScM.rows; simp only [List.map_append, List.map_cons, List.map_nil, List.append_assoc, List.cons_append, List.nil_append]; exact List.perm_middle.symm))
 refine wp_quiet M (by kernel_rfl) (by kernel_rfl) ?_
 refine qt_y S rfl rfl rfl (fun w M => y_move S rfl) ?_; clear S a; intro a S
 refine qt_y S rfl rfl rfl (fun w M => y_nilCheck S rfl) ?_; clear S a; intro a S
 refine qt_y S rfl rfl rfl (fun w M => y_fieldAddr (k := 2) S (by kernel_rfl) rfl) ?_; clear S a; intro a S
 refine qt_y S rfl rfl rfl (fun w M => y_load S (by kernel_rfl) rfl (M.cell 0 rfl rfl)) ?_; clear S a; intro a S
 refine qt_y S rfl rfl rfl (fun w M => y_lenR (E := 130) S rfl (M.readAll 1 rfl (by unfold maxLen; omega)) (by kernel_rfl)) ?_; clear S a; intro a S
 refine qt_y S rfl rfl rfl (fun w M => y_fieldAddr (k := 3) S (by kernel_rfl) rfl) ?_; clear S a; intro a S
 refine qt_y S rfl rfl rfl (fun w M => y_load S (by kernel_rfl) rfl (M.cell 3 rfl rfl)) ?_; clear S a; intro a S
 refine qt_y S rfl rfl rfl (fun w M => y_int S rfl rfl rfl) ?_; clear S a; intro a S
 refine wpQuiet_nil ?_; clear M; intro w8 M
 refine then_normal (st_if (t := 36) S rfl ?_ ?_)
 ·clear S; intro h36 S
  refine st_condT S rfl (nxD (qG [1] S ?_)); clear S a; intro a S
  refine nxC (wp_ret (then_ret (end_one S rfl (res_tmp rfl) ?_)))
  have hlt : ((s.begun ++ [((f, r.bs) : FrB)]).length : Int) < f.of := by rw [hlenT]; omega
  unfold takeP
  rw [if_pos hlt]
  refine ⟨rfl, m2.ents b ⟨s.seq + 1, f.inc, s.begun ++ [(f, r.bs)], s.l, s.next⟩, ⟨m2, ⟨by rw [hm2]; exact hpl2.symm, by rw [hm2]; exact O.l, by rw [hm2]; exact hmay2, by rw [hm2]; exact O.short⟩, rfl⟩, ?_⟩
  replace M := M.drop 3
  simp only [List.eraseIdx_cons_succ, List.eraseIdx_cons_zero] at M
  refine Mem.backA ?_
  have M5 := hmid (R := [_]) M
  rw [hm2] at M5 ⊢
  exact M5
 clear S; intro h36 S
 refine st_condF S rfl (wp_skip (then_normal (wp_seq ?_)))
 have hnl : ¬ ((s.begun ++ [((f, r.bs) : FrB)]).length : Int) < f.of := by rw [hlenT]; omega
 refine wp_region_lit (qR [1, 1, 3, 1] S M ?_); clear S a; intro a S
 refine qC (xs := [.tmp 41]) S (qE Tryz.func142) rfl (join_any (.slice aA fs2.length cA) (frC fs2) (fs2.map FrM.pl) _ (frs_of M (.tail _ (.head _)) (by omega) (fun p hp => .tail _ (.tail _ (.tail _ (.tail _ (hin p hp))))) hmay2) hbig hsq) ?_
 rintro _ w9 ⟨vj, rfl, hK, hJ1, hJ2⟩; refine ⟨_, rfl, ?_⟩; clear S a; intro a S
 rw [hpl2] at hJ1 hJ2 S
 refine qG [1, 1, 1, 1, 1] S ?_; clear S a; intro a S
 replace S := S.keep [0, 1, 3, 4, 36, 5, 6]
 refine nxC (wp_seq (nxD (qG [1, 1] S ?_))); clear S a; intro a S
 refine nxC (st_split (t := 46) S rfl ?_ ?_)
 ·clear S; intro h46 S
  refine st_condT S rfl (nxD (qG [1] S ?_)); clear S a; intro a S
  refine nxC (wp_ret (then_ret (end_one S rfl (res_tmp rfl) ?_)))
  have hnj : ¬ joinOk (s.begun ++ [((f, r.bs) : FrB)]) := fun h => by unfold joinE at h46; rw [if_pos h] at h46; simp at h46
  unfold takeP
  rw [if_neg hnl, if_neg hnj]
  replace M := M.grow hK
  refine ⟨rfl, m2.ents b ⟨s.seq + 1, f.inc, s.begun ++ [(f, r.bs)], s.l, s.next⟩, ⟨m2, ⟨by rw [hm2]; exact hpl2.symm, by rw [hm2]; exact O.l, by rw [hm2]; exact hmay2, by rw [hm2]; exact O.short⟩, rfl⟩, ?_⟩
  replace M := M.drop 3
  simp only [List.eraseIdx_cons_succ, List.eraseIdx_cons_zero] at M
  refine Mem.backA ?_
  have M5 := hmid (R := [_]) M
  rw [hm2] at M5 ⊢
  exact M5
 clear S; intro h46 S
 refine st_condF S rfl (wp_skip (then_normal (wp_seq ?_)))
 have hjo : joinOk (s.begun ++ [((f, r.bs) : FrB)]) := by
  by_cases h : joinOk (s.begun ++ [((f, r.bs) : FrB)])
  ·exact h
  ·unfold joinE at h46; rw [if_neg h] at h46; simp at h46
 have ho90 : (outF (s.begun ++ [((f, r.bs) : FrB)])).length ≤ 90 := by obtain ⟨_, _, _, -, -, -, h, -⟩ := hjo; exact h.2.2.2.1
 obtain ⟨lj, hj, -, M2⟩ := M.pushFresh (hJ1 hjo); clear M; have M := M2; clear M2
 obtain ⟨ja, jc, rfl, -, -⟩ := ((hJ1 hjo).rd (by unfold maxLen; omega)).form
 obtain ⟨g, hg⟩ : ∃ g, fs2[0]? = some g := ⟨_, List.getElem?_eq_getElem (by omega)⟩
 refine wp_regionK [15, 18] #[false, false, false, false, false, false, false, false, false, false, false, false, false, false, false, false, false, false, false] rfl M (by kernel_rfl) ?_; clear M; intro w10 M
 refine k_pure 0 S rfl (fun w => y_move S rfl) ?_; clear S a; intro a S
 refine k_pure 1 S rfl (fun w => y_move S rfl) ?_; clear S a; intro a S
 refine k_pure 2 S rfl (fun w => y_nilCheck S rfl) ?_; clear S a; intro a S
 refine k_pure 3 S rfl (fun w => y_fieldAddr (k := 3) S (by kernel_rfl) rfl) ?_; clear S a; intro a S
 refine k_read 4 S rfl (fun w hW => have M := M.grow hW; y_load S (by kernel_rfl) rfl (M.cell 1 rfl rfl)) ?_; clear S a; intro a S
 refine k_pure 5 S rfl (fun w => y_move S rfl) ?_; clear S a; intro a S
 refine k_pure 6 S rfl (fun w => y_nilCheck S rfl) ?_; clear S a; intro a S
 refine k_pure 7 S rfl (fun w => y_fieldAddr (k := 2) S (by kernel_rfl) rfl) ?_; clear S a; intro a S
 refine k_read 8 S rfl (fun w hW => have M := M.grow hW; y_load S (by kernel_rfl) rfl (M.cell 1 rfl rfl)) ?_; clear S a; intro a S
 refine k_read 9 S rfl (fun w hW => have M := M.grow hW; y_indexR (e := 130) (sz := 6) S (by kernel_rfl) rfl (M.readAll 2 rfl (by unfold maxLen; omega)) rfl (by first | omega | (simp; done) | (simp; omega))) ?_; clear S a; intro a S
 refine k_pure 10 S rfl (fun w => y_fieldAddr (k := 0) S (by kernel_rfl) rfl) ?_; clear S a; intro a S
 refine k_read 11 S rfl (fun w hW => have M := M.grow hW; y_load S (by kernel_rfl) rfl ((M.readAll 2 rfl (by unfold maxLen; omega)).at_.row (i := 0) (frC_get hg) rfl 0 (by show 0 < 6; omega))) ?_; clear S a; intro a S
 refine k_pure 12 S rfl (fun w => y_move S rfl) ?_; clear S a; intro a S
 refine k_pure 13 S rfl (fun w => y_build (ps := [(0, .tmp 58), (1, .tmp 59)]) (pl := [(0, 1), (1, 1)]) (z := [.int .i64 0, .slice none 0 0]) (cs := [_, _]) S (by kernel_rfl) rfl (rfl)) ?_; clear S a; intro a S
 refine k_one 14 rfl (by kernel_rfl) ?_
 refine st_lit (ps := [(0, .tmp 60)]) (e := 148) (sz := 2) (zl := [.int .i64 0, .slice none 0 0]) (cs := [_, _]) S M rfl rfl (by kernel_rfl) rfl (rfl) ?_; clear S M a; intro a w11 bY S M hB
 refine wpList_nil ?_; refine then_normal ?_; refine ⟨fun _ => hB, ?_⟩
 refine k_one 15 rfl (by kernel_rfl) ?_
 refine st_append (e := 148) (sz := 2) (by_ := 32) (zc := [.int .i64 0, .slice none 0 0]) S M 4 rfl rfl (by kernel_rfl) rfl (by decide) rfl rfl rfl (show Rd _ _ _ 2 _ 1 [Value.int .i64 g.1.seq, _] from M.sliceAt 0 rfl (M.cellsAt (k := 2) 0 rfl rfl) rfl (Nat.le_refl _) (by unfold maxLen; omega)) (rfl) (by omega) (by unfold maxLen; omega) ?_; clear S M a; intro a w12 vA loA hiA S M
 refine wpList_nil ?_; refine then_normal ?_; refine ⟨fun h => absurd h (by decide), ?_⟩
 refine k_pure 16 S rfl (fun w => y_nilCheck S rfl) ?_; clear S a; intro a S
 refine k_pure 17 S rfl (fun w => y_fieldAddr (k := 3) S (by kernel_rfl) rfl) ?_; clear S a; intro a S
 refine k_one 18 rfl (by kernel_rfl) ?_
 obtain ⟨aD, cD, rfl, -, -⟩ := (M.readAll 0 rfl (by unfold maxLen; omega)).form
 refine qS (sz := 1) (us := [_]) S M 3 ?_; clear M; intro w13 M
 refine wpList_nil ?_; refine then_normal ?_; refine ⟨fun h => absurd h (by decide), ?_⟩
 refine k_end (by kernel_rfl) ?_
 replace S := S.keep [0, 1, 3, 4, 36, 5, 6, 46]
 refine nxE (qG [1, 1, 3] S ?_); clear S a; intro a S
 refine qS (sz := 1) (us := [_]) S M 3 ?_; clear M; intro w14 M
 refine nxA (qR [1, 1, 1, 1, 4, 1, 5] S M ?_); clear S a; intro a S
 refine qS (sz := 1) (us := [_]) S M 3 ?_; clear M; intro w15 M
 refine nxA (qG [1] S ?_); clear S a; intro a S
 refine nxC (wp_ret (end_one S rfl (res_tmp rfl) ?_))
 have hnl2 := hnl
 replace M := M.drop 1
 simp only [List.eraseIdx_cons_succ, List.eraseIdx_cons_zero] at M
 replace M := M.drop 3
 simp only [List.eraseIdx_cons_succ, List.eraseIdx_cons_zero] at M
 replace M := M.drop 3
 simp only [List.eraseIdx_cons_succ, List.eraseIdx_cons_zero] at M
 replace M := M.ord [1, 1, 2] (by simp only [ordO, oG, oS, oE, oZ, oB] <;> rfl)
 have M3 := (M.rowNil 130 6).perm (List.Perm.swap _ _ _)
 clear M
 obtain ⟨r2, hr2⟩ : ∃ r2 : RB, r2 = ⟨lj, hj, ja, jc, outF (s.begun ++ [((f, r.bs) : FrB)])⟩ := ⟨_, rfl⟩
 obtain ⟨ls2, hls2⟩ : ∃ ls2, ls2 = m.ls ++ [(g.1.seq, r2)] := ⟨_, rfl⟩
 have hl2l : ls2.length = m.ls.length + 1 := by rw [hls2, List.length_append]; rfl
 unfold takeP
 rw [if_neg hnl, if_pos hjo]
 have hhd : (s.begun ++ [((f, r.bs) : FrB)]).head?.elim 0 (·.1.seq) = g.1.seq := by
  rw [← hpl2, List.head?_eq_getElem?, List.getElem?_map, hg]; rfl
 rw [hhd]
 obtain ⟨m3, hm3⟩ : ∃ m3 : ScM, m3 = ⟨[], ls2, none, 0, aD, cD, w15.heap.size, w15.heap.size, loA, hiA⟩ := ⟨_, rfl⟩
 refine ⟨rfl, m3.ents b ⟨s.seq + 1, f.inc, [], s.l ++ [(g.1.seq, outF (s.begun ++ [((f, r.bs) : FrB)]))], s.seq + 1⟩, ⟨m3, ⟨by rw [hm3]; rfl, ?_, ?_, ?_⟩, rfl⟩, ?_⟩
 ·rw [hm3]
  show _ = ls2.map FdM.pl
  rw [hls2, List.map_append, O.l, hr2]; rfl
 ·rw [hm3]; intro p hp; cases hp
 ·rw [hm3]
  intro p hp
  replace hp : p ∈ ls2 := hp
  rw [hls2] at hp
  rcases List.mem_append.1 hp with h | h
  ·exact O.short p h
  ·rw [List.mem_singleton.1 h, hr2]; exact ho90
 ·refine Mem.backA ?_
  have hr2e : r2.ent = rowE lj hj 5 1 (.slice ja (outF (s.begun ++ [((f, r.bs) : FrB)])).length jc) (outF (s.begun ++ [((f, r.bs) : FrB)])).length (bcells (outF (s.begun ++ [((f, r.bs) : FrB)]))) := by rw [hr2]; rfl
  have hrow : rowE loA hiA 148 2 (.slice aD (m.ls.length + 1) cD) (m.ls.length + 1) (fdC m.ls ++ [.int .i64 g.1.seq, r2.val]) = rowE loA hiA 148 2 (.slice aD ls2.length cD) ls2.length (fdC ls2) := by rw [hl2l, hls2, fdC_snoc]
  have M4 : Mem wc w15 (.blk b #[.int .i64 (s.seq + 1), .int .i64 f.inc, .slice none 0 0, .slice aD (m.ls.length + 1) cD, .int .i64 (s.seq + 1)] 144 :: rowE w15.heap.size w15.heap.size 130 6 (.slice none 0 0) 0 [] :: rowE loA hiA 148 2 (.slice aD (m.ls.length + 1) cD) (m.ls.length + 1) (fdC m.ls ++ [.int .i64 g.1.seq, r2.val]) :: r2.ent :: (m.ls.map (fun p => p.2.ent) ++ A)) := by
   rw [hr2e, show r2.val = .slice ja (outF (s.begun ++ [((f, r.bs) : FrB)])).length jc by rw [hr2]]
   exact M3.sub (.cons_cons _ (.cons_cons _ (.cons_cons _ (.cons_cons _ (.cons _ (by unfold ScM.rows; rw [List.append_assoc]; exact List.sublist_append_right _ _))))))
  rw [hrow, ← hl2l] at M4
  have hro : m3.rows = m.ls.map (fun p => p.2.ent) ++ [r2.ent] := by
   rw [hm3]; unfold ScM.rows
   show [] ++ ls2.map (fun p => p.2.ent) = _
   rw [hls2, List.map_append]; rfl
  have M6 : Mem wc w15 (_ :: _ :: _ :: (m3.rows ++ A)) := M4.perm (List.Perm.append_left [_, _, _] (by rw [hro]; exact perm_in _ _ _))
  rw [hm3] at M6 ⊢
  exact M6
end Go.Proofs.YtodfphphidhjbaaGreat

namespace Go.Proofs.YtodfphphidhjbaaGreat
open Go.RowKit Go.Sort
theorem rd_zero {bs : List UInt8} (h : rdE bs = 0) : readF bs = some (rdF bs, rdL bs) := by
 unfold rdE at h; unfold rdF rdL
 cases hR : readF bs with
 | none => rw [hR] at h; simp at h
 | some x => rfl
theorem rd_none {bs : List UInt8} (h : ¬ rdE bs = 0) : readF bs = none := by
 unfold rdE at h
 cases hR : readF bs with
 | none => rfl
 | some x => rw [hR] at h; exact absurd rfl h
theorem rd_may {bs : List UInt8} (h : rdE bs = 0) : (rdF bs).may (rdL bs).length = true := (readF_spec (rd_zero h)).1
theorem stepP_none {s : Sc} {x : List UInt8} (h : ¬ rdE x = 0) : stepP s x = (s, false) := by unfold stepP; rw [rd_none h]
theorem stepP_bad {s : Sc} {x : List UInt8} (h : rdE x = 0) (hg : ¬ goodP s (rdF x) = true) : stepP s x = (s, false) := by unfold stepP; rw [rd_zero h]; exact if_neg hg
theorem stepP_take {s : Sc} {x : List UInt8} (h : rdE x = 0) (hg : goodP s (rdF x) = true) : stepP s x = takeP s (rdF x, rdL x) := by unfold stepP; rw [rd_zero h]; exact if_pos hg
theorem scanP_cons (s : Sc) (x : List UInt8) (t : List (List UInt8)) : scanP s (x :: t) = if (stepP s x).2 = true then scanP (stepP s x).1 t else (stepP s x).1 := by rw [scanP]
theorem takeP_len (s : Sc) (x : FrB) : (takeP s x).1.seq = s.seq + 1 ∧ (takeP s x).1.begun.length ≤ s.begun.length + 1 ∧ (takeP s x).1.l.length ≤ s.l.length + 1 := by
 unfold takeP
 split
 ·exact ⟨rfl, by simp, Nat.le_succ _⟩
 ·split
  ·exact ⟨rfl, Nat.zero_le _, by simp⟩
  ·exact ⟨rfl, by simp, Nat.le_succ _⟩
theorem perm_rt {α : Type} (P : List α) (t r : α) (B E : List α) : (P ++ t :: r :: (B ++ E)).Perm ((P ++ (E ++ B)) ++ [t, r]) := by
 rw [List.append_assoc]
 exact List.Perm.append_left _ ((List.perm_append_comm (l₁ := [t, r]) (l₂ := B ++ E)).trans (List.Perm.append_right _ List.perm_append_comm))
theorem perm_scan {α : Type} (x y f d t g s n r : α) (B : List α) : (x :: y :: f :: d :: t :: g :: s :: n :: r :: B).Perm (f :: d :: t :: g :: n :: r :: s :: x :: y :: B) :=
 ((List.perm_append_comm (l₁ := [x, y]) (l₂ := [f, d, t, g, s, n, r])).append_right B).trans ((((List.perm_append_comm (l₁ := [s]) (l₂ := [n, r])).append_right [x, y]).append_left [f, d, t, g]).append_right B)
def SfH (tail : Int) (bf bd bT bG bN bR bS b : Nat) (A E E1 : List Ent) : List Ent :=
 .blk bf #[.int .i64 tail] 3 :: .blk bd #[.pointer (some ⟨b, 0, none⟩)] 28 :: .blk bT #[.func (.func 102) #[.pointer (some ⟨bS, 0, none⟩)] #[]] 182 :: .blk bG #[.func (.func 101) #[.pointer (some ⟨bS, 0, none⟩)] #[]] 182 :: .blk bN #[.int .i64 0] 40 :: .blk bR #[.int .i64 0, .int .i64 0, .slice none 0 0, .slice none 0 0, .int .i64 0] 144 :: (E1 ++ (A ++ E))
noncomputable def sc0 (tail : Int) : Sc := ⟨tail, 0, [], [], tail⟩
noncomputable def scanOf (S : DS) (tail : Int) : Sc := scanP (sc0 tail) (secsOf S tail)
noncomputable def scanG (S : DS) (tail : Int) : Sc := scanP (sc0 tail) (secsG S tail)
def ScanP (wc : World) (A E : List Ent) (s : Sc) (e : Ending) (w' : World) : Prop := ∃ (sq ic : Int) (ba : Option Addr) (bn bc : Nat) (ls : List FdM) (la : Option Addr) (lc lo hi : Nat), e = .returned (.tuple #[.agg #[.int .i64 sq, .int .i64 ic, .slice ba bn bc, .slice la ls.length lc, .int .i64 s.next], .int .i64 0]) ∧ s.l = ls.map FdM.pl ∧ (∀ p ∈ ls, p.2.bs.length ≤ 90) ∧ ls.length ≤ 24 ∧ Mem wc w' (rowE lo hi 148 2 (.slice la ls.length lc) ls.length (fdC ls) :: (ls.map (fun p => p.2.ent) ++ (A ++ E)))
set_option maxHeartbeats 4000000 in
theorem scan_anyG {wc w : World} {A E : List Ent} {b : Nat} {S0 : DS} (tail : Int) (hE : DkE b S0 E) (M : Mem wc w (A ++ E)) (hup : S0.down = false) (hw : ∀ k, (S0.cache k).length ≤ 1000000) (ht : 1 ≤ tail ∧ tail ≤ 1099511627776) :
 Calls Tryz.prog 65 #[.pointer (some ⟨b, 0, none⟩), .int .i64 tail] w (ScanP wc A E (scanG S0 tail)) := by
 refine calls_enterM Tryz.func65 rfl 60 rfl rfl ?_; intro a S
 refine nxD (st_alloc S M rfl rfl #[.int .i64 0, .int .i64 0, .slice none 0 0, .slice none 0 0, .int .i64 0] (by kernel_rfl) ?_); clear S M a; intro a w1 bR S M hB
 refine st_alloc S M rfl rfl #[.int .i64 0] (by kernel_rfl) ?_; clear S M a; intro a w2 bN S M hB
 refine nxC (wp_scope_straight ?_)
 refine wp_seq (nxD (qG [1] S ?_)); clear S a; intro a S
 refine qY S (y_eqlPS (by kernel_rfl) S rfl) ?_; clear S a; intro a S
 refine nxC (st_condF S rfl (wp_skip (then_normal (wp_seq (nxD (qG [1] S ?_)))))); clear S a; intro a S
 refine qQ (xs := [.tmp 19]) S (qE Tryz.func100) rfl (PlaceJ tail _) M ?_; clear S M a; intro a w3 S hK M
 refine qG [1, 1, 1, 1, 1] S ?_; clear S a; intro a S
 refine nxC (wp_seq ?_)
 have hpe : plE tail = 0 := by unfold plE; rw [if_pos (by omega)]
 rw [hpe] at S
 refine wp_region_lit (qG [1, 1] S ?_); clear S a; intro a S
 refine nxC (st_if (t := 24) S rfl ?_ ?_)
 ·clear S; intro h24 S
  exact absurd rfl h24
 clear S; intro h24 S
 refine st_condF S rfl (wp_skip (nxE (qG [1, 1] S ?_))); clear S a; intro a S
 refine qY S (y_build (ps := [(0, .tmp 26), (4, .tmp 27)]) (pl := [(0, 1), (1, 1), (2, 1), (3, 1), (4, 1)]) (z := [.int .i64 0, .int .i64 0, .slice none 0 0, .slice none 0 0, .int .i64 0]) (cs := [_, _, _, _, _]) S (by kernel_rfl) rfl (rfl)) ?_; clear S a; intro a S
 refine st_alloc S M rfl rfl #[.int .i64 0, .int .i64 0, .slice none 0 0, .slice none 0 0, .int .i64 0] (by kernel_rfl) ?_; clear S M a; intro a w4 bS S M hB
 refine qS (sz := 5) (us := [_, _, _, _, _]) S M 0 ?_; clear M; intro w5 M
 refine nxA (qY S (y_makeFunc (fs := [.tmp 8]) (cs := []) S rfl rfl) ?_); clear S a; intro a S
 refine qY S (y_makeFunc (fs := [.tmp 8]) (cs := []) S rfl rfl) ?_; clear S a; intro a S
 refine st_alloc S M rfl rfl #[.nilFunc] (by kernel_rfl) ?_; clear S M a; intro a w6 bG S M hB
 refine st_alloc S M rfl rfl #[.nilFunc] (by kernel_rfl) ?_; clear S M a; intro a w7 bT S M hB
 refine qS (sz := 1) (us := [_]) S M 1 ?_; clear M; intro w8 M
 refine qS (sz := 1) (us := [_]) S M 0 ?_; clear M; intro w9 M
 refine nxC (wp_seq (wp_label ?_))
 refine then_normal (wp_seq (nxD (qG [1, 1] S ?_))); clear S a; intro a S
 refine qC (xs := [.tmp 31, .tmp 32]) S (qE Tryz.func103) rfl (sectors_any b tail _) ?_
 rintro _ w10 ⟨bf, bd, rfl, M1⟩; refine ⟨_, rfl, ?_⟩; clear S a; intro a S; replace M := M.join M1; clear M1
 simp only [List.cons_append, List.nil_append] at M
 replace S := S.keep [0, 1, 4, 5, 16, 7, 24, 8, 9, 10, 33]
 refine nxC (wp_block ?_)
 replace M : Mem wc w10 (SfH tail bf bd bT bG bN bR bS b A E (ScM.ents bS (sc0 tail) ⟨[], [], none, 0, none, 0, w10.heap.size, w10.heap.size, w10.heap.size, w10.heap.size⟩)) := by
  have M1 := (M.rowNil 148 2).rowNil 130 6
  exact M1.perm (perm_scan _ _ _ _ _ _ _ _ _ _)
 refine wp_rangeV (V := secV) (xs := secsG S0 tail) S M rfl (enters_of Tryz.func143 (by decide) rfl) (sectors1_gen b bf bd tail S0 hup hw ht) (fun x vs E hV => by obtain ⟨v, lo, hi, rfl, -, -⟩ := hV; rfl) (by kernel_rfl) (fun pre Hs => ∃ s E1, (∀ t, scanP (sc0 tail) (pre ++ t) = scanP s t) ∧ s.begun.length ≤ pre.length ∧ s.l.length ≤ pre.length ∧ s.seq = tail + (pre.length : Int) ∧ ScE bS s E1 ∧ Hs = SfH tail bf bd bT bG bN bR bS b A E E1) (fun c pre Hs => c = .exit 0 ∧ ∃ s E1, (∀ t, scanP (sc0 tail) (pre ++ t) = s) ∧ s.l.length ≤ pre.length ∧ ScE bS s E1 ∧ Hs = SfH tail bf bd bT bG bN bR bS b A E E1) (⟨sc0 tail, _, fun t => rfl, Nat.le_refl _, Nat.le_refl _, by simp [sc0], ⟨_, ⟨rfl, rfl, fun p hp => (by cases hp), fun p hp => (by cases hp)⟩, rfl⟩, rfl⟩) (fun pre Hs W TT hI M => by obtain ⟨s, E1, -, -, -, -, -, rfl⟩ := hI; exact ⟨⟨wc, [], E, hE, M.sub (((((List.sublist_append_right A E).trans (List.sublist_append_right E1 _)).trans (List.sublist_append_right [_, _, _, _, _, _] _))).trans (List.sublist_append_left _ _))⟩, M.blk 0 rfl, M.blk 1 rfl⟩) ?_ ?_ ?_
 ·intro lY pre x tX Hs EY vs wr BT a hx hV hI M S
  obtain ⟨v, lo, hi, rfl, rfl, h64⟩ := hV
  obtain ⟨s, E1, hrun, hbl, hll, hsq, hE1, rfl⟩ := hI
  have hpl : pre.length < secN tail := by
   have e := congrArg List.length hx
   rw [secsG_len] at e
   simp at e
   omega
  have hpl24 : pre.length ≤ 24 ∧ tail + (pre.length : Int) ≤ 1099511627776 := by unfold secN at hpl; omega
  unfold SfH at M
  simp only [List.cons_append] at M
  simp only [putsL] at S
  refine wpIn_seq ?_
  refine wpI_region (by kernel_rfl) (fun _ _ h => h) ?_
  refine qG [1] S ?_; clear S a; intro a S
  refine nxC (wpI_region (by kernel_rfl) (fun _ _ h => h) ?_)
  refine qG [1] S ?_; clear S a; intro a S
  refine nxC ?_
  refine ⟨_ :: _ :: _ :: _ :: _ :: _ :: (E1 ++ (A ++ E)), M, ?_⟩; clear M; intro wb TT M; simp only [List.cons_append, List.nil_append] at M
  refine wpIn_block ?_
  refine wpIn_seq ?_
  refine wpIn_seq ?_
  replace M := M.perm (perm_rt [_, _, _, _, _, _] _ _ _ _).symm
  simp only [List.cons_append, List.nil_append] at M
  refine wpI_region (by kernel_rfl) (fun _ _ h => h) ?_
  refine qG [1, 1] S ?_; clear S a; intro a S
  refine nxC (st_if (t := 37) S rfl ?_ ?_)
  ·clear S; intro h37 S
   exact absurd rfl h37
  clear S; intro h37 S
  refine stI_condF S rfl ?_
  refine wpIn_skip ?_
  refine then_normal (wpIn_seq ?_)
  refine wpI_region (by kernel_rfl) (fun _ _ h => h) ?_
  refine qG [1] S ?_; clear S a; intro a S
  refine qC (xs := [.tmp 41]) S (qE Tryz.func104) rfl (read_any v x _ (M.readAll 7 rfl (by unfold maxLen; omega)) (by omega)) ?_
  rintro _ w11 hP; obtain ⟨ad, cap, loX, hiX, rfl, hK, M2⟩ := read_uni M hP; refine ⟨_, rfl, ?_⟩; clear S M a; intro a S; have M := M2; clear M2 hP
  refine qG [1, 1, 1] S ?_; clear S a; intro a S
  refine st_alloc S M rfl rfl #[.int .i64 0, .int .i64 0, .int .i64 0, .int .i64 0, .int .u32 0, .slice none 0 0] (by kernel_rfl) ?_; clear S M a; intro a w12 bX S M hB
  refine qS (sz := 6) (us := [_, _, _, _, _, _]) S M 0 ?_; clear M; intro w13 M
  refine qG [1] S ?_; clear S a; intro a S
  refine nxC (wpIn_seq ?_)
  refine wpI_region (by kernel_rfl) (fun _ _ h => h) ?_
  refine qG [1, 1, 1] S ?_; clear S a; intro a S
  refine st_if (t := 47) S rfl ?_ ?_
  ·clear S; intro h47 S
   refine qG [0, 0, 0, 0, 1, 1] S ?_; clear S a; intro a S
   refine st_no S rfl rfl rfl ?_; clear S a; intro a S
   refine qG [0, 0, 0, 1] S ?_; clear S a; intro a S
   replace S := S.keep [0, 1, 4, 5, 16, 7, 24, 8, 9, 10, 33, 11, 12, 37, 13, 14, 58]
   refine nxC (stI_condT S rfl ?_)
   refine wpIn_exit ?_
   refine block_miss rfl ?_
   obtain ⟨s9, E9, hst, hl9, hE9, M5⟩ : ∃ s9 E9, stepP s x = (s9, false) ∧ s9.l.length ≤ s.l.length + 1 ∧ ScE bS s9 E9 ∧ Mem wc w13 (SfH tail bf bd bT bG bN bR bS b A E E9 ++ [TT, rowE lo hi 5 1 v x.length (bcells x)]) := by
    first
     | exact ⟨s, E1, stepP_none h47, by omega, hE1, by unfold SfH; exact ((M.drop 0).drop 0).perm (perm_rt [_, _, _, _, _, _] _ _ _ _)⟩
     | exact ⟨s, E1, stepP_bad h47 (by rw [h53]; simp), by omega, hE1, by unfold SfH; exact ((M.drop 0).drop 0).perm (perm_rt [_, _, _, _, _, _] _ _ _ _)⟩
     | exact ⟨_, E2, (stepP_take h47 h53).trans (Prod.ext rfl h58), (takeP_len _ _).2.2, hE2, by unfold SfH; exact (M.drop 0).perm (perm_rt [_, _, _, _, _, _] _ _ _ _)⟩
   refine ⟨_, M5, rfl, s9, E9, fun t => ?_, by rw [List.length_append]; simp; omega, hE9, rfl⟩
   rw [List.append_assoc, List.singleton_append, hrun, scanP_cons, hst]; rfl
  clear S; intro h47 S
  refine qR [6] S M ?_; clear S a; intro a S
  refine qY S (y_loadAgg (cs := [_, _, _, _, _, _]) S (by kernel_rfl) rfl rfl (M.cellsAt (k := 6) 0 rfl rfl)) ?_; clear S a; intro a S
  refine st_callB (xs := [.tmp 49]) (fi := [_]) (ca := []) S (enters_of Tryz.func101 (by decide) rfl) rfl rfl (rfl) rfl (good_any (A := _ :: _ :: _ :: _ :: _ :: _ :: _ :: _ :: _ :: _ :: (A ++ E)) (rdF x) ad (rdL x).length cap hE1 M (by omega)) ?_
  rintro _ w14 ⟨rfl, M2⟩; refine ⟨_, rfl, ?_⟩; clear S M a; intro a S; have M := M2; clear M2
  simp only [List.cons_append, List.nil_append] at M
  refine qG [1, 1, 1] S ?_; clear S a; intro a S
  refine st_if (t := 53) S rfl ?_ ?_
  ·clear S; intro h53 S
   refine st_no S rfl rfl rfl ?_; clear S a; intro a S
   refine qG [0, 0, 0, 1] S ?_; clear S a; intro a S
   replace S := S.keep [0, 1, 4, 5, 16, 7, 24, 8, 9, 10, 33, 11, 12, 37, 13, 14, 58]
   refine nxC (stI_condT S rfl ?_)
   refine wpIn_exit ?_
   refine block_miss rfl ?_
   obtain ⟨s9, E9, hst, hl9, hE9, M5⟩ : ∃ s9 E9, stepP s x = (s9, false) ∧ s9.l.length ≤ s.l.length + 1 ∧ ScE bS s9 E9 ∧ Mem wc w14 (SfH tail bf bd bT bG bN bR bS b A E E9 ++ [TT, rowE lo hi 5 1 v x.length (bcells x)]) := by
    first
     | exact ⟨s, E1, stepP_none h47, by omega, hE1, by unfold SfH; exact ((M.drop 0).drop 0).perm (perm_rt [_, _, _, _, _, _] _ _ _ _)⟩
     | exact ⟨s, E1, stepP_bad h47 (by rw [h53]; simp), by omega, hE1, by unfold SfH; exact ((M.drop 0).drop 0).perm (perm_rt [_, _, _, _, _, _] _ _ _ _)⟩
     | exact ⟨_, E2, (stepP_take h47 h53).trans (Prod.ext rfl h58), (takeP_len _ _).2.2, hE2, by unfold SfH; exact (M.drop 0).perm (perm_rt [_, _, _, _, _, _] _ _ _ _)⟩
   refine ⟨_, M5, rfl, s9, E9, fun t => ?_, by rw [List.length_append]; simp; omega, hE9, rfl⟩
   rw [List.append_assoc, List.singleton_append, hrun, scanP_cons, hst]; rfl
  clear S; intro h53 S
  skip
  replace M := M.front 1 rfl
  simp only [List.eraseIdx_cons_succ, List.eraseIdx_cons_zero] at M
  refine qY S (y_load S (by kernel_rfl) rfl (M.cell 4 rfl rfl)) ?_; clear S a; intro a S
  refine qY S (y_loadAgg (cs := [_, _, _, _, _, _]) S (by kernel_rfl) rfl rfl (M.cellsAt (k := 6) 1 rfl rfl)) ?_; clear S a; intro a S
  refine st_callB (xs := [.tmp 55]) (fi := [_]) (ca := []) S (enters_of Tryz.func102 (by decide) rfl) rfl rfl (rfl) rfl (take_any (A := _ :: _ :: _ :: _ :: _ :: _ :: _ :: _ :: _ :: (A ++ E)) (rdF x) ⟨loX, hiX, ad, cap, rdL x⟩ hE1 M (by omega) (by omega) (by omega) (rd_may h47)) ?_
  rintro _ w15 ⟨rfl, E2, hE2, M2⟩; refine ⟨_, rfl, ?_⟩; clear S M a; intro a S; have M := M2; clear M2
  simp only [List.cons_append, List.nil_append] at M
  refine qG [1, 1] S ?_; clear S a; intro a S
  replace S := S.keep [0, 1, 4, 5, 16, 7, 24, 8, 9, 10, 33, 11, 12, 37, 13, 14, 58]
  refine nxC (st_fi (t := 58) S rfl ?_ ?_)
  ·clear S; intro h58 S
   refine stI_condF S rfl ?_
   refine wpIn_skip ?_
   refine block_normal ?_
   have hst := (stepP_take h47 h53).trans (show takeP s (rdF x, rdL x) = ((takeP s (rdF x, rdL x)).1, true) from Prod.ext rfl h58)
   have hln := takeP_len s (rdF x, rdL x)
   have M5 : Mem wc w15 (SfH tail bf bd bT bG bN bR bS b A E E2 ++ [TT, rowE lo hi 5 1 v x.length (bcells x)]) := by unfold SfH; exact (M.drop 0).perm (perm_rt [_, _, _, _, _, _] _ _ _ _)
   refine ⟨_, M5, _, E2, fun t => ?_, ?_, ?_, ?_, hE2, rfl⟩
   ·rw [List.append_assoc, List.singleton_append, hrun, scanP_cons, hst]; rfl
   ·rw [List.length_append]; exact Nat.le_trans hln.2.1 (by simp; omega)
   ·rw [List.length_append]; exact Nat.le_trans hln.2.2 (by simp; omega)
   ·rw [List.length_append]; refine hln.1.trans ?_; simp; omega
  clear S; intro h58 S
  refine stI_condT S rfl ?_
  refine wpIn_exit ?_
  refine block_miss rfl ?_
  obtain ⟨s9, E9, hst, hl9, hE9, M5⟩ : ∃ s9 E9, stepP s x = (s9, false) ∧ s9.l.length ≤ s.l.length + 1 ∧ ScE bS s9 E9 ∧ Mem wc w15 (SfH tail bf bd bT bG bN bR bS b A E E9 ++ [TT, rowE lo hi 5 1 v x.length (bcells x)]) := by
   first
    | exact ⟨s, E1, stepP_none h47, by omega, hE1, by unfold SfH; exact ((M.drop 0).drop 0).perm (perm_rt [_, _, _, _, _, _] _ _ _ _)⟩
    | exact ⟨s, E1, stepP_bad h47 (by rw [h53]; simp), by omega, hE1, by unfold SfH; exact ((M.drop 0).drop 0).perm (perm_rt [_, _, _, _, _, _] _ _ _ _)⟩
    | exact ⟨_, E2, (stepP_take h47 h53).trans (Prod.ext rfl h58), (takeP_len _ _).2.2, hE2, by unfold SfH; exact (M.drop 0).perm (perm_rt [_, _, _, _, _, _] _ _ _ _)⟩
  refine ⟨_, M5, rfl, s9, E9, fun t => ?_, by rw [List.length_append]; simp; omega, hE9, rfl⟩
  rw [List.append_assoc, List.singleton_append, hrun, scanP_cons, hst]; rfl
 ·intro D1 wd Hs a hI M S
  obtain ⟨s, E1, hrun, hbl, hll, hsq, hE1, rfl⟩ := hI
  have hfin : scanG S0 tail = s := by
   have := hrun []
   rw [List.append_nil] at this
   exact this
  have hll2 : s.l.length ≤ 24 := by
   rw [secsG_len] at hll; unfold secN at hll; omega
  obtain ⟨m, O, rfl⟩ := hE1
  simp only [SfH, ScM.ents, List.cons_append] at M
  refine block_normal (nxE (qY S (y_loadAgg (cs := [_, _, _, _, _]) S (by kernel_rfl) rfl rfl (M.cellsAt (k := 5) 7 rfl rfl)) ?_)); clear S a; intro a S
  refine qS (sz := 5) (us := [_, _, _, _, _]) S M 6 ?_; clear M; intro w16 M
  refine qS (sz := 1) (us := [_]) S M 5 ?_; clear M; intro w17 M
  refine nxC (wp_ret (sc_ret ?_))
  refine end_mark S M 0 rfl ?_; clear S M a; intro a wM S M
  simp only [List.eraseIdx_cons_succ, List.eraseIdx_cons_zero] at M
  refine end_plain ?_
  refine end_two S rfl (res_agg (cs := [_, _, _, _, _]) (by kernel_rfl) rfl rfl (M.cellsAt (k := 5) 5 rfl rfl)) (res_cell (by kernel_rfl) rfl (M.cell 4 rfl rfl)) ?_
  rw [hfin]
  have hlsl : s.l.length = m.ls.length := by rw [O.l, List.length_map]
  replace M := M.drop 0
  simp only [List.eraseIdx_cons_succ, List.eraseIdx_cons_zero] at M
  replace M := M.drop 0
  simp only [List.eraseIdx_cons_succ, List.eraseIdx_cons_zero] at M
  replace M := M.drop 0
  simp only [List.eraseIdx_cons_succ, List.eraseIdx_cons_zero] at M
  replace M := M.drop 0
  simp only [List.eraseIdx_cons_succ, List.eraseIdx_cons_zero] at M
  replace M := M.drop 0
  simp only [List.eraseIdx_cons_succ, List.eraseIdx_cons_zero] at M
  replace M := M.drop 0
  simp only [List.eraseIdx_cons_succ, List.eraseIdx_cons_zero] at M
  replace M := M.drop 0
  simp only [List.eraseIdx_cons_succ, List.eraseIdx_cons_zero] at M
  replace M := M.drop 0
  simp only [List.eraseIdx_cons_succ, List.eraseIdx_cons_zero] at M
  exact ⟨_, _, _, _, _, m.ls, m.la, m.lc, m.lo2, m.hi2, rfl, O.l, O.short, by omega, M.sub (.cons_cons _ (by unfold ScM.rows; rw [List.append_assoc]; exact List.sublist_append_right _ _))⟩
 intro D1 wd Hs a cX pre x tX hx hX M S
 obtain ⟨rfl, s, E1, hrun, hll, hE1, rfl⟩ := hX
 have hfin : scanG S0 tail = s := by
  have := hrun tX
  rw [List.append_assoc, List.singleton_append, ← hx] at this
  exact this
 have hll2 : s.l.length ≤ 24 := by
  have e := congrArg List.length hx
  rw [secsG_len] at e
  simp at e hll
  unfold secN at e
  omega
 obtain ⟨m, O, rfl⟩ := hE1
 simp only [SfH, ScM.ents, List.cons_append] at M
 refine wp_exit (block_hit (nxE (qY S (y_loadAgg (cs := [_, _, _, _, _]) S (by kernel_rfl) rfl rfl (M.cellsAt (k := 5) 7 rfl rfl)) ?_))); clear S a; intro a S
 refine qS (sz := 5) (us := [_, _, _, _, _]) S M 6 ?_; clear M; intro w18 M
 refine qS (sz := 1) (us := [_]) S M 5 ?_; clear M; intro w19 M
 refine nxC (wp_ret (sc_ret ?_))
 refine end_mark S M 0 rfl ?_; clear S M a; intro a wM S M
 simp only [List.eraseIdx_cons_succ, List.eraseIdx_cons_zero] at M
 refine end_plain ?_
 refine end_two S rfl (res_agg (cs := [_, _, _, _, _]) (by kernel_rfl) rfl rfl (M.cellsAt (k := 5) 5 rfl rfl)) (res_cell (by kernel_rfl) rfl (M.cell 4 rfl rfl)) ?_
 rw [hfin]
 have hlsl : s.l.length = m.ls.length := by rw [O.l, List.length_map]
 replace M := M.drop 0
 simp only [List.eraseIdx_cons_succ, List.eraseIdx_cons_zero] at M
 replace M := M.drop 0
 simp only [List.eraseIdx_cons_succ, List.eraseIdx_cons_zero] at M
 replace M := M.drop 0
 simp only [List.eraseIdx_cons_succ, List.eraseIdx_cons_zero] at M
 replace M := M.drop 0
 simp only [List.eraseIdx_cons_succ, List.eraseIdx_cons_zero] at M
 replace M := M.drop 0
 simp only [List.eraseIdx_cons_succ, List.eraseIdx_cons_zero] at M
 replace M := M.drop 0
 simp only [List.eraseIdx_cons_succ, List.eraseIdx_cons_zero] at M
 replace M := M.drop 0
 simp only [List.eraseIdx_cons_succ, List.eraseIdx_cons_zero] at M
 replace M := M.drop 0
 simp only [List.eraseIdx_cons_succ, List.eraseIdx_cons_zero] at M
 exact ⟨_, _, _, _, _, m.ls, m.la, m.lc, m.lo2, m.hi2, rfl, O.l, O.short, by omega, M.sub (.cons_cons _ (by unfold ScM.rows; rw [List.append_assoc]; exact List.sublist_append_right _ _))⟩
end Go.Proofs.YtodfphphidhjbaaGreat

namespace Go.Proofs.YtodfphphidhjbaaGreat
open Go.RowKit Go.Sort
def ScanR (wc : World) (A E : List Ent) (tail : Int) (s : Sc) (e : Ending) (w' : World) : Prop := ∃ (rs : List RB) (ra : Option Addr) (rc lo hi : Nat), e = .returned (.tuple #[.slice ra rs.length rc, .agg #[.int .i64 tail, .int .i64 s.next], .int .i64 0]) ∧ rs.map RB.bs = s.l.map (·.2) ∧ (∀ r ∈ rs, r.bs.length ≤ 90) ∧ rs.length ≤ 24 ∧ Mem wc w' (rowE lo hi 57 1 (.slice ra rs.length rc) rs.length (rs.map RB.val) :: (rs.map RB.ent ++ (A ++ E)))
set_option maxHeartbeats 2000000 in
theorem Scan_anyG {wc w : World} {A E : List Ent} {b : Nat} {S0 : DS} (tail : Int) (hE : DkE b S0 E) (M : Mem wc w (A ++ E)) (hup : S0.down = false) (hw : ∀ k, (S0.cache k).length ≤ 1000000) (ht : 1 ≤ tail ∧ tail ≤ 1099511627776) :
 Calls Tryz.prog 26 #[.pointer (some ⟨b, 0, none⟩), .int .i64 tail] w (ScanR wc A E tail (scanG S0 tail)) := by
 refine calls_enter Tryz.func26 rfl 38 rfl rfl ?_; intro a S
 refine nxD (qG [1] S ?_); clear S a; intro a S
 refine st_alloc S M rfl rfl #[.int .i64 0, .int .i64 0] (by kernel_rfl) ?_; clear S M a; intro a w1 bL S M hB
 refine qG [1] S ?_; clear S a; intro a S
 refine nxA (qG [1, 1] S ?_); clear S a; intro a S
 refine qC (xs := [.tmp 11, .tmp 12]) S (qE Tryz.func65) rfl (scan_anyG (A := _ :: A) tail hE M hup hw ht) ?_
 rintro _ w2 ⟨sq, ic, ba, bn, bc, ls, la, lc, lo, hi, rfl, hsl, hsh, hl24, M2⟩; refine ⟨_, rfl, ?_⟩; clear S M a; intro a S; have M := M2; clear M2
 replace M := M.perm (List.Perm.cons _ (List.perm_middle (l₁ := ls.map fun p => p.2.ent)))
 obtain ⟨rs, hrs⟩ : ∃ rs : List RB, rs = ls.map (·.2) := ⟨_, rfl⟩
 have hrl : rs.length = ls.length := by rw [hrs, List.length_map]
 have hre : ls.map (fun p => p.2.ent) = rs.map RB.ent := by rw [hrs, List.map_map]; rfl
 have hrb : rs.map RB.bs = (scanG S0 tail).l.map (·.2) := by rw [hrs, hsl, List.map_map, List.map_map]; rfl
 have hr90 : ∀ r ∈ rs, r.bs.length ≤ 90 := fun r hr => by rw [hrs] at hr; obtain ⟨p, hp, rfl⟩ := List.mem_map.1 hr; exact hsh p hp
 rw [hre] at M
 refine qG [1, 1, 1] S ?_; clear S a; intro a S
 refine st_alloc S M rfl rfl #[.int .i64 0, .int .i64 0, .slice none 0 0, .slice none 0 0, .int .i64 0] (by kernel_rfl) ?_; clear S M a; intro a w3 bSt S M hB
 refine qS (sz := 5) (us := [_, _, _, _, _]) S M 0 ?_; clear M; intro w4 M
 refine qG [1] S ?_; clear S a; intro a S
 refine nxC (wp_seq (nxD (qG [1, 1] S ?_))); clear S a; intro a S
 refine nxC (st_if (t := 17) S rfl ?_ ?_)
 ·clear S; intro h17 S
  exact absurd rfl h17
 clear S; intro h17 S
 refine st_condF S rfl (wp_skip (then_normal (wp_seq (nxD (qR [4, 1] S M ?_))))); clear S a; intro a S
 refine qY S (y_lenR (E := 148) S rfl (M.readAll 1 rfl (by unfold maxLen; omega)) (by kernel_rfl)) ?_; clear S a; intro a S
 refine qG [1] S ?_; clear S a; intro a S
 refine nxC (wp_block (wp_loop_g (fun m a w' => ∃ (i : Nat) (ra : Option Addr) (rc lo2 hi2 : Nat), i ≤ ls.length ∧ m = ls.length - i ∧ Sees 38 a [(1, .int .i64 tail), (4, .slice ra i rc), (5, .pointer (some ⟨bL, 0, none⟩)), (7, .pointer (some ⟨bSt, 0, none⟩)), (21, .slice la ls.length lc), (22, .int .i64 (ls.length : Int)), (23, .int .i64 (i : Int))] ∧ Mem wc w' (rowE lo2 hi2 57 1 (.slice ra i rc) i ((rs.take i).map RB.val) :: .blk bSt #[.int .i64 sq, .int .i64 ic, .slice ba bn bc, .slice la ls.length lc, .int .i64 (scanG S0 tail).next] 144 :: rowE lo hi 148 2 (.slice la ls.length lc) ls.length (fdC ls) :: .blk bL #[.int .i64 0, .int .i64 0] 33 :: (rs.map RB.ent ++ (A ++ E)))) (ls.length) ?_ ?_))
 ·skip
  exact ⟨0, none, 0, _, _, Nat.zero_le _, rfl, S.sub _ rfl, M.rowNil 57 1⟩
 clear S M a; intro m a wl
 rintro ⟨i, ra, rc, lo2, hi2, hi', rfl, S, M⟩
 refine nxD (qG [1] S ?_); clear S a; intro a S
 refine nxC (wp_seq (st_fi (t := 24) S rfl ?_ ?_))
 ·clear S; intro h24 S
  refine st_condF S rfl (wp_exit (then_exit (then_exit (block_hit (then_normal (wp_seq (wp_regionK [6] #[false, false, false, false, false, false, false, false] rfl M (by kernel_rfl) ?_))))))); clear M; intro w9 M
  refine k_pure 0 S rfl (fun w => y_move S rfl) ?_; clear S a; intro a S
  refine k_pure 1 S rfl (fun w => y_move S rfl) ?_; clear S a; intro a S
  refine k_pure 2 S rfl (fun w => y_fieldAddr (k := 4) S (by kernel_rfl) rfl) ?_; clear S a; intro a S
  refine k_read 3 S rfl (fun w hW => have M := M.grow hW; y_load S (by kernel_rfl) rfl (M.cell 1 rfl rfl)) ?_; clear S a; intro a S
  refine k_pure 4 S rfl (fun w => y_build (ps := [(0, .tmp 34), (1, .tmp 36)]) (pl := [(0, 1), (1, 1)]) (z := [.int .i64 0, .int .i64 0]) (cs := [_, _]) S (by kernel_rfl) rfl (rfl)) ?_; clear S a; intro a S
  refine k_pure 5 S rfl (fun w => y_assign S rfl) ?_; clear S a; intro a S
  refine k_one 6 rfl (by kernel_rfl) ?_
  refine qS (sz := 2) (us := [_, _]) S M 3 ?_; clear M; intro w10 M
  refine wpList_nil ?_; refine then_normal ?_; refine ⟨fun h => absurd h (by decide), ?_⟩
  refine k_pure 7 S rfl (fun w => y_assign S rfl) ?_; clear S a; intro a S
  refine k_end (by kernel_rfl) ?_
  refine then_normal (wp_ret (end_three S rfl (res_tmp rfl) (res_agg (cs := [_, _]) (by kernel_rfl) rfl rfl (M.cellsAt (k := 2) 3 rfl rfl)) (res_tmp rfl) ?_))
  obtain rfl : i = ls.length := by omega
  rw [← hrl, List.take_length] at M
  rw [← hrl]
  replace M := M.drop 1
  simp only [List.eraseIdx_cons_succ, List.eraseIdx_cons_zero] at M
  replace M := M.drop 1
  simp only [List.eraseIdx_cons_succ, List.eraseIdx_cons_zero] at M
  replace M := M.drop 1
  simp only [List.eraseIdx_cons_succ, List.eraseIdx_cons_zero] at M
  exact ⟨rs, ra, rc, _, _, rfl, hrb, hr90, by omega, M⟩
 clear S; intro h24 S
 refine st_condT S rfl (wp_skip (then_normal (wp_seq (wp_block (wp_seq ?_)))))
 obtain ⟨q, hq⟩ : ∃ q, ls[i]? = some q := ⟨_, List.getElem?_eq_getElem (by omega)⟩
 have hrq : rs[i]? = some q.2 := by rw [hrs, List.getElem?_map, hq]; rfl
 refine wp_region_lit (qY S (y_indexR (e := 148) (sz := 2) S (by kernel_rfl) rfl (M.readAll 2 rfl (by unfold maxLen; omega)) rfl (by first | omega | (simp; done) | (simp; omega))) ?_); clear S a; intro a S
 try simp only [Int.toNat_natCast, Nat.mul_one, Nat.zero_add] at S
 refine qY S (y_loadAgg S (by kernel_rfl) rfl rfl ((M.readAll 2 rfl (by unfold maxLen; omega)).at_.row (i := i) (fdC_get hq) rfl)) ?_; clear S a; intro a S
 refine st_alloc S M rfl rfl #[.int .i64 0, .slice none 0 0] (by kernel_rfl) ?_; clear S M a; intro a w5 bF S M hB
 refine qS (sz := 2) (us := [_, _]) S M 0 ?_; clear M; intro w6 M
 refine nxB (qR [1, 2, 1] S M ?_); clear S a; intro a S
 refine st_lit (ps := [(0, .tmp 29)]) (e := 57) (sz := 1) (zl := [.slice none 0 0]) (cs := [_]) S M rfl rfl (by kernel_rfl) rfl (rfl) ?_; clear S M a; intro a w7 bZ S M hB
 refine st_append (e := 57) (sz := 1) (by_ := 24) (zc := [.slice none 0 0]) S M 2 rfl rfl (by kernel_rfl) rfl (by decide) rfl rfl rfl (show Rd _ _ _ 1 _ 1 [q.2.val] from M.sliceAt 0 rfl (M.cellsAt (k := 1) 0 rfl rfl) rfl (Nat.le_refl _) (by unfold maxLen; omega)) (rfl) (by omega) (by unfold maxLen; omega) ?_; clear S M a; intro a w8 vA loA hiA S M
 obtain ⟨aA, cA, rfl, -, -⟩ := (M.readAll 0 rfl (by unfold maxLen; omega)).form
 refine qY S (y_assign S rfl) ?_; clear S a; intro a S
 refine wpList_nil (block_normal (nxF ?_))
 (first | refine qY S (y_addN S rfl rfl (by omega)) ?_ | refine qY S (y_int S rfl rfl rfl) ?_); clear S a; intro a S
 refine qG [1] S ?_; clear S a; intro a S
 refine nxC ?_
 skip
 replace M := M.drop 1
 simp only [List.eraseIdx_cons_succ, List.eraseIdx_cons_zero] at M
 replace M := M.drop 1
 simp only [List.eraseIdx_cons_succ, List.eraseIdx_cons_zero] at M
 refine ⟨ls.length - (i + 1), by omega, i + 1, aA, cA, loA, hiA, by omega, rfl, S.sub _ rfl, ?_⟩
 obtain ⟨h9, e9⟩ := List.getElem?_eq_some_iff.1 hrq
 rw [List.take_succ_eq_append_getElem h9, e9, List.map_append]
 exact M
end Go.Proofs.YtodfphphidhjbaaGreat

namespace Go.Proofs.YtodfphphidhjbaaGreat
open Go.RowKit Go.Sort
def wantsQ (n : Int) : Int := if n < 1 ∨ 90 < n then 0 else (n + 44) / 45
theorem wants4b_any (n : Int) (w : World) : Calls Tryz.prog 91 #[.int .i64 n] w fun e w' => e = .returned (.int .i64 (wantsQ n)) ∧ Below w.heap.size w w' := by
 have M := Mem.start w
 refine calls_enter Tryz.func91 rfl 13 rfl rfl ?_; intro a S
 refine nxD (qG [1] S ?_); clear S a; intro a S
 refine nxC (wp_seq (nxD (qG [1, 1, 1] S ?_))); clear S a; intro a S
 refine st_if (t := 5) S rfl ?_ ?_
 ·clear S; intro h5 S
  refine qG [0, 0, 1] S ?_; clear S a; intro a S
  refine nxC (st_condT S rfl (nxD (qG [1] S ?_))); clear S a; intro a S
  refine nxC (wp_ret (then_ret (end_one S rfl (res_tmp rfl) ?_)))
  unfold wantsQ; first | (rw [if_pos (by omega)]; exact ⟨rfl, M.below⟩) | (rw [if_neg (by omega)]; exact ⟨ret_int (by omega), M.below⟩)
 clear S; intro h5 S
 refine qG [1, 1, 1] S ?_; clear S a; intro a S
 refine nxC (st_if (t := 8) S rfl ?_ ?_)
 ·clear S; intro h8 S
  refine st_condT S rfl (nxD (qG [1] S ?_)); clear S a; intro a S
  refine nxC (wp_ret (then_ret (end_one S rfl (res_tmp rfl) ?_)))
  unfold wantsQ; first | (rw [if_pos (by omega)]; exact ⟨rfl, M.below⟩) | (rw [if_neg (by omega)]; exact ⟨ret_int (by omega), M.below⟩)
 clear S; intro h8 S
 refine st_condF S rfl (wp_skip (nxE (qG [1] S ?_))); clear S a; intro a S
 (first | refine qY S (y_addN S rfl rfl (by omega)) ?_ | refine qY S (y_int S rfl rfl rfl) ?_); clear S a; intro a S
 (first | refine qY S (y_subN S rfl rfl (by omega)) ?_ | refine qY S (y_int S rfl rfl rfl) ?_); clear S a; intro a S
 refine qY S (y_quoN S rfl rfl (by omega)) ?_; clear S a; intro a S
 refine qG [1] S ?_; clear S a; intro a S
 refine nxC (wp_ret (end_one S rfl (res_tmp rfl) ?_))
 unfold wantsQ; first | (rw [if_pos (by omega)]; exact ⟨rfl, M.below⟩) | (rw [if_neg (by omega)]; exact ⟨ret_int (by omega), M.below⟩)
theorem Mem.readOwn {w0 w : World} {H : List Ent} {lo hi e sz m : Nat} {x : Value} {xs : List Value} (M : Mem w0 w H) (h : rowE lo hi e sz x m xs ∈ H) (hm : m ≤ maxLen) : Rd w0.heap.size w.heap.size w sz x m xs := by
 obtain ⟨p, hp⟩ := List.getElem?_of_mem h
 exact (M.readRow p hp hm).wide (M.fits _ h).1 (M.fits _ h).2
abbrev fmE (lo hi : Nat) (v : Value) (fs : List FrM) : List Ent := rowE lo hi 130 6 v fs.length (frC fs) :: fs.map (fun p => p.2.ent)
theorem frs_own {w0 w : World} {lo hi : Nat} {fs : List FrM} {v : Value} (M : Mem w0 w (fmE lo hi v fs)) (hl : fs.length ≤ 1000) (hb : ∀ p ∈ fs, p.2.bs.length ≤ 1000) : FrsC (frC fs) w0.heap.size w.heap.size w v (fs.map FrM.pl) := by
 refine ⟨by rw [List.length_map]; exact M.readOwn (List.mem_cons_self ..) (by unfold maxLen; omega), fun i f bs hi => ?_⟩
 rw [List.getElem?_map, Option.map_eq_some_iff] at hi
 obtain ⟨p, hp, e⟩ := hi
 have hm := List.mem_of_getElem? hp
 have e1 : p.1 = f := congrArg Prod.fst e
 have e2 : p.2.bs = bs := congrArg Prod.snd e
 refine ⟨p.2.val, ?_, ?_⟩
 ·rw [frC_get hp, ← e1]
 ·rw [← e2]
  exact M.readOwn (List.mem_cons_of_mem _ (List.mem_map_of_mem hm)) (by have := hb p hm; unfold maxLen; omega)
set_option maxHeartbeats 2000000 in
theorem cut4_any (va : Option Addr) (vc : Nat) (bs : List UInt8) (seq inc : Int) (w : World) (hv : Bs 0 w.heap.size w (.slice va bs.length vc) bs) : Calls Tryz.prog 52 #[.slice va bs.length vc, .int .i64 seq, .int .i64 inc] w (CutPost bs seq inc w) := by
 have M := Mem.start w
 have hl := hv.2.1
 unfold maxLen at hl
 have hcap := hv.cap
 refine calls_enter Tryz.func52 rfl 74 rfl rfl ?_; intro a S
 refine nxD (qG [1, 1] S ?_); clear S a; intro a S
 refine nxC (wp_seq (nxD (qG [1] S ?_))); clear S a; intro a S
 refine qY S (y_lenR (E := 5) S rfl (M.arg hv) (by kernel_rfl)) ?_; clear S a; intro a S
 refine qG [1, 1] S ?_; clear S a; intro a S
 refine st_if (t := 15) S rfl ?_ ?_
 ·clear S; intro h15 S
  refine qG [0, 0, 1, 1, 0, 0, 1, 1, 0, 0, 1, 1, 0, 0, 1] S ?_; clear S a; intro a S
  replace S := S.keep [0, 1, 2, 6, 7, 30]
  refine nxC (st_condT S rfl (nxD (qG [1, 1] S ?_))); clear S a; intro a S
  refine nxC (wp_ret (then_ret (end_two S rfl (res_tmp rfl) (res_tmp rfl) ?_)))
  exact cutPost_no M (by unfold cutOk; simp only [← List.length_pos_iff] at *; omega) (by unfold cutE cutOk; simp only [← List.length_pos_iff] at *; rw [if_neg (by omega), if_neg (by omega)])
 clear S; intro h15 S
 refine qG [1, 1, 1, 1] S ?_; clear S a; intro a S
 refine st_if (t := 19) S rfl ?_ ?_
 ·clear S; intro h19 S
  refine qG [0, 0, 1, 1, 0, 0, 1, 1, 0, 0, 1] S ?_; clear S a; intro a S
  replace S := S.keep [0, 1, 2, 6, 7, 30]
  refine nxC (st_condT S rfl (nxD (qG [1, 1] S ?_))); clear S a; intro a S
  refine nxC (wp_ret (then_ret (end_two S rfl (res_tmp rfl) (res_tmp rfl) ?_)))
  exact cutPost_no M (by unfold cutOk; simp only [← List.length_pos_iff] at *; omega) (by unfold cutE cutOk; simp only [← List.length_pos_iff] at *; rw [if_neg (by omega), if_neg (by omega)])
 clear S; intro h19 S
 refine qG [1, 1, 1, 1] S ?_; clear S a; intro a S
 refine st_if (t := 23) S rfl ?_ ?_
 ·clear S; intro h23 S
  refine qG [0, 0, 1, 1, 0, 0, 1] S ?_; clear S a; intro a S
  replace S := S.keep [0, 1, 2, 6, 7, 30]
  refine nxC (st_condT S rfl (nxD (qG [1, 1] S ?_))); clear S a; intro a S
  refine nxC (wp_ret (then_ret (end_two S rfl (res_tmp rfl) (res_tmp rfl) ?_)))
  exact cutPost_no M (by unfold cutOk; simp only [← List.length_pos_iff] at *; omega) (by unfold cutE cutOk; simp only [← List.length_pos_iff] at *; rw [if_neg (by omega), if_neg (by omega)])
 clear S; intro h23 S
 refine qG [1, 1, 1, 1] S ?_; clear S a; intro a S
 refine st_if (t := 27) S rfl ?_ ?_
 ·clear S; intro h27 S
  refine qG [0, 0, 1] S ?_; clear S a; intro a S
  replace S := S.keep [0, 1, 2, 6, 7, 30]
  refine nxC (st_condT S rfl (nxD (qG [1, 1] S ?_))); clear S a; intro a S
  refine nxC (wp_ret (then_ret (end_two S rfl (res_tmp rfl) (res_tmp rfl) ?_)))
  exact cutPost_no M (by unfold cutOk; simp only [← List.length_pos_iff] at *; omega) (by unfold cutE cutOk; simp only [← List.length_pos_iff] at *; rw [if_neg (by omega), if_neg (by omega)])
 clear S; intro h27 S
 refine qG [1, 1, 1] S ?_; clear S a; intro a S
 replace S := S.keep [0, 1, 2, 6, 7, 30]
 refine nxC (st_if (t := 30) S rfl ?_ ?_)
 ·clear S; intro h30 S
  refine st_condT S rfl (nxD (qG [1, 1] S ?_)); clear S a; intro a S
  refine nxC (wp_ret (then_ret (end_two S rfl (res_tmp rfl) (res_tmp rfl) ?_)))
  exact cutPost_no M (by unfold cutOk; simp only [← List.length_pos_iff] at *; omega) (by unfold cutE cutOk; simp only [← List.length_pos_iff] at *; rw [if_neg (by omega), if_neg (by omega)])
 clear S; intro h30 S
 refine st_condF S rfl (wp_skip (nxE (qG [1] S ?_))); clear S a; intro a S
 refine qY S (y_lenR (E := 5) S rfl (M.arg hv) (by kernel_rfl)) ?_; clear S a; intro a S
 refine qQ (xs := [.tmp 32]) S (qE Tryz.func91) rfl (wants4b_any _ _) M ?_; clear S M a; intro a w1 S hK M
 refine qG [1] S ?_; clear S a; intro a S
 refine nxC (wp_seq (wp_seq ?_))
 obtain ⟨N, hN, hNs, hNc⟩ : ∃ N : Nat, wantsQ (bs.length : Int) = (N : Int) ∧ N ≤ 2 ∧ ((bs.length ≤ 90 ∧ N = nOf bs.length) ∨ (90 < bs.length ∧ N = 0)) := by
  by_cases h : bs.length ≤ 90
  ·exact ⟨nOf bs.length, by unfold wantsQ nOf; rw [if_neg (by omega)]; omega, by unfold nOf; omega, .inl ⟨h, rfl⟩⟩
  ·exact ⟨0, by unfold wantsQ; rw [if_pos (by omega)]; rfl, by omega, .inr ⟨by omega, rfl⟩⟩
 rw [hN] at S
 refine wp_region_lit (qG [1, 1] S ?_); clear S a; intro a S
 refine nxC (st_if (t := 35) S rfl ?_ ?_)
 ·clear S; intro h35 S
  refine st_condT S rfl (nxD (qG [1, 1] S ?_)); clear S a; intro a S
  refine nxC (wp_ret (then_ret (end_two S rfl (res_tmp rfl) (res_tmp rfl) ?_)))
  exact cutPost_no M (by unfold cutOk nOf; unfold nOf at hNc; simp only [← List.length_pos_iff] at *; omega) (by unfold cutE cutOk nOf; unfold nOf at hNc; simp only [← List.length_pos_iff] at *; rw [if_neg (by omega), if_pos (by omega)])
 clear S; intro h35 S
 refine st_condF S rfl (wp_skip (then_normal (wp_seq (nxD (qG [1, 1] S ?_))))); clear S a; intro a S
 (first | refine qY S (y_addN S rfl rfl (by omega)) ?_ | refine qY S (y_int S rfl rfl rfl) ?_); clear S a; intro a S
 (first | refine qY S (y_subN S rfl rfl (by omega)) ?_ | refine qY S (y_int S rfl rfl rfl) ?_); clear S a; intro a S
 refine qG [1] S ?_; clear S a; intro a S
 refine nxC (st_if (t := 40) S rfl ?_ ?_)
 ·clear S; intro h40 S
  refine st_condT S rfl (nxD (qG [1, 1] S ?_)); clear S a; intro a S
  refine nxC (wp_ret (then_ret (end_two S rfl (res_tmp rfl) (res_tmp rfl) ?_)))
  exact cutPost_no M (by unfold cutOk; simp only [← List.length_pos_iff] at *; omega) (by unfold cutE cutOk; simp only [← List.length_pos_iff] at *; rw [if_neg (by omega), if_neg (by omega)])
 clear S; intro h40 S
 refine st_condF S rfl (wp_skip (then_normal (wp_seq ?_)))
 obtain ⟨h90, rfl⟩ : bs.length ≤ 90 ∧ N = nOf bs.length := by omega
 have hok : cutOk bs seq inc := by unfold cutOk; rw [← List.length_pos_iff]; omega
 have hn2 : nOf bs.length ≤ 2 := by unfold nOf; omega
 refine wp_region_lit (qG [1] S ?_); clear S a; intro a S
 refine nxC (wp_seq (nxD (qG [1] S ?_))); clear S a; intro a S
 refine nxC (wp_block (wp_loop_g (fun m a w' => ∃ (k : Nat) (fs : List FrM) (fa : Option Addr) (fc lo hi : Nat), k ≤ nOf bs.length ∧ m = nOf bs.length - k ∧ fs.map FrM.pl = (List.range k).map (frOf bs seq inc) ∧ Sees 74 a [(0, .slice va bs.length vc), (1, .int .i64 seq), (2, .int .i64 inc), (8, .int .i64 (nOf bs.length : Nat)), (9, .slice fa fs.length fc), (10, .int .i64 (k : Int))] ∧ Mem w w' (fmE lo hi (.slice fa fs.length fc) fs)) (nOf bs.length) ?_ ?_))
 ·skip
  exact ⟨0, [], _, _, _, _, Nat.zero_le _, rfl, rfl, S.sub _ rfl, M.rowNil 130 6⟩
 clear S M a; intro m a wl
 rintro ⟨k, fs, fa, fc, lo, hi, hk, rfl, hfs, S, M⟩
 have hfl : fs.length = k := by have := congrArg List.length hfs; simpa using this
 simp only [fmE] at M
 refine wp_seq (nxD (qG [1, 1, 1] S ?_)); clear S a; intro a S
 refine nxC (st_fi (t := 43) S rfl ?_ ?_)
 ·clear S; intro h43 S
  refine st_condF S rfl (wp_exit (then_exit (then_exit (block_hit (nxE (qG [1, 1, 1] S ?_)))))); clear S a; intro a S
  refine nxC (wp_ret (end_two S rfl (res_tmp rfl) (res_tmp rfl) ?_))
  obtain rfl : k = nOf bs.length := by omega
  refine ⟨_, by unfold cutE; rw [if_pos hok], M.below, frC fs, ?_⟩
  unfold cutR; rw [if_pos hok]
  have hc : cutF bs seq inc = fs.map FrM.pl := hfs.symm
  rw [hc]
  refine frs_own M (by omega) fun p hp => ?_
  obtain ⟨i, hi⟩ := List.getElem?_of_mem hp
  have h1 : (fs.map FrM.pl)[i]? = some p.pl := by rw [List.getElem?_map, hi]; rfl
  rw [hfs, List.getElem?_map] at h1
  obtain ⟨j, -, hj⟩ := Option.map_eq_some_iff.1 h1
  have h2 : p.2.bs = (bs.drop (j * 45)).take 45 := (congrArg Prod.snd hj).symm
  rw [h2]; simp; omega
 clear S; intro h43 S
 refine st_condT S rfl (wp_skip (then_normal (wp_seq (wp_block (wp_seq ?_)))))
 have hk' : k < nOf bs.length := by omega
 have hkn : k * 45 < bs.length := by unfold nOf at hk'; omega
 refine wp_region_lit (qG [1, 1] S ?_); clear S a; intro a S
 (first | refine qY S (y_addN S rfl rfl (by omega)) ?_ | refine qY S (y_int S rfl rfl rfl) ?_); clear S a; intro a S
 refine qG [1, 1, 1, 1] S ?_; clear S a; intro a S
 refine qQ (xs := [.tmp 52]) S (qE Tryz.func90) rfl (refSum_any (.slice va bs.length vc) bs _ (M.argW hv)) M ?_; clear S M a; intro a w2 S hK M
 refine qY S (y_build (ps := [(0, .tmp 48), (1, .tmp 49), (2, .tmp 50), (3, .tmp 51), (4, .tmp 53)]) (pl := [(0, 1), (1, 1), (2, 1), (3, 1), (4, 1), (5, 1)]) (z := [.int .i64 0, .int .i64 0, .int .i64 0, .int .i64 0, .int .u32 0, .slice none 0 0]) (cs := [_, _, _, _, _, _]) S (by kernel_rfl) rfl (rfl)) ?_; clear S a; intro a S
 refine st_alloc S M rfl rfl #[.int .i64 0, .int .i64 0, .int .i64 0, .int .i64 0, .int .u32 0, .slice none 0 0] (by kernel_rfl) ?_; clear S M a; intro a w3 bX S M hB
 refine qS (sz := 6) (us := [_, _, _, _, _, _]) S M 0 ?_; clear M; intro w4 M
 refine nxC (wp_seq ?_)
 replace M := M.rowNil 5 1
 have eB : (bs.drop ((k : Int) * 45).toNat).take ((min (((k : Int) + 1) * 45) (bs.length : Int)).toNat - ((k : Int) * 45).toNat) = (bs.drop (k * 45)).take 45 := by
  rw [show ((k : Int) * 45).toNat = k * 45 by omega]
  rcases Nat.le_total ((k + 1) * 45) bs.length with h | h
  ·congr 1; omega
  ·rw [List.take_of_length_le (by simp; omega), List.take_of_length_le (by simp; omega)]
 have hB : ∀ W, Bs 0 W.heap.size W (.slice va bs.length vc) bs → Bs 0 W.heap.size W (cutV (.slice va bs.length vc) ((k : Int) * 45).toNat (min (((k : Int) + 1) * 45) (bs.length : Int)).toNat (capV (.slice va bs.length vc)) 1) ((bs.drop (k * 45)).take 45) := fun W h => by
  have := h.cutB (i := ((k : Int) * 45).toNat) (j := (min (((k : Int) + 1) * 45) (bs.length : Int)).toNat) (mx := capV (.slice va bs.length vc)) (by omega) (by omega) (by omega) (by omega)
  rw [eB] at this; exact this
 have hl45 : ((bs.drop (k * 45)).take 45).length ≤ 45 := by simp; omega
 refine wp_regionK [12, 14] #[false, false, false, false, false, false, false, false, false, false, false, false, false, false, false] rfl M (by kernel_rfl) ?_; clear M; intro w5 M
 refine k_pure 0 S rfl (fun w => y_fieldAddr (k := 5) S (by kernel_rfl) rfl) ?_; clear S a; intro a S
 refine k_read 1 S rfl (fun w hW => have M := M.grow hW; y_load S (by kernel_rfl) rfl (M.cell 1 rfl rfl)) ?_; clear S a; intro a S
 refine k_pure 2 S rfl (fun w => y_move S rfl) ?_; clear S a; intro a S
 refine k_pure 3 S rfl (fun w => y_move S rfl) ?_; clear S a; intro a S
 (first | refine k_pure 4 S rfl (fun w => y_mulN S rfl rfl (by omega)) ?_ | refine k_pure 4 S rfl (fun w => y_int S rfl rfl rfl) ?_); clear S a; intro a S
 refine k_pure 5 S rfl (fun w => y_move S rfl) ?_; clear S a; intro a S
 (first | refine k_pure 6 S rfl (fun w => y_addN S rfl rfl (by omega)) ?_ | refine k_pure 6 S rfl (fun w => y_int S rfl rfl rfl) ?_); clear S a; intro a S
 (first | refine k_pure 7 S rfl (fun w => y_mulN S rfl rfl (by omega)) ?_ | refine k_pure 7 S rfl (fun w => y_int S rfl rfl rfl) ?_); clear S a; intro a S
 refine k_pure 8 S rfl (fun w => y_move S rfl) ?_; clear S a; intro a S
 refine k_read 9 S rfl (fun w hW => have M := M.grow hW; y_lenR (E := 5) S rfl (M.argW hv) (by kernel_rfl)) ?_; clear S a; intro a S
 refine k_pure 10 S rfl (fun w => y_min S rfl rfl) ?_; clear S a; intro a S
 refine k_read 11 S rfl (fun w hW => have M := M.grow hW; y_slice2R (e := 5) (sz := 1) S (by kernel_rfl) rfl (M.argW hv) rfl rfl (by first | omega | (simp; done) | (simp; omega))) ?_; clear S a; intro a S
 refine k_one 12 rfl (by kernel_rfl) ?_
 refine st_append (e := 5) (sz := 1) (by_ := 1) (zc := [.int .u8 0]) S M 0 rfl rfl (by kernel_rfl) rfl (by decide) rfl rfl rfl (show Rd _ _ _ 1 _ ((bs.drop (k * 45)).take 45).length (bcells ((bs.drop (k * 45)).take 45)) from hB _ (M.argW hv)) (allOne_bcells _) (by omega) (by unfold maxLen; omega) ?_; clear S M a; intro a w6 vA loA hiA S M
 refine wpList_nil ?_; refine then_normal ?_; refine ⟨fun h => absurd h (by decide), ?_⟩
 simp only [List.nil_append, Nat.zero_add] at M S
 obtain ⟨la, lc, rfl, -, -⟩ := (M.readAll 0 rfl (by unfold maxLen; omega)).form
 obtain ⟨loL, rfl⟩ : ∃ x, x = loA := ⟨_, rfl⟩
 obtain ⟨hiL, rfl⟩ : ∃ x, x = hiA := ⟨_, rfl⟩
 refine k_pure 13 S rfl (fun w => y_fieldAddr (k := 5) S (by kernel_rfl) rfl) ?_; clear S a; intro a S
 refine k_one 14 rfl (by kernel_rfl) ?_
 refine qS (sz := 1) (us := [_]) S M 1 ?_; clear M; intro w7 M
 refine wpList_nil ?_; refine then_normal ?_; refine ⟨fun h => absurd h (by decide), ?_⟩
 refine k_end (by kernel_rfl) ?_
 replace S := S.keep [0, 1, 2, 8, 9, 10, 43, 11]
 refine nxF (qG [1] S ?_); clear S a; intro a S
 refine qY S (y_loadAgg (cs := [_, _, _, _, _, _]) S (by kernel_rfl) rfl rfl (M.cellsAt (k := 6) 1 rfl rfl)) ?_; clear S a; intro a S
 refine st_lit (ps := [(0, .tmp 70)]) (e := 130) (sz := 6) (zl := [.int .i64 0, .int .i64 0, .int .i64 0, .int .i64 0, .int .u32 0, .slice none 0 0]) (cs := [_, _, _, _, _, _]) S M rfl rfl (by kernel_rfl) rfl (rfl) ?_; clear S M a; intro a w8 bZ S M hB
 refine st_append (e := 130) (sz := 6) (by_ := 64) (zc := [.int .i64 0, .int .i64 0, .int .i64 0, .int .i64 0, .int .u32 0, .slice none 0 0]) S M 3 rfl rfl (by kernel_rfl) rfl (by decide) rfl rfl rfl (show Rd _ _ _ 6 _ 1 ((frOf bs seq inc k).1.cells _) from M.sliceAt 0 rfl (M.cellsAt (k := 6) 0 rfl rfl) rfl (Nat.le_refl _) (by unfold maxLen; omega)) (rfl) (by omega) (by unfold maxLen; omega) ?_; clear S M a; intro a w9 vA loA hiA S M
 refine qG [1] S ?_; clear S a; intro a S
 refine wpList_nil (block_normal (nxF (qG [1] S ?_))); clear S a; intro a S
 (first | refine qY S (y_addN S rfl rfl (by omega)) ?_ | refine qY S (y_int S rfl rfl rfl) ?_); clear S a; intro a S
 refine qG [1] S ?_; clear S a; intro a S
 refine nxC ?_
 replace M := M.ord [2, 1] (by simp only [ordO, oG, oS, oE, oZ, oB] <;> rfl)
 replace M := M.drop 2
 simp only [List.eraseIdx_cons_succ, List.eraseIdx_cons_zero] at M
 replace M := M.drop 2
 simp only [List.eraseIdx_cons_succ, List.eraseIdx_cons_zero] at M
 obtain ⟨fa2, fc2, rfl, -, -⟩ := (M.readAll 0 rfl (by unfold maxLen; omega)).form
 have hsn : (fs ++ [((frOf bs seq inc k).1, ⟨loL, hiL, la, lc, (bs.drop (k * 45)).take 45⟩)] : List FrM).map FrM.pl = (List.range (k + 1)).map (frOf bs seq inc) := by rw [List.map_append, hfs, List.range_succ, List.map_append]; rfl
 have hl9 : (fs ++ [((frOf bs seq inc k).1, ⟨loL, hiL, la, lc, (bs.drop (k * 45)).take 45⟩)] : List FrM).length = fs.length + 1 := by simp
 refine ⟨nOf bs.length - (k + 1), by omega, k + 1, _, fa2, fc2, loA, hiA, by omega, rfl, hsn, ?_, ?_⟩
 ·rw [hl9]; exact S.sub _ rfl
 ·show Mem _ _ (rowE _ _ _ 6 _ _ _ :: List.map _ _)
  rw [hl9, frC_snoc, List.map_append]
  exact M.perm (List.Perm.cons _ (List.perm_append_comm (l₁ := [_])))
end Go.Proofs.YtodfphphidhjbaaGreat

namespace Go.Proofs.YtodfphphidhjbaaGreat
open Go.RowKit Go.Sort
theorem all4_any (va ua : Option Addr) (vc uc : Nat) (c1 c2 : List Value) (fs gs : List FrB) (w : World) (h1 : FrsC c1 0 w.heap.size w (.slice va fs.length vc) fs) (h2 : FrsC c2 0 w.heap.size w (.slice ua gs.length uc) gs) :
 Calls Tryz.prog 118 #[.slice va fs.length vc, .slice ua gs.length uc] w fun e w' => ∃ b, e = .returned (.bool b) ∧ Below w.heap.size w w' ∧ (b = true ↔ fs = gs) := by
 have M := Mem.start w
 have hl1 := h1.1.2.1
 have hl2 := h2.1.2.1
 unfold maxLen at hl1 hl2
 refine calls_enter Tryz.func118 rfl 27 rfl rfl ?_; intro a S
 refine nxD (qG [1] S ?_); clear S a; intro a S
 refine nxC (wp_seq (nxD (qG [1] S ?_))); clear S a; intro a S
 refine qY S (y_lenS (E := 130) S rfl (by kernel_rfl)) ?_; clear S a; intro a S
 refine qG [1] S ?_; clear S a; intro a S
 refine qY S (y_lenS (E := 130) S rfl (by kernel_rfl)) ?_; clear S a; intro a S
 refine qG [1] S ?_; clear S a; intro a S
 refine nxC (st_if (t := 10) S rfl ?_ ?_)
 ·clear S; intro h10 S
  refine st_condT S rfl (nxD (qG [1] S ?_)); clear S a; intro a S
  refine nxC (wp_ret (then_ret (end_one S rfl (res_tmp rfl) ?_)))
  exact ⟨false, rfl, M.below, by simp; intro e; subst e; omega⟩
 clear S; intro h10 S
 refine st_condF S rfl (wp_skip (then_normal (wp_seq (nxD (qG [1] S ?_))))); clear S a; intro a S
 refine nxC (wp_block (wp_loop_g (fun m a w' => ∃ k : Nat, k ≤ fs.length ∧ m = fs.length - k ∧ (∀ i, i < k → fs[i]? = gs[i]?) ∧ Sees 27 a [(0, .slice va fs.length vc), (1, .slice ua gs.length uc), (5, .int .i64 (k : Int))] ∧ Mem w w' []) (fs.length) ?_ ?_))
 ·skip
  exact ⟨0, Nat.zero_le _, rfl, fun i h => absurd h (by omega), S.sub _ rfl, M⟩
 clear S M a; intro m a wl
 rintro ⟨k, hk, rfl, hsame, S, M⟩
 refine wp_seq (nxD (qG [1, 1] S ?_)); clear S a; intro a S
 refine qY S (y_lenR (E := 130) S rfl ((M.frs h1).1) (by kernel_rfl)) ?_; clear S a; intro a S
 refine qG [1] S ?_; clear S a; intro a S
 refine nxC (st_fi (t := 14) S rfl ?_ ?_)
 ·clear S; intro h14 S
  refine st_condF S rfl (wp_exit (then_exit (then_exit (block_hit (nxE (qG [1] S ?_)))))); clear S a; intro a S
  refine nxC (wp_ret (end_one S rfl (res_tmp rfl) ?_))
  refine ⟨true, rfl, M.below, iff_of_true rfl (List.ext_getElem? fun i => ?_)⟩
  rcases Nat.lt_or_ge i k with h | h
  ·exact hsame i h
  ·rw [List.getElem?_eq_none (by omega), List.getElem?_eq_none (by omega)]
 clear S; intro h14 S
 refine st_condT S rfl (wp_skip (then_normal (wp_seq (wp_block (wp_seq ?_)))))
 have hk' : k < fs.length := by omega
 obtain ⟨⟨f, bs⟩, hx⟩ : ∃ x, fs[k]? = some x := ⟨_, List.getElem?_eq_getElem hk'⟩
 obtain ⟨lv, hrow, hlv⟩ := h1.2 k f bs hx
 obtain ⟨⟨g, cs⟩, hy⟩ : ∃ x, gs[k]? = some x := ⟨_, List.getElem?_eq_getElem (by omega)⟩
 obtain ⟨lu, hrow2, hlu⟩ := h2.2 k g cs hy
 refine wp_regionK [] #[false, false, false, false, false, false, false, false, false, false] rfl M (by kernel_rfl) ?_; clear M; intro w1 M
 refine k_pure 0 S rfl (fun w => y_move S rfl) ?_; clear S a; intro a S
 refine k_pure 1 S rfl (fun w => y_move S rfl) ?_; clear S a; intro a S
 refine k_read 2 S rfl (fun w hW => have M := M.grow hW; y_indexR (e := 130) (sz := 6) S (by kernel_rfl) rfl ((M.frs h1).1) rfl (by first | omega | (simp; done) | (simp; omega))) ?_; clear S a; intro a S
 try simp only [Int.toNat_natCast, Nat.mul_one, Nat.zero_add] at S
 refine k_read 3 S rfl (fun w hW => have M := M.grow hW; y_loadAgg S (by kernel_rfl) rfl rfl (((M.frs h1).row hx hrow).1)) ?_; clear S a; intro a S
 refine k_pure 4 S rfl (fun w => y_move S rfl) ?_; clear S a; intro a S
 refine k_pure 5 S rfl (fun w => y_move S rfl) ?_; clear S a; intro a S
 refine k_read 6 S rfl (fun w hW => have M := M.grow hW; y_indexR (e := 130) (sz := 6) S (by kernel_rfl) rfl ((M.frs h2).1) rfl (by first | omega | (simp; done) | (simp; omega))) ?_; clear S a; intro a S
 try simp only [Int.toNat_natCast, Nat.mul_one, Nat.zero_add] at S
 refine k_read 7 S rfl (fun w hW => have M := M.grow hW; y_loadAgg S (by kernel_rfl) rfl rfl (((M.frs h2).row hy hrow2).1)) ?_; clear S a; intro a S
 refine k_one 8 rfl (by kernel_rfl) ?_
 refine qQ (xs := [.tmp 20, .tmp 24]) S (qE Tryz.func157) rfl (refSameF_any f g lv lu bs cs _ (((M.frs h1).row hx hrow).2.wide (Nat.le_refl _) M.below.size) (((M.frs h2).row hy hrow2).2.wide (Nat.le_refl _) M.below.size)) M ?_; clear S M a; intro a w2 S hK M
 refine wpList_nil ?_; refine then_normal ?_; refine ⟨fun _ => hK, ?_⟩
 refine k_pure 9 S rfl (fun w => y_not S rfl) ?_; clear S a; intro a S
 refine k_end (by kernel_rfl) ?_
 refine then_normal (st_split (t := 26) S rfl ?_ ?_)
 ·clear S; intro h26 S
  refine st_condT S rfl (nxD (qG [1] S ?_)); clear S a; intro a S
  refine nxC (wp_ret (block_ret (then_ret (then_ret (block_ret (then_ret (end_one S rfl (res_tmp rfl) ?_)))))))
  refine ⟨false, rfl, M.below, ?_⟩
  simp only [Bool.false_eq_true, false_iff]
  intro e; subst e
  rw [hx] at hy
  have e2 := Option.some.inj hy
  have : f.same g bs cs = true := Fr.same_iff.2 ⟨congrArg Prod.fst e2, congrArg Prod.snd e2⟩
  rw [this] at h26; simp at h26
 clear S; intro h26 S
 refine st_condF S rfl (wp_skip (block_normal (nxF (qG [1] S ?_)))); clear S a; intro a S
 (first | refine qY S (y_addN S rfl rfl (by omega)) ?_ | refine qY S (y_int S rfl rfl rfl) ?_); clear S a; intro a S
 refine qG [1] S ?_; clear S a; intro a S
 replace S := S.keep [0, 1, 14, 26, 5]
 refine nxC ?_
 refine ⟨fs.length - (k + 1), by omega, k + 1, by omega, rfl, fun i hi => ?_, S.sub _ rfl, M⟩
 rcases Nat.lt_or_ge i k with h | h
 ·exact hsame i h
 ·obtain rfl : i = k := by omega
  have h68' : f.same g bs cs = true := by simpa using h26
  obtain ⟨rfl, rfl⟩ := Fr.same_iff.1 h68'
  rw [hx, hy]
set_option maxHeartbeats 1000000 in
theorem join4_any (va : Option Addr) (vc : Nat) (cs : List Value) (fs : List FrB) (w : World) (hv : FrsC cs 0 w.heap.size w (.slice va fs.length vc) fs) (hbig : ∀ x ∈ fs, x.2.length ≤ 1000) : Calls Tryz.prog 76 #[.slice va fs.length vc] w (JoinPost fs w) := by
 have M := Mem.start w
 have hl := hv.1.2.1
 unfold maxLen at hl
 refine calls_enter Tryz.func76 rfl 57 rfl rfl ?_; intro a S
 refine nxD (qG [1, 1] S ?_); clear S a; intro a S
 refine nxC (wp_seq (nxD (qG [1] S ?_))); clear S a; intro a S
 refine qY S (y_lenR (E := 130) S rfl ((M.frs hv).1) (by kernel_rfl)) ?_; clear S a; intro a S
 refine qG [1, 1] S ?_; clear S a; intro a S
 refine st_if (t := 11) S rfl ?_ ?_
 ·clear S; intro h11 S
  refine qG [0, 0, 0, 1] S ?_; clear S a; intro a S
  refine nxC (st_condT S rfl (nxD (qG [1, 1] S ?_))); clear S a; intro a S
  refine nxC (wp_ret (then_ret (end_two S rfl (res_tmp rfl) (res_tmp rfl) ?_)))
  exact joinPost_no M (by rintro ⟨f, bs, r, rfl, h2, _⟩; simp at *; omega)
 clear S; intro h11 S
 refine qG [1] S ?_; clear S a; intro a S
 refine qY S (y_lenR (E := 130) S rfl ((M.frs hv).1) (by kernel_rfl)) ?_; clear S a; intro a S
 refine qG [1, 1] S ?_; clear S a; intro a S
 refine nxC (st_if (t := 15) S rfl ?_ ?_)
 ·clear S; intro h15 S
  refine st_condT S rfl (nxD (qG [1, 1] S ?_)); clear S a; intro a S
  refine nxC (wp_ret (then_ret (end_two S rfl (res_tmp rfl) (res_tmp rfl) ?_)))
  exact joinPost_no M (by rintro ⟨f, bs, r, rfl, h2, _⟩; simp at *; omega)
 clear S; intro h15 S
 refine st_condF S rfl (wp_skip (nxE (qG [1] S ?_))); clear S a; intro a S
 refine nxC (wp_seq (nxD (qG [1] S ?_))); clear S a; intro a S
 refine nxC (wp_block (wp_loop_g (fun m a w' => ∃ (k lo hi : Nat) (v' : Value), k ≤ fs.length ∧ m = fs.length - k ∧ Sees 57 a [(0, .slice va fs.length vc), (4, v'), (5, .int .i64 (k : Int))] ∧ Mem w w' [rowE lo hi 5 1 v' (outF (fs.take k)).length (bcells (outF (fs.take k)))] ∧ ∀ x ∈ fs.take k, x.1.may x.2.length = true) (fs.length) ?_ ?_))
 ·skip
  exact ⟨0, _, _, _, Nat.zero_le _, rfl, S.sub _ rfl, M.rowNil _ _, by simp⟩
 clear S M a; intro m a wl
 rintro ⟨k, lo, hi, v', hk, rfl, S, M, hmay⟩
 refine wp_seq (nxD (qG [1, 1] S ?_)); clear S a; intro a S
 refine qY S (y_lenR (E := 130) S rfl ((M.frs hv).1) (by kernel_rfl)) ?_; clear S a; intro a S
 refine qG [1] S ?_; clear S a; intro a S
 refine nxC (st_if (t := 19) S rfl ?_ ?_)
 ·clear S; intro h19 S
  refine st_condT S rfl (wp_skip (then_normal (wp_seq (wp_block (wp_seq (wp_seq ?_))))))
  have hk' : k < fs.length := by omega
  obtain ⟨⟨f, bs⟩, hx⟩ : ∃ x, fs[k]? = some x := ⟨fs[k], List.getElem?_eq_getElem hk'⟩
  obtain ⟨lv, hrow, hlv⟩ := hv.2 k f bs hx
  obtain ⟨ad, cap, hlvE, -, -⟩ := hlv.form
  subst hlvE
  refine wp_region_lit (qG [1, 1] S ?_); clear S a; intro a S
  refine qY S (y_indexR (e := 130) (sz := 6) S (by kernel_rfl) rfl ((M.frs hv).1) rfl (by first | omega | (simp; done) | (simp; omega))) ?_; clear S a; intro a S
  try simp only [Int.toNat_natCast, Nat.mul_one, Nat.zero_add] at S
  refine qY S (y_loadAgg S (by kernel_rfl) rfl rfl (((M.frs hv).row hx hrow).1)) ?_; clear S a; intro a S
  refine qQ (xs := [.tmp 25]) S (qE Tryz.func93) rfl (refMay_any f ad bs.length cap _) M ?_; clear S M a; intro a w1 S hK M
  refine qG [1] S ?_; clear S a; intro a S
  refine nxC (st_if (t := 27) S rfl ?_ ?_)
  ·clear S; intro h27 S
   refine st_condT S rfl (nxD (qG [1, 1] S ?_)); clear S a; intro a S
   refine nxC (wp_ret (then_ret (block_ret (then_ret (then_ret (block_ret (then_ret (end_two S rfl (res_tmp rfl) (res_tmp rfl) ?_))))))))
   exact joinPost_no M (by
    rintro ⟨f', bs', r, e, h2, h3, _⟩
    have := h3 (f, bs) (List.mem_of_getElem? hx)
    simp only [this] at h27
    simp at h27)
  clear S; intro h27 S
  refine st_condF S rfl (wp_skip (nxF (qG [1, 1, 1] S ?_))); clear S a; intro a S
  refine qY S (y_indexR (e := 130) (sz := 6) S (by kernel_rfl) rfl ((M.frs hv).1) rfl (by first | omega | (simp; done) | (simp; omega))) ?_; clear S a; intro a S
  try simp only [Int.toNat_natCast, Nat.mul_one, Nat.zero_add] at S
  refine qG [6] S ?_; clear S a; intro a S
  refine qY S (y_load S (by kernel_rfl) rfl (((M.frs hv).row hx hrow).1 5 (show 5 < 6 by omega))) ?_; clear S a; intro a S
  have hob := outF_le fs k hbig hk
  have hbs : bs.length ≤ 1000 := hbig _ (List.mem_of_getElem? hx)
  refine st_append (e := 5) (sz := 1) (by_ := 1) (zc := [.int .u8 0]) S M 0 rfl rfl (by kernel_rfl) rfl (by decide) rfl rfl rfl (show Rd _ _ _ 1 _ bs.length (bcells bs) from ((M.frs hv).row hx hrow).2.wide (Nat.le_refl _) M.below.size) (allOne_bcells _) (by omega) (by unfold maxLen; omega) ?_; clear S M a; intro a w2 vA loA hiA S M
  refine qG [1] S ?_; clear S a; intro a S
  replace S := S.keep [0, 5, 19, 27, 4]
  refine wpList_nil (block_normal (nxF (qG [1] S ?_))); clear S a; intro a S
  (first | refine qY S (y_addN S rfl rfl (by omega)) ?_ | refine qY S (y_int S rfl rfl rfl) ?_); clear S a; intro a S
  refine qG [1] S ?_; clear S a; intro a S
  refine nxC ?_
  refine ⟨fs.length - (k + 1), by omega, k + 1, loA, hiA, vA, by omega, rfl, S.sub _ rfl, ?_, ?_⟩
  ·rw [outF_succ hx, List.length_append, bcells_append]
   exact M
  ·intro x hx'
   rw [List.take_succ_eq_append_getElem hk', List.mem_append] at hx'
   rcases hx' with h | h
   ·exact hmay x h
   ·simp only [List.mem_singleton] at h
    rw [List.getElem?_eq_getElem hk'] at hx
    rw [h, Option.some.inj hx]
    simpa using h27
 clear S; intro h19 S
 refine st_condF S rfl (wp_exit (then_exit (then_exit (block_hit (then_normal (wp_seq ?_))))))
 obtain rfl : k = fs.length := by omega
 rw [List.take_length] at M hmay
 obtain ⟨⟨f0, bs0⟩, hx0⟩ : ∃ x, fs[0]? = some x := ⟨fs[0], List.getElem?_eq_getElem (by omega)⟩
 obtain ⟨lv0, hrow0, hlv0⟩ := hv.2 0 f0 bs0 hx0
 have hob := outF_le fs fs.length hbig (Nat.le_refl _)
 rw [List.take_length] at hob
 obtain ⟨ba, bc, rfl, -, -⟩ := (M.readAll 0 rfl (by unfold maxLen; omega)).form
 refine wp_regionK [9] #[false, false, false, false, false, false, false, false, false, false, false, false, false, false, false] rfl M (by kernel_rfl) ?_; clear M; intro w3 M
 refine k_pure 0 S rfl (fun w => y_move S rfl) ?_; clear S a; intro a S
 refine k_pure 1 S rfl (fun w => y_move S rfl) ?_; clear S a; intro a S
 refine k_read 2 S rfl (fun w hW => have M := M.grow hW; y_indexR (e := 130) (sz := 6) S (by kernel_rfl) rfl ((M.frs hv).1) rfl (by first | omega | (simp; done) | (simp; omega))) ?_; clear S a; intro a S
 refine k_pure 3 S rfl (fun w => y_fieldAddr (k := 0) S (by kernel_rfl) rfl) ?_; clear S a; intro a S
 refine k_read 4 S rfl (fun w hW => have M := M.grow hW; y_load S (by kernel_rfl) rfl (((M.frs hv).row hx0 hrow0).1 0 (show 0 < 6 by omega))) ?_; clear S a; intro a S
 refine k_pure 5 S rfl (fun w => y_move S rfl) ?_; clear S a; intro a S
 refine k_read 6 S rfl (fun w hW => have M := M.grow hW; y_indexR (e := 130) (sz := 6) S (by kernel_rfl) rfl ((M.frs hv).1) rfl (by first | omega | (simp; done) | (simp; omega))) ?_; clear S a; intro a S
 refine k_pure 7 S rfl (fun w => y_fieldAddr (k := 1) S (by kernel_rfl) rfl) ?_; clear S a; intro a S
 refine k_read 8 S rfl (fun w hW => have M := M.grow hW; y_load S (by kernel_rfl) rfl (((M.frs hv).row hx0 hrow0).1 1 (show 1 < 6 by omega))) ?_; clear S a; intro a S
 refine k_one 9 rfl (by kernel_rfl) ?_
 refine qC (xs := [.tmp 36, .tmp 40, .tmp 44]) S (qE Tryz.func52) rfl (cut4_any ba bc (outF fs) f0.seq f0.inc _ (M.readAll 0 rfl (by unfold maxLen; omega))) ?_
 rintro _ w4 ⟨v2, rfl, hK, cs2, hF⟩; refine ⟨_, rfl, ?_⟩; clear S a; intro a S
 obtain ⟨lo2, hi2, hlo2, M2⟩ := M.pushFrs hK hF; clear M; have M := M2; clear M2
 refine wpList_nil ?_; refine then_normal ?_; refine ⟨fun h => absurd h (by decide), ?_⟩
 refine k_pure 10 S rfl (fun w => y_move S rfl) ?_; clear S a; intro a S
 refine k_pure 11 S rfl (fun w => y_extract S rfl rfl) ?_; clear S a; intro a S
 refine k_pure 12 S rfl (fun w => y_extract S rfl rfl) ?_; clear S a; intro a S
 refine k_pure 13 S rfl (fun w => y_assign S rfl) ?_; clear S a; intro a S
 refine k_pure 14 S rfl (fun w => y_assign S rfl) ?_; clear S a; intro a S
 refine k_end (by kernel_rfl) ?_
 replace S := S.keep [0, 4, 5, 19, 6, 7]
 refine then_normal (wp_seq (wp_seq ?_))
 have hG := M.own 0 rfl
 obtain ⟨ga, gc, rfl, -, -⟩ := hG.1.form
 refine wp_region_lit (qG [1, 1, 1] S ?_); clear S a; intro a S
 refine st_if (t := 50) S rfl ?_ ?_
 ·clear S; intro h50 S
  refine qG [0, 0, 0, 0, 1] S ?_; clear S a; intro a S
  refine nxC (st_condT S rfl (nxD (qG [1, 1] S ?_))); clear S a; intro a S
  refine nxC (wp_ret (then_ret (end_two S rfl (res_tmp rfl) (res_tmp rfl) ?_)))
  exact joinPost_no M (by
   rintro ⟨f', bs', r, e, h2, h3, h4, h5⟩
   have e1 : f' = f0 := by rw [e] at hx0; simp at hx0; exact hx0.1
   subst e1
   have hc0 : cutE (outF fs) f'.seq f'.inc = 0 := by unfold cutE; rw [if_pos h4]
   have hcr : cutR (outF fs) f'.seq f'.inc = fs := by unfold cutR; rw [if_pos h4, h5]
   first
    | (simp [hc0] at *; done)
    | (rw [hb9.2 hcr] at *; simp at *; done)
    | (have := hb9.2 hcr; simp_all; done))
 clear S; intro h50 S
 refine qG [1, 1] S ?_; clear S a; intro a S
 refine qC (xs := [.tmp 51, .tmp 52]) S (qE Tryz.func118) rfl (all4_any ga va gc vc cs2 cs (cutR (outF fs) f0.seq f0.inc) fs _ ((M.own 0 rfl).wide (Nat.zero_le _) (M.fits _ (List.mem_of_getElem? (show _[0]? = _ from rfl))).2) ((M.frs hv).wide (Nat.le_refl _) M.below.size)) ?_
 rintro _ w5 ⟨b9, rfl, hK, hb9⟩; refine ⟨_, rfl, ?_⟩; clear S a; intro a S; replace M := M.grow hK
 refine qG [1, 1] S ?_; clear S a; intro a S
 refine nxC (st_split (t := 55) S rfl ?_ ?_)
 ·clear S; intro h55 S
  refine st_condT S rfl (nxD (qG [1, 1] S ?_)); clear S a; intro a S
  refine nxC (wp_ret (then_ret (end_two S rfl (res_tmp rfl) (res_tmp rfl) ?_)))
  exact joinPost_no M (by
   rintro ⟨f', bs', r, e, h2, h3, h4, h5⟩
   have e1 : f' = f0 := by rw [e] at hx0; simp at hx0; exact hx0.1
   subst e1
   have hc0 : cutE (outF fs) f'.seq f'.inc = 0 := by unfold cutE; rw [if_pos h4]
   have hcr : cutR (outF fs) f'.seq f'.inc = fs := by unfold cutR; rw [if_pos h4, h5]
   first
    | (simp [hc0] at *; done)
    | (rw [hb9.2 hcr] at *; simp at *; done)
    | (have := hb9.2 hcr; simp_all; done))
 clear S; intro h55 S
 refine st_condF S rfl (wp_skip (nxE (qG [1, 1, 1] S ?_))); clear S a; intro a S
 refine nxC (wp_ret (end_two S rfl (res_tmp rfl) (res_tmp rfl) ?_))
 have hb : b9 = true := by first | (simpa using h55) | (simpa using h54) | (simpa using h53)
 have hcr := hb9.1 hb
 have hc0 : cutOk (outF fs) f0.seq f0.inc := by
  by_cases h : cutOk (outF fs) f0.seq f0.inc
  ·exact h
  ·have h0 : cutE (outF fs) f0.seq f0.inc ≠ 0 := by
    unfold cutE; rw [if_neg h]; split <;> omega
   exact absurd h50 h0
 have hjo : joinOk fs := by
  obtain ⟨x, r, e⟩ : ∃ x r, fs = x :: r := by cases fs with | nil => simp at hx0 | cons x r => exact ⟨x, r, rfl⟩
  have e0 : x = (f0, bs0) := by rw [e] at hx0; simpa using hx0
  refine ⟨f0, bs0, r, by rw [e, e0], by omega, hmay, hc0, ?_⟩
  unfold cutR at hcr
  rw [if_pos hc0] at hcr
  exact hcr
 exact ⟨_, by unfold joinE; rw [if_pos hjo], M.below, fun _ => M.fresh 1 rfl, fun h => absurd hjo h⟩
end Go.Proofs.YtodfphphidhjbaaGreat

namespace Go.Proofs.YtodfphphidhjbaaGreat
open Go.RowKit Go.Sort
variable {ds : List Deferred}
theorem st_storeRow {P : Program} {ops : Array Oper} {Q : Exit → Act → World → Prop} {rest : List Oper} {n : Nat} {a : Act} {L : List (Nat × Value)} {w w0 : World} {H : List Ent} {x y : Operand} {T : TypeId} {lo hi e sz m j o' kk : Nat} {v u : Value} {cs us : List Value} {bb : Nat}
 (S : SeesD ds n a L) (M : Mem w0 w H) (pos : Nat) {t : TypeId} {p : String} {ed : Array Edge} {g : Option (Nat × Bool)} (hg : gd ops L ⟨none, .store T x y, t, p, ed, g⟩ = some true) (hT : (P.info? T).map (·.size) = some kk)
 (hx : val L x = some (.pointer (some ⟨bb, o', none⟩))) (hb : bb = (adr v).block) (ho : o' = (adr v).off + j) (hy : val L y = some u) (hu : u.cells.toList = us) (hsz : us.length = kk) (h1 : allOne us = true) (hp : H[pos]? = some (rowE lo hi e sz v m cs)) (hm : 0 < m) (hcl : cs.length = m * sz) (hle : j + us.length ≤ cs.length)
 (k : ∀ w' lo' hi', Mem w0 w' (rowE lo' hi' e sz v m (putL cs j us) :: H.eraseIdx pos) → wpList P ops Q rest a w') : wpList P ops Q (⟨none, .store T x y, t, p, ed, g⟩ :: rest) a w := by
 obtain ⟨gb, cap, more, rfl, hc1, hc2, hc3, M1⟩ := (M.front pos hp).ofRow hm
 simp only [adr] at hb ho
 subst hb ho
 rw [Nat.zero_add] at hx
 refine st_store (us := us) S M1 0 hg hT hx hy hu hsz h1 rfl (by rw [List.length_append]; omega) fun w' M2 => ?_
 simp only [List.set_cons_zero] at M2
 have e1 : putL (cs ++ more) j us = putL cs j us ++ more := by
  rw [putL_eq _ _ _ (by rw [List.length_append]; omega), putL_eq _ _ _ hle, List.take_append_of_le_length (by omega), List.drop_append_of_le_length (by omega)]
  simp only [List.append_assoc]
 rw [e1] at M2
 have hl : (putL cs j us).length = m * sz := by rw [putL_length]; exact hcl
 exact k w' _ _ (M2.toRow (sz := sz) (m := m) (cap := cap) (xs := putL cs j us) 0 rfl hl hc1 hc2 (by rw [List.size_toArray, List.length_append, hl, ← hc3, List.length_append, hcl]) (by rw [List.toList_toArray, ← hl]; exact List.take_left))
end Go.Proofs.YtodfphphidhjbaaGreat

namespace Go.Proofs.YtodfphphidhjbaaGreat
open Go.RowKit Go.Sort
structure RS where
 sure : List (List UInt8)
 cache : List (Int × List UInt8)
structure R3 where
 sa : Option Addr
 sc : Nat
 slo : Nat
 shi : Nat
 ca : Option Addr
 cc : Nat
 clo : Nat
 chi : Nat
 sure : List RB
 cache : List FdM
 pool : List RB
abbrev R3.cells (r : R3) : List Value := [.slice r.sa r.sure.length r.sc, .slice r.ca r.cache.length r.cc, .bool false]
abbrev R3.rowS (r : R3) : Ent := rowE r.slo r.shi 57 1 (.slice r.sa r.sure.length r.sc) r.sure.length (r.sure.map RB.val)
abbrev R3.rowC (r : R3) : Ent := rowE r.clo r.chi 133 2 (.slice r.ca r.cache.length r.cc) r.cache.length (fdC r.cache)
def R3.ents (r : R3) (b : Nat) : List Ent := .blk b r.cells.toArray 116 :: r.rowS :: r.rowC :: r.pool.map RB.ent
structure R3.Ok (r : R3) : Prop where
 len : r.sure.length = 34
 inS : ∀ x ∈ r.sure, x ∈ r.pool ∧ x.bs.length = 64
 inC : ∀ x ∈ r.cache, x.2 ∈ r.pool ∧ x.2.bs.length = 64 ∧ 0 ≤ x.1 ∧ x.1 < 34
def R3.st (r : R3) : RS := ⟨r.sure.map RB.bs, r.cache.map FdM.pl⟩
def R3E (b : Nat) (S : RS) (E : List Ent) : Prop := ∃ r : R3, r.Ok ∧ S = r.st ∧ E = r.ents b
def RS.write (S : RS) (n : Int) (bs : List UInt8) : RS := { S with cache := S.cache ++ [(n, bs)] }
def RS.get (S : RS) (n : Int) : List UInt8 := S.cache.foldl (fun out x => if x.1 = n then x.2 else out) (S.sure.getD n.toNat [])
theorem sector_any (v : Value) (bs : List UInt8) (w : World) (hv : Bs 0 w.heap.size w v bs) (hb : bs.length ≤ 64) :
 Calls Tryz.prog 71 #[v] w fun e w' => ∃ r : RB, e = .returned r.val ∧ r.bs = pad64 bs ∧ Mem w w' [r.ent] := by
 have M := Mem.start w
 obtain ⟨va, vc, rfl, -, -⟩ := hv.form
 have hpl := pad64_len hb
 refine calls_enter Tryz.func71 rfl 9 rfl rfl ?_; intro a S
 refine nxD (qG [1] S ?_); clear S a; intro a S
 refine nxA (st_make (e := 5) (sz := 1) (by_ := 1) (zc := [.int .u8 0]) S M rfl rfl (by kernel_rfl) rfl rfl (by omega) (by omega) (by omega) (by omega) ?_); clear S M a; intro a w1 bSE S M hB
 try simp only [Int.toNat_natCast, Int.reduceToNat, Nat.reduceMul] at S M
 refine qG [1] S ?_; clear S a; intro a S
 refine nxA (qG [1, 1] S ?_); clear S a; intro a S
 refine st_copy (e := 5) (us := bcells bs) S M 0 rfl rfl (by kernel_rfl) rfl rfl rfl (M.argW hv) (List.take_of_length_le (by simp [bcells]; omega)) (allOne_bcells _) (by rw [madeL_length, bcells_length]; show 0 + bs.length ≤ 64; omega) ?_; clear S M a; intro a w2 S M
 simp only [List.set_cons_zero, List.set_cons_succ] at M
 refine nxA (qG [1, 1] S ?_); clear S a; intro a S
 refine nxC (wp_ret (end_one S rfl (res_tmp rfl) ?_))
 have M4 := M
 rw [bcells_length, made64, pad64_cells] at M4
 have M5 := M4.toRow (sz := 1) (m := (pad64 bs).length) (cap := 64) (xs := bcells (pad64 bs)) 0 rfl (by rw [bcells_length, Nat.mul_one]) (by omega) (by decide) (by rw [List.size_toArray, bcells_length, hpl]) (by rw [List.toList_toArray, Nat.mul_one]; exact List.take_of_length_le (by rw [bcells_length]; omega))
 refine ⟨⟨bSE, bSE + 1, some ⟨bSE, 0, none⟩, 64, pad64 bs⟩, ?_, rfl, M5⟩
 unfold RB.val; simp only [hpl]
theorem R3.open {wo w : World} {A : List Ent} {b : Nat} {r : R3} (M : Mem wo w (A ++ r.ents b)) : Mem wo w (.blk b r.cells.toArray 116 :: r.rowS :: r.rowC :: (r.pool.map RB.ent ++ A)) :=
 M.perm List.perm_append_comm
theorem R3.close {wo w : World} {A : List Ent} {b : Nat} {r : R3} (M : Mem wo w (.blk b r.cells.toArray 116 :: r.rowS :: r.rowC :: (r.pool.map RB.ent ++ A))) : Mem wo w (A ++ r.ents b) :=
 M.perm (List.perm_append_comm (l₁ := r.ents b))
set_option maxHeartbeats 1000000 in
theorem write3_any {wo w : World} {A E : List Ent} {b : Nat} {S : RS} (n : Int) (va : Option Addr) (vc : Nat) (bs : List UInt8) (hE : R3E b S E) (M : Mem wo w (A ++ E)) (hv : RdH wo A (.slice va bs.length vc) bs) (hc : S.cache.length ≤ 1000) :
 Calls Tryz.prog 49 #[.pointer (some ⟨b, 0, none⟩), .int .i64 n, .slice va bs.length vc] w fun e w' => ∃ er S' E', e = .returned (.int .i64 er) ∧ R3E b S' E' ∧ Mem wo w' (A ++ E') ∧
  ((er = 0 ∧ (0 ≤ n ∧ n < 34 ∧ bs.length ≤ 64) ∧ S' = S.write n (pad64 bs)) ∨ (er ≠ 0 ∧ ¬ (0 ≤ n ∧ n < 34 ∧ bs.length ≤ 64) ∧ S' = S)) := by
 have hE0 := hE
 obtain ⟨r, hok, rfl, rfl⟩ := hE
 replace M := R3.open M
 have hcl : r.cache.length ≤ 1000 := by unfold R3.st at hc; simpa using hc
 refine calls_enter Tryz.func49 rfl 35 rfl rfl ?_; intro a S
 refine wp_seq ?_
 skip
 refine wp_region_lit (qG [1] S ?_); clear S a; intro a S
 refine nxC (wp_seq (nxD (qR [1, 1, 3, 1] S M ?_))); clear S a; intro a S
 refine nxC (st_if (t := 10) S rfl ?_ ?_)
 ·clear S; intro h10 S
  cases h10
 clear S; intro h10 S
 refine st_condF S rfl (wp_skip (then_normal (wp_seq (nxD (qG [1, 1, 1] S ?_))))); clear S a; intro a S
 refine st_if (t := 13) S rfl ?_ ?_
 ·clear S; intro h13 S
  refine qG [0, 0, 1, 1, 0, 0, 0, 1] S ?_; clear S a; intro a S
  refine nxC (st_condT S rfl (nxD (qG [1] S ?_))); clear S a; intro a S
  replace S := S.keep [0, 1, 2, 10, 21, 6]
  refine nxC (wp_ret (then_ret (end_one S rfl (res_tmp rfl) ?_)))
  exact ⟨2, _, _, rfl, hE0, R3.close M, .inr ⟨by omega, by omega, rfl⟩⟩
 clear S; intro h13 S
 refine qG [1, 1, 1, 1] S ?_; clear S a; intro a S
 refine st_if (t := 17) S rfl ?_ ?_
 ·clear S; intro h17 S
  refine qG [0, 0, 0, 1] S ?_; clear S a; intro a S
  refine nxC (st_condT S rfl (nxD (qG [1] S ?_))); clear S a; intro a S
  replace S := S.keep [0, 1, 2, 10, 21, 6]
  refine nxC (wp_ret (then_ret (end_one S rfl (res_tmp rfl) ?_)))
  exact ⟨2, _, _, rfl, hE0, R3.close M, .inr ⟨by omega, by omega, rfl⟩⟩
 clear S; intro h17 S
 refine qG [1] S ?_; clear S a; intro a S
 refine qY S (y_lenS (E := 5) S rfl (by kernel_rfl)) ?_; clear S a; intro a S
 refine qG [1, 1] S ?_; clear S a; intro a S
 refine nxC (st_if (t := 21) S rfl ?_ ?_)
 ·clear S; intro h21 S
  refine st_condT S rfl (nxD (qG [1] S ?_)); clear S a; intro a S
  replace S := S.keep [0, 1, 2, 10, 21, 6]
  refine nxC (wp_ret (then_ret (end_one S rfl (res_tmp rfl) ?_)))
  exact ⟨2, _, _, rfl, hE0, R3.close M, .inr ⟨by omega, by omega, rfl⟩⟩
 clear S; intro h21 S
 refine st_condF S rfl (wp_skip (then_normal (wp_seq (wp_regionK [10, 13] #[false, false, false, false, false, false, false, false, false, false, false, false, false, false] rfl M (by kernel_rfl) ?_)))); clear M; intro w1 M
 refine k_pure 0 S rfl (fun w => y_move S rfl) ?_; clear S a; intro a S
 refine k_pure 1 S rfl (fun w => y_move S rfl) ?_; clear S a; intro a S
 refine k_pure 2 S rfl (fun w => y_nilCheck S rfl) ?_; clear S a; intro a S
 refine k_pure 3 S rfl (fun w => y_fieldAddr (k := 1) S (by kernel_rfl) rfl) ?_; clear S a; intro a S
 refine k_read 4 S rfl (fun w hW => have M := M.grow hW; y_load S (by kernel_rfl) rfl (M.cell 0 rfl rfl)) ?_; clear S a; intro a S
 refine k_pure 5 S rfl (fun w => y_move S rfl) ?_; clear S a; intro a S
 refine k_pure 6 S rfl (fun w => y_move S rfl) ?_; clear S a; intro a S
 refine k_one 7 rfl (by kernel_rfl) ?_
 refine qC (xs := [.tmp 28]) S (qE Tryz.func71) rfl (sector_any (.slice va bs.length vc) bs _ (hv _ (M.sub (.cons _ (.cons _ (.cons _ (List.sublist_append_right _ _)))))) (by omega)) ?_
 rintro _ w2 ⟨q, rfl, hqb, M1⟩; refine ⟨_, rfl, ?_⟩; clear S a; intro a S; have hK := M1.below; replace M := M.join M1; clear M1
 simp only [List.cons_append, List.nil_append] at M
 refine wpList_nil ?_; refine then_normal ?_; refine ⟨fun _ => hK, ?_⟩
 refine k_pure 8 S rfl (fun w => y_build (ps := [(0, .tmp 27), (1, .tmp 29)]) (pl := [(0, 1), (1, 1)]) (z := [.int .i64 0, .slice none 0 0]) (cs := [_, _]) S (by kernel_rfl) rfl (rfl)) ?_; clear S a; intro a S
 refine k_one 9 rfl (by kernel_rfl) ?_
 refine st_lit (ps := [(0, .tmp 30)]) (e := 133) (sz := 2) (zl := [.int .i64 0, .slice none 0 0]) (cs := [_, _]) S M rfl rfl (by kernel_rfl) rfl (rfl) ?_; clear S M a; intro a w3 bZ S M hB
 refine wpList_nil ?_; refine then_normal ?_; refine ⟨fun _ => hB, ?_⟩
 refine k_one 10 rfl (by kernel_rfl) ?_
 refine st_append (e := 133) (sz := 2) (by_ := 32) (zc := [.int .i64 0, .slice none 0 0]) S M 4 rfl rfl (by kernel_rfl) rfl (by decide) rfl rfl rfl (show Rd _ _ _ 2 _ 1 [Value.int .i64 n, q.val] from M.sliceAt 0 rfl (M.cellsAt (k := 2) 0 rfl rfl) rfl (Nat.le_refl _) (by unfold maxLen; omega)) (rfl) (by omega) (by unfold maxLen; omega) ?_; clear S M a; intro a w4 vA loA hiA S M
 refine wpList_nil ?_; refine then_normal ?_; refine ⟨fun h => absurd h (by decide), ?_⟩
 obtain ⟨aA, cA, rfl, -, -⟩ := (M.readAll 0 rfl (by unfold maxLen; omega)).form
 refine k_pure 11 S rfl (fun w => y_nilCheck S rfl) ?_; clear S a; intro a S
 refine k_pure 12 S rfl (fun w => y_fieldAddr (k := 1) S (by kernel_rfl) rfl) ?_; clear S a; intro a S
 refine k_one 13 rfl (by kernel_rfl) ?_
 refine qS (sz := 1) (us := [_]) S M 3 ?_; clear M; intro w5 M
 refine wpList_nil ?_; refine then_normal ?_; refine ⟨fun h => absurd h (by decide), ?_⟩
 refine k_end (by kernel_rfl) ?_
 replace S := S.keep [0, 1, 2, 6, 10, 21]
 refine nxE (qG [1] S ?_); clear S a; intro a S
 refine nxC (wp_ret (end_one S rfl (res_tmp rfl) ?_))
 replace M := M.ord [2, 1, 4, 4] (by simp only [ordO, oG, oS, oE, oZ, oB] <;> rfl)
 replace M := M.drop 4
 simp only [List.eraseIdx_cons_succ, List.eraseIdx_cons_zero] at M
 have hlen : (r.cache ++ [((n, q) : FdM)]).length = r.cache.length + 1 := by simp
 refine ⟨0, _, _, rfl, ⟨{ r with ca := aA, cc := cA, clo := loA, chi := hiA, cache := r.cache ++ [((n, q) : FdM)], pool := q :: r.pool }, ⟨hok.len, fun x hx => ⟨List.mem_cons_of_mem _ (hok.inS x hx).1, (hok.inS x hx).2⟩, fun x hx => ?_⟩, rfl, rfl⟩, R3.close ?_, .inl ⟨rfl, by omega, ?_⟩⟩
 ·rcases List.mem_append.1 hx with h | h
  ·exact ⟨List.mem_cons_of_mem _ (hok.inC x h).1, (hok.inC x h).2⟩
  ·obtain rfl := List.mem_singleton.1 h
   exact ⟨List.mem_cons_self .., by show q.bs.length = 64; rw [hqb]; exact pad64_len (by omega), h13, h17⟩
 ·show Mem _ _ (.blk b #[_, .slice aA (r.cache ++ [((n, q) : FdM)]).length cA, _] _ :: _ :: rowE loA hiA _ 2 (.slice aA (r.cache ++ [((n, q) : FdM)]).length cA) (r.cache ++ [((n, q) : FdM)]).length (fdC (r.cache ++ [((n, q) : FdM)])) :: q.ent :: _)
  rw [hlen, fdC_snoc]; exact M
 ·unfold RS.write R3.st
  simp [hqb]
set_option maxHeartbeats 1000000 in
theorem read3_any {wo w : World} {A E : List Ent} {b : Nat} {S : RS} (n : Int) (hE : R3E b S E) (M : Mem wo w (A ++ E)) (hc : S.cache.length ≤ 1000) (hn : 0 ≤ n ∧ n < 34) :
 Calls Tryz.prog 28 #[.pointer (some ⟨b, 0, none⟩), .int .i64 n] w fun e w' => ∃ q : RB, e = .returned (.tuple #[q.val, .int .i64 0]) ∧ q.bs = S.get n ∧ q.bs.length = 64 ∧ Mem wo w' (q.ent :: (A ++ E)) := by
 obtain ⟨r, hok, rfl, rfl⟩ := hE
 replace M := R3.open M
 have hcl : r.cache.length ≤ 1000 := by unfold R3.st at hc; simpa using hc
 have hsl := hok.len
 obtain ⟨k, rfl, hk⟩ : ∃ k : Nat, n = (k : Int) ∧ k < 34 := ⟨n.toNat, by omega, by omega⟩
 obtain ⟨q0, hq0⟩ : ∃ q, r.sure[k]? = some q := ⟨_, List.getElem?_eq_getElem (by omega)⟩
 have hq0m := hok.inS q0 (List.mem_of_getElem? hq0)
 refine calls_enter Tryz.func28 rfl 54 rfl rfl ?_; intro a S
 refine wp_seq ?_
 skip
 refine wp_region_lit (qG [1, 1] S ?_); clear S a; intro a S
 refine nxC (wp_seq (nxD (qR [1, 1, 3, 1] S M ?_))); clear S a; intro a S
 refine nxC (st_if (t := 11) S rfl ?_ ?_)
 ·clear S; intro h11 S
  cases h11
 clear S; intro h11 S
 refine st_condF S rfl (wp_skip (then_normal (wp_seq (nxD (qG [1, 1, 1] S ?_))))); clear S a; intro a S
 refine st_if (t := 14) S rfl ?_ ?_
 ·clear S; intro h14 S
  refine qG [0, 0, 1] S ?_; clear S a; intro a S
  refine nxC (st_condT S rfl (nxD (qG [1, 1] S ?_))); clear S a; intro a S
  refine nxC (wp_ret (then_ret (end_two S rfl (res_tmp rfl) (res_tmp rfl) ?_)))
  exfalso; omega
 clear S; intro h14 S
 refine qG [1, 1, 1] S ?_; clear S a; intro a S
 refine nxC (st_if (t := 17) S rfl ?_ ?_)
 ·clear S; intro h17 S
  refine st_condT S rfl (nxD (qG [1, 1] S ?_)); clear S a; intro a S
  refine nxC (wp_ret (then_ret (end_two S rfl (res_tmp rfl) (res_tmp rfl) ?_)))
  exfalso; omega
 clear S; intro h17 S
 refine st_condF S rfl (wp_skip (nxE (qR [1, 1, 1, 1, 1] S M ?_))); clear S a; intro a S
 refine qY S (y_indexR (e := 57) (sz := 1) S (by kernel_rfl) rfl (M.readAll 1 rfl (by unfold maxLen; omega)) rfl (by first | omega | (simp; done) | (simp; omega))) ?_; clear S a; intro a S
 try simp only [Int.toNat_natCast, Nat.mul_one, Nat.zero_add] at S
 refine qY S (y_load S (by kernel_rfl) rfl ((M.readAll 1 rfl (by unfold maxLen; omega)).at_.one k (by rw [List.getElem?_map, hq0]; rfl))) ?_; clear S a; intro a S
 refine qG [1] S ?_; clear S a; intro a S
 replace S := S.keep [0, 1, 4, 5, 11, 17, 6]
 refine nxC (wp_seq (nxD (qG [1] S ?_))); clear S a; intro a S
 refine nxC (wp_block (wp_loop_g (fun m a w' => ∃ (j : Nat) (q : RB), j ≤ r.cache.length ∧ m = r.cache.length - j ∧ (q ∈ r.pool ∧ q.bs.length = 64) ∧ q.bs = ((r.cache.map FdM.pl).take j).foldl (fun out x => if x.1 = (k : Int) then x.2 else out) q0.bs ∧ Sees 54 a [(0, .pointer (some ⟨b, 0, none⟩)), (1, .int .i64 (k : Int)), (6, q.val), (7, .int .i64 (j : Int))] ∧ Mem wo w' (.blk b r.cells.toArray 116 :: r.rowS :: r.rowC :: (r.pool.map RB.ent ++ A))) (r.cache.length) ?_ ?_))
 ·skip
  exact ⟨0, q0, Nat.zero_le _, rfl, hq0m, rfl, S.sub _ rfl, M⟩
 clear S M a; intro m a wl
 rintro ⟨j, q, hj, rfl, hqm, hqb, S, M⟩
 refine wp_seq (nxD (qR [1, 1, 1, 2, 1] S M ?_)); clear S a; intro a S
 refine qY S (y_lenR (E := 133) S rfl (M.readAll 2 rfl (by unfold maxLen; omega)) (by kernel_rfl)) ?_; clear S a; intro a S
 refine qG [1] S ?_; clear S a; intro a S
 refine nxC (st_fi (t := 31) S rfl ?_ ?_)
 ·clear S; intro h31 S
  refine st_condF S rfl (wp_exit (then_exit (then_exit (block_hit (then_normal (wp_seq ?_))))))
  have hjl : (r.cache.map FdM.pl).take j = r.cache.map FdM.pl := List.take_of_length_le (by simp; omega)
  rw [hjl] at hqb
  refine wp_region_lit (qG [1] S ?_); clear S a; intro a S
  refine qC (xs := [.tmp 52]) S (qE Tryz.func71) rfl (sector_any q.val q.bs _ (M.readIn (show q.ent ∈ _ from List.mem_cons_of_mem _ (List.mem_cons_of_mem _ (List.mem_cons_of_mem _ (List.mem_append_left _ (List.mem_map_of_mem hqm.1))))) (by unfold maxLen; omega)) (by omega)) ?_
  rintro _ w1 ⟨z, rfl, hz, M1⟩; refine ⟨_, rfl, ?_⟩; clear S a; intro a S; replace M := M.join M1; clear M1
  simp only [List.cons_append, List.nil_append] at M
  refine qG [1, 1] S ?_; clear S a; intro a S
  refine nxC (wp_ret (end_two S rfl (res_tmp rfl) (res_tmp rfl) ?_))
  rw [pad64_eq hqm.2] at hz
  refine ⟨z, rfl, ?_, by rw [hz]; exact hqm.2, ?_⟩
  ·rw [hz, hqb]
   unfold RS.get R3.st
   simp [hq0]
  ·exact M.perm (List.Perm.cons _ (List.perm_append_comm (l₁ := r.ents b)))
 clear S; intro h31 S
 refine st_condT S rfl (wp_skip (then_normal (wp_seq (wp_block (wp_seq ?_)))))
 have hjl : j < r.cache.length := by omega
 obtain ⟨x, hx⟩ : ∃ x, r.cache[j]? = some x := ⟨_, List.getElem?_eq_getElem hjl⟩
 have hxm := hok.inC x (List.mem_of_getElem? hx)
 have htk : (r.cache.map FdM.pl).take (j + 1) = (r.cache.map FdM.pl).take j ++ [x.pl] := by rw [List.take_add_one, List.getElem?_map, hx]; rfl
 refine wp_region_lit (qR [1, 1, 2, 1, 1] S M ?_); clear S a; intro a S
 refine qY S (y_indexR (e := 133) (sz := 2) S (by kernel_rfl) rfl (M.readAll 2 rfl (by unfold maxLen; omega)) rfl (by first | omega | (simp; done) | (simp; omega))) ?_; clear S a; intro a S
 try simp only [Int.toNat_natCast, Nat.mul_one, Nat.zero_add] at S
 refine qG [1] S ?_; clear S a; intro a S
 refine qY S (y_load S (by kernel_rfl) rfl ((M.readAll 2 rfl (by unfold maxLen; omega)).at_.row (i := j) (fdC_get hx) rfl 0 (show 0 < 2 by omega))) ?_; clear S a; intro a S
 refine qG [1, 1] S ?_; clear S a; intro a S
 replace S := S.keep [0, 1, 6, 7, 31, 43]
 refine nxC (st_fi (t := 43) S rfl ?_ ?_)
 ·clear S; intro h43 S
  refine st_condF S rfl (wp_skip (block_normal (nxF (qG [1] S ?_)))); clear S a; intro a S
  (first | refine qY S (y_addN S rfl rfl (by omega)) ?_ | refine qY S (y_int S rfl rfl rfl) ?_); clear S a; intro a S
  refine qG [1] S ?_; clear S a; intro a S
  refine nxC ?_
  first
   | exact ⟨r.cache.length - (j + 1), by omega, j + 1, x.2, by omega, rfl, ⟨hxm.1, hxm.2.1⟩, by rw [htk, List.foldl_append]; exact (if_pos (by first | omega | (show x.1 = _; omega))).symm, S.sub _ rfl, M⟩
   | exact ⟨r.cache.length - (j + 1), by omega, j + 1, q, by omega, rfl, hqm, by rw [htk, List.foldl_append, ← hqb]; exact (if_neg (by first | omega | (show ¬ x.1 = _; omega))).symm, S.sub _ rfl, M⟩
 clear S; intro h43 S
 refine st_condT S rfl (wp_region_lit (qR [1, 1, 2, 1, 1] S M ?_)); clear S a; intro a S
 refine qY S (y_indexR (e := 133) (sz := 2) S (by kernel_rfl) rfl (M.readAll 2 rfl (by unfold maxLen; omega)) rfl (by first | omega | (simp; done) | (simp; omega))) ?_; clear S a; intro a S
 try simp only [Int.toNat_natCast, Nat.mul_one, Nat.zero_add] at S
 refine qG [2] S ?_; clear S a; intro a S
 refine qY S (y_load S (by kernel_rfl) rfl ((M.readAll 2 rfl (by unfold maxLen; omega)).at_.row (i := j) (fdC_get hx) rfl 1 (show 1 < 2 by omega))) ?_; clear S a; intro a S
 refine qG [1] S ?_; clear S a; intro a S
 refine wpList_nil (block_normal (nxF (qG [1] S ?_))); clear S a; intro a S
 (first | refine qY S (y_addN S rfl rfl (by omega)) ?_ | refine qY S (y_int S rfl rfl rfl) ?_); clear S a; intro a S
 refine qG [1] S ?_; clear S a; intro a S
 refine nxC ?_
 first
  | exact ⟨r.cache.length - (j + 1), by omega, j + 1, x.2, by omega, rfl, ⟨hxm.1, hxm.2.1⟩, by rw [htk, List.foldl_append]; exact (if_pos (by first | omega | (show x.1 = _; omega))).symm, S.sub _ rfl, M⟩
  | exact ⟨r.cache.length - (j + 1), by omega, j + 1, q, by omega, rfl, hqm, by rw [htk, List.foldl_append, ← hqb]; exact (if_neg (by first | omega | (show ¬ x.1 = _; omega))).symm, S.sub _ rfl, M⟩
end Go.Proofs.YtodfphphidhjbaaGreat

namespace Go.Proofs.YtodfphphidhjbaaGreat
open Go.RowKit Go.Sort
def flushL (sure : List (List UInt8)) (c : List (Int × List UInt8)) : List (List UInt8) := c.foldl (fun s x => s.set x.1.toNat x.2) sure
def RS.flush (S : RS) : RS := ⟨flushL S.sure S.cache, []⟩
theorem flushL_snoc (s : List (List UInt8)) (c : List (Int × List UInt8)) (x : Int × List UInt8) : flushL s (c ++ [x]) = (flushL s c).set x.1.toNat x.2 := by unfold flushL; rw [List.foldl_append]; rfl
theorem putL_single {l : List Value} {k : Nat} {v : Value} (h : k < l.length) : putL l k [v] = l.set k v := by
 rw [putL_eq _ _ _ (by show k + 1 ≤ _; omega), List.set_eq_take_append_cons_drop, if_pos h]
 simp
theorem Mem.nilRow {w0 w : World} {H : List Ent} (M : Mem w0 w H) (T : TypeId) (sz : Nat) : ∃ lo hi, Mem w0 w (rowE lo hi T sz (.slice none 0 0) 0 [] :: H) := ⟨_, _, M.rowNil T sz⟩
set_option maxHeartbeats 1000000 in
theorem flush3_any {wo w : World} {A E : List Ent} {b : Nat} {S : RS} (hE : R3E b S E) (M : Mem wo w (A ++ E)) (hc : S.cache.length ≤ 1000) :
 Calls Tryz.prog 20 #[.pointer (some ⟨b, 0, none⟩)] w fun e w' => e = .returned (.int .i64 0) ∧ ∃ E', R3E b S.flush E' ∧ Mem wo w' (A ++ E') := by
 obtain ⟨r, hok, rfl, rfl⟩ := hE
 replace M := R3.open M
 have hcl : r.cache.length ≤ 1000 := by unfold R3.st at hc; simpa using hc
 have hsl := hok.len
 refine calls_enter Tryz.func20 rfl 41 rfl rfl ?_; intro a S
 refine wp_seq ?_
 skip
 refine wp_region_lit (qG [1] S ?_); clear S a; intro a S
 refine nxC (wp_seq (nxD (qR [1, 1, 3, 1] S M ?_))); clear S a; intro a S
 refine nxC (st_if (t := 7) S rfl ?_ ?_)
 ·clear S; intro h7 S
  cases h7
 clear S; intro h7 S
 refine st_condF S rfl (wp_skip (then_normal (wp_seq (nxD (qG [1] S ?_))))); clear S a; intro a S
 refine nxC (wp_block (wp_loop_g (fun m a w' => ∃ (j : Nat) (su : List RB) (lo hi : Nat), j ≤ r.cache.length ∧ m = r.cache.length - j ∧ su.length = r.sure.length ∧ (∀ x ∈ su, x ∈ r.pool ∧ x.bs.length = 64) ∧ su.map RB.bs = flushL (r.sure.map RB.bs) ((r.cache.map FdM.pl).take j) ∧ Sees 41 a [(0, .pointer (some ⟨b, 0, none⟩)), (3, .int .i64 (j : Int))] ∧ Mem wo w' (.blk b r.cells.toArray 116 :: rowE lo hi 57 1 (.slice r.sa r.sure.length r.sc) r.sure.length (su.map RB.val) :: r.rowC :: (r.pool.map RB.ent ++ A))) (r.cache.length) ?_ ?_))
 ·skip
  exact ⟨0, r.sure, _, _, Nat.zero_le _, rfl, rfl, hok.inS, rfl, S.sub _ rfl, M⟩
 clear S M a; intro m a wl
 rintro ⟨j, su, lo, hi, hj, rfl, hsu, hin, hfl, S, M⟩
 refine wp_seq (nxD (qR [1, 1, 1, 2, 1] S M ?_)); clear S a; intro a S
 refine qY S (y_lenR (E := 133) S rfl (M.readAll 2 rfl (by unfold maxLen; omega)) (by kernel_rfl)) ?_; clear S a; intro a S
 refine qG [1] S ?_; clear S a; intro a S
 refine nxC (st_fi (t := 14) S rfl ?_ ?_)
 ·clear S; intro h14 S
  refine st_condF S rfl (wp_exit (then_exit (then_exit (block_hit (then_normal (wp_seq ?_))))))
  have hjl : (r.cache.map FdM.pl).take j = r.cache.map FdM.pl := List.take_of_length_le (by simp; omega)
  rw [hjl] at hfl
  refine wp_region_lit (qG [1, 1, 2] S ?_); clear S a; intro a S
  refine qS (sz := 1) (us := [_]) S M 0 ?_; clear M; intro w2 M
  refine nxA (qG [1] S ?_); clear S a; intro a S
  refine nxC (wp_ret (end_one S rfl (res_tmp rfl) ?_))
  replace M := M.drop 2
  simp only [List.eraseIdx_cons_succ, List.eraseIdx_cons_zero] at M
  obtain ⟨lo9, hi9, M1⟩ := M.nilRow 133 2
  clear M; have M := M1; clear M1
  refine ⟨rfl, _, ⟨{ r with slo := lo, shi := hi, ca := none, cc := 0, clo := lo9, chi := hi9, sure := su, cache := [] }, ⟨by show su.length = 34; omega, hin, fun y hy => absurd hy (by simp)⟩, ?_, rfl⟩, R3.close ?_⟩
  rotate_left
  ·show Mem _ _ (.blk b #[.slice r.sa su.length r.sc, .slice none 0 0, .bool false] _ :: rowE lo hi _ 1 (.slice r.sa su.length r.sc) su.length (su.map RB.val) :: rowE _ _ _ 2 (.slice none 0 0) 0 [] :: _)
   rw [hsu]
   exact M.perm ((List.Perm.swap _ _ _).trans (List.Perm.cons _ (List.Perm.swap _ _ _)))
  ·unfold RS.flush R3.st
   simp only [hfl]; rfl
 clear S; intro h14 S
 refine st_condT S rfl (wp_skip (then_normal (wp_seq (wp_block ?_))))
 have hjl : j < r.cache.length := by omega
 obtain ⟨x, hx⟩ : ∃ x, r.cache[j]? = some x := ⟨_, List.getElem?_eq_getElem hjl⟩
 have hxm := hok.inC x (List.mem_of_getElem? hx)
 obtain ⟨k, hk, hk34⟩ : ∃ k : Nat, x.1 = (k : Int) ∧ k < 34 := ⟨x.1.toNat, by omega, by omega⟩
 have htk : (r.cache.map FdM.pl).take (j + 1) = (r.cache.map FdM.pl).take j ++ [x.pl] := by rw [List.take_add_one, List.getElem?_map, hx]; rfl
 refine wp_regionK [21] #[false, false, false, false, false, false, false, false, false, false, false, false, false, false, false, false, false, false, false, false, false, false] rfl M (by kernel_rfl) ?_; clear M; intro w1 M
 refine k_pure 0 S rfl (fun w => y_move S rfl) ?_; clear S a; intro a S
 refine k_pure 1 S rfl (fun w => y_nilCheck S rfl) ?_; clear S a; intro a S
 refine k_pure 2 S rfl (fun w => y_fieldAddr (k := 0) S (by kernel_rfl) rfl) ?_; clear S a; intro a S
 refine k_read 3 S rfl (fun w hW => have M := M.grow hW; y_load S (by kernel_rfl) rfl (M.cell 0 rfl rfl)) ?_; clear S a; intro a S
 refine k_pure 4 S rfl (fun w => y_move S rfl) ?_; clear S a; intro a S
 refine k_pure 5 S rfl (fun w => y_nilCheck S rfl) ?_; clear S a; intro a S
 refine k_pure 6 S rfl (fun w => y_fieldAddr (k := 1) S (by kernel_rfl) rfl) ?_; clear S a; intro a S
 refine k_read 7 S rfl (fun w hW => have M := M.grow hW; y_load S (by kernel_rfl) rfl (M.cell 0 rfl rfl)) ?_; clear S a; intro a S
 refine k_pure 8 S rfl (fun w => y_move S rfl) ?_; clear S a; intro a S
 refine k_read 9 S rfl (fun w hW => have M := M.grow hW; y_indexR (e := 133) (sz := 2) S (by kernel_rfl) rfl (M.readAll 2 rfl (by unfold maxLen; omega)) rfl (by first | omega | (simp; done) | (simp; omega))) ?_; clear S a; intro a S
 try simp only [Int.toNat_natCast, Nat.mul_one, Nat.zero_add] at S
 refine k_pure 10 S rfl (fun w => y_fieldAddr (k := 0) S (by kernel_rfl) rfl) ?_; clear S a; intro a S
 refine k_read 11 S rfl (fun w hW => have M := M.grow hW; y_load S (by kernel_rfl) rfl ((M.readAll 2 rfl (by unfold maxLen; omega)).at_.row (i := j) (fdC_get hx) rfl 0 (show 0 < 2 by omega))) ?_; clear S a; intro a S
 refine k_pure 12 S rfl (fun w => y_move S rfl) ?_; clear S a; intro a S
 refine k_pure 13 S rfl (fun w => y_nilCheck S rfl) ?_; clear S a; intro a S
 refine k_pure 14 S rfl (fun w => y_fieldAddr (k := 1) S (by kernel_rfl) rfl) ?_; clear S a; intro a S
 refine k_read 15 S rfl (fun w hW => have M := M.grow hW; y_load S (by kernel_rfl) rfl (M.cell 0 rfl rfl)) ?_; clear S a; intro a S
 refine k_pure 16 S rfl (fun w => y_move S rfl) ?_; clear S a; intro a S
 refine k_read 17 S rfl (fun w hW => have M := M.grow hW; y_indexR (e := 133) (sz := 2) S (by kernel_rfl) rfl (M.readAll 2 rfl (by unfold maxLen; omega)) rfl (by first | omega | (simp; done) | (simp; omega))) ?_; clear S a; intro a S
 try simp only [Int.toNat_natCast, Nat.mul_one, Nat.zero_add] at S
 refine k_pure 18 S rfl (fun w => y_fieldAddr (k := 1) S (by kernel_rfl) rfl) ?_; clear S a; intro a S
 refine k_read 19 S rfl (fun w hW => have M := M.grow hW; y_load S (by kernel_rfl) rfl ((M.readAll 2 rfl (by unfold maxLen; omega)).at_.row (i := j) (fdC_get hx) rfl 1 (show 1 < 2 by omega))) ?_; clear S a; intro a S
 rw [hk] at S
 refine k_read 20 S rfl (fun w hW => have M := M.grow hW; y_indexR (e := 57) (sz := 1) S (by kernel_rfl) rfl (M.readAll 1 rfl (by unfold maxLen; omega)) rfl (by first | omega | (simp; done) | (simp; omega))) ?_; clear S a; intro a S
 try simp only [Int.toNat_natCast, Nat.mul_one, Nat.zero_add] at S
 refine k_one 21 rfl (by kernel_rfl) ?_
 refine st_storeRow (v := .slice r.sa r.sure.length r.sc) (sz := 1) (m := r.sure.length) (j := k) (us := [x.2.val]) S M 1 rfl (by kernel_rfl) rfl rfl (by first | rfl | omega | (simp only [Int.toNat_natCast]; omega)) rfl rfl rfl rfl rfl (by omega) (by rw [List.length_map, hsu, Nat.mul_one]) (by rw [List.length_map, hsu]; show k + 1 ≤ _; omega) ?_; clear M; intro wz lo9 hi9 M
 simp only [List.eraseIdx_cons_succ, List.eraseIdx_cons_zero] at M
 rw [putL_single (by rw [List.length_map, hsu]; omega)] at M
 refine wpList_nil ?_; refine then_normal ?_; refine ⟨fun h => absurd h (by decide), ?_⟩
 refine k_end (by kernel_rfl) ?_
 replace S := S.keep [0, 3, 14]
 refine block_normal (nxF (qG [1] S ?_)); clear S a; intro a S
 (first | refine qY S (y_addN S rfl rfl (by omega)) ?_ | refine qY S (y_int S rfl rfl rfl) ?_); clear S a; intro a S
 refine qG [1] S ?_; clear S a; intro a S
 refine nxC ?_
 have hms : (su.map RB.val).set k x.2.val = (su.set k x.2).map RB.val := List.map_set.symm
 rw [hms] at M
 refine ⟨r.cache.length - (j + 1), by omega, j + 1, su.set k x.2, lo9, hi9, by omega, rfl, by rw [List.length_set]; exact hsu, fun y hy => ?_, ?_, S.sub _ rfl, M.perm (List.Perm.swap _ _ _)⟩
 ·rcases List.mem_or_eq_of_mem_set hy with h | rfl
  ·exact hin y h
  ·exact ⟨hxm.1, hxm.2.1⟩
 ·rw [htk, flushL_snoc, ← hfl, List.map_set]
  show _ = (su.map RB.bs).set x.1.toNat x.2.bs
  rw [hk, Int.toNat_natCast]
theorem dur_flat (su : List RB) (k : Nat) {x : RB} (hx : su[k]? = some x) : ((su.map RB.bs).take (k + 1)).flatten = ((su.map RB.bs).take k).flatten ++ x.bs := by
 rw [List.take_add_one, List.getElem?_map, hx]; simp
set_option maxHeartbeats 1000000 in
theorem durable3_any {wo w : World} {A E : List Ent} {b : Nat} {S : RS} (hE : R3E b S E) (M : Mem wo w (A ++ E)) :
 Calls Tryz.prog 21 #[.pointer (some ⟨b, 0, none⟩)] w fun e w' => ∃ q : RB, e = .returned q.val ∧ q.bs = S.sure.flatten ∧ Mem wo w' (q.ent :: (A ++ E)) := by
 obtain ⟨r, hok, rfl, rfl⟩ := hE
 replace M := R3.open M
 have hsl := hok.len
 have h64 : ∀ k, k ≤ 34 → ((r.sure.map RB.bs).take k).flatten.length = k * 64 := fun k hk => by
  induction k with
  | zero => simp
  | succ k ih =>
    obtain ⟨x, hx⟩ : ∃ x, r.sure[k]? = some x := ⟨_, List.getElem?_eq_getElem (by omega)⟩
    rw [dur_flat r.sure k hx, List.length_append, ih (by omega), (hok.inS x (List.mem_of_getElem? hx)).2]; omega
 refine calls_enter Tryz.func21 rfl 24 rfl rfl ?_; intro a S
 refine wp_seq ?_
 skip
 refine wp_region_lit (qG [1] S ?_); clear S a; intro a S
 refine nxA (qG [1] S ?_); clear S a; intro a S
 refine nxC (wp_seq (nxD (qG [1] S ?_))); clear S a; intro a S
 refine nxC (wp_block (wp_loop_g (fun m a w' => ∃ (k : Nat) (oa : Option Addr) (oc lo hi : Nat), k ≤ 34 ∧ m = 34 - k ∧ Sees 24 a [(0, .pointer (some ⟨b, 0, none⟩)), (3, .slice oa (k * 64) oc), (4, .int .i64 (k : Int))] ∧ Mem wo w' (rowE lo hi 5 1 (.slice oa (k * 64) oc) (k * 64) (bcells ((r.sure.map RB.bs).take k).flatten) :: .blk b r.cells.toArray 116 :: r.rowS :: r.rowC :: (r.pool.map RB.ent ++ A))) (34) ?_ ?_))
 ·skip
  exact ⟨0, _, _, _, _, Nat.zero_le _, rfl, S.sub _ rfl, M.rowNil 5 1⟩
 clear S M a; intro m a wl
 rintro ⟨k, oa, oc, lo, hi, hk, rfl, S, M⟩
 refine wp_seq (nxD (qR [1, 1, 1, 1, 2] S M ?_)); clear S a; intro a S
 refine qY S (y_lenR (E := 57) S rfl (M.readAll 2 rfl (by unfold maxLen; omega)) (by kernel_rfl)) ?_; clear S a; intro a S
 refine qG [1] S ?_; clear S a; intro a S
 refine nxC (st_fi (t := 11) S rfl ?_ ?_)
 ·clear S; intro h11 S
  refine st_condF S rfl (wp_exit (then_exit (then_exit (block_hit (nxE (qG [1, 1] S ?_)))))); clear S a; intro a S
  refine nxC (wp_ret (end_one S rfl (res_tmp rfl) ?_))
  obtain rfl : k = 34 := by omega
  have hall : (r.sure.map RB.bs).take 34 = r.sure.map RB.bs := List.take_of_length_le (by simp; omega)
  rw [hall] at M
  have hl : (r.sure.map RB.bs).flatten.length = 34 * 64 := by rw [← hall]; exact h64 34 (Nat.le_refl _)
  refine ⟨⟨lo, hi, oa, oc, (r.sure.map RB.bs).flatten⟩, ?_, rfl, ?_⟩
  ·unfold RB.val; simp only [hl]
  ·show Mem _ _ (rowE lo hi _ 1 (.slice oa (r.sure.map RB.bs).flatten.length oc) (r.sure.map RB.bs).flatten.length _ :: _)
   rw [hl]
   exact M.perm (List.Perm.cons _ (List.perm_append_comm (l₁ := r.ents b)))
 clear S; intro h11 S
 refine st_condT S rfl (wp_skip (then_normal (wp_seq (wp_block ?_))))
 have hk' : k < 34 := by omega
 obtain ⟨x, hx⟩ : ∃ x, r.sure[k]? = some x := ⟨_, List.getElem?_eq_getElem (by omega)⟩
 have hxm := hok.inS x (List.mem_of_getElem? hx)
 refine wp_region_lit (qR [1, 1, 1, 1, 2, 1] S M ?_); clear S a; intro a S
 refine qY S (y_indexR (e := 57) (sz := 1) S (by kernel_rfl) rfl (M.readAll 2 rfl (by unfold maxLen; omega)) rfl (by first | omega | (simp; done) | (simp; omega))) ?_; clear S a; intro a S
 try simp only [Int.toNat_natCast, Nat.mul_one, Nat.zero_add] at S
 refine qY S (y_load S (by kernel_rfl) rfl ((M.readAll 2 rfl (by unfold maxLen; omega)).at_.one k (by rw [List.getElem?_map, hx]; rfl))) ?_; clear S a; intro a S
 refine st_append (e := 5) (sz := 1) (by_ := 1) (zc := [.int .u8 0]) S M 0 rfl rfl (by kernel_rfl) rfl (by decide) rfl rfl rfl (M.readIn (show x.ent ∈ _ from List.mem_cons_of_mem _ (List.mem_cons_of_mem _ (List.mem_cons_of_mem _ (List.mem_cons_of_mem _ (List.mem_append_left _ (List.mem_map_of_mem hxm.1)))))) (by unfold maxLen; omega)) (allOne_bcells _) (by omega) (by unfold maxLen; omega) ?_; clear S M a; intro a w1 vA loA hiA S M
 obtain ⟨aA, cA, rfl, -, -⟩ := (M.readAll 0 rfl (by unfold maxLen; omega)).form
 refine qY S (y_assign S rfl) ?_; clear S a; intro a S
 replace S := S.keep [0, 4, 11, 3]
 refine wpList_nil (block_normal (nxF (qG [1] S ?_))); clear S a; intro a S
 (first | refine qY S (y_addN S rfl rfl (by omega)) ?_ | refine qY S (y_int S rfl rfl rfl) ?_); clear S a; intro a S
 refine qG [1] S ?_; clear S a; intro a S
 refine nxC ?_
 have e1 : k * 64 + x.bs.length = (k + 1) * 64 := by rw [hxm.2]; omega
 rw [e1] at S M
 refine ⟨34 - (k + 1), by omega, k + 1, aA, cA, loA, hiA, by omega, rfl, S.sub _ rfl, ?_⟩
 rw [dur_flat r.sure k hx, bcells_append]; exact M
end Go.Proofs.YtodfphphidhjbaaGreat

namespace Go.Proofs.YtodfphphidhjbaaGreat
open Go.RowKit Go.Sort
def RS.new : RS := ⟨List.replicate 34 (List.replicate 64 0), []⟩
theorem made64z : madeL [Value.int .u8 0] 64 = bcells (List.replicate 64 0) := by kernel_rfl
set_option maxHeartbeats 1000000 in
theorem new3_any (w : World) : Calls Tryz.prog 16 #[] w fun e w' => ∃ b E, e = .returned (.pointer (some ⟨b, 0, none⟩)) ∧ R3E b RS.new E ∧ Mem w w' E := by
 have M := Mem.start w
 refine calls_enter Tryz.func16 rfl 20 rfl rfl ?_; intro a S
 refine nxD (qG [1] S ?_); clear S a; intro a S
 refine nxA (qY S (y_build (ps := []) (pl := [(0, 1), (1, 1), (2, 1)]) (z := [.slice none 0 0, .slice none 0 0, .bool false]) (cs := [_, _, _]) S (by kernel_rfl) rfl (rfl)) ?_); clear S a; intro a S
 refine st_box S M rfl rfl rfl #[_, _, _] rfl ?_; clear S M a; intro a w1 bD S M hB
 refine qG [1] S ?_; clear S a; intro a S
 refine nxC (wp_seq (nxD (qG [1] S ?_))); clear S a; intro a S
 refine nxC (wp_block (wp_loop_g (fun m a w' => ∃ (k : Nat) (su : List RB) (sa : Option Addr) (sc lo hi : Nat), k ≤ 34 ∧ m = 34 - k ∧ su.length = k ∧ (∀ x ∈ su, x.bs = List.replicate 64 0) ∧ Sees 20 a [(1, .pointer (some ⟨bD, 0, none⟩)), (2, .int .i64 (k : Int))] ∧ Mem w w' (rowE lo hi 57 1 (.slice sa k sc) k (su.map RB.val) :: .blk bD #[.slice sa k sc, .slice none 0 0, .bool false] 116 :: su.map RB.ent)) (34) ?_ ?_))
 ·skip
  exact ⟨0, [], _, _, _, _, Nat.zero_le _, rfl, rfl, fun x hx => absurd hx (by simp), S.sub _ rfl, M.rowNil 57 1⟩
 clear S M a; intro m a wl
 rintro ⟨k, su, sa, sc, lo, hi, hk, rfl, hsu, hz, S, M⟩
 refine wp_seq (nxD (qG [1, 1] S ?_)); clear S a; intro a S
 refine nxC (st_fi (t := 6) S rfl ?_ ?_)
 ·clear S; intro h6 S
  refine st_condF S rfl (wp_exit (then_exit (then_exit (block_hit (nxE (qG [1, 1] S ?_)))))); clear S a; intro a S
  refine nxC (wp_ret (end_one S rfl (res_tmp rfl) ?_))
  obtain rfl : k = 34 := by omega
  obtain ⟨lo9, hi9, M1⟩ := M.nilRow 133 2
  refine ⟨bD, _, rfl, ⟨⟨sa, sc, lo, hi, none, 0, lo9, hi9, su, [], su⟩, ⟨hsu, fun x hx => ⟨hx, by rw [hz x hx]; rfl⟩, fun x hx => absurd hx (by simp)⟩, ?_, rfl⟩, ?_⟩
  ·unfold RS.new R3.st
   have : su.map RB.bs = List.replicate 34 (List.replicate 64 0) := by
    rw [List.eq_replicate_iff]
    exact ⟨by rw [List.length_map, hsu], fun y hy => by obtain ⟨x, hx, rfl⟩ := List.mem_map.1 hy; exact hz x hx⟩
   simp [this]
  ·show Mem _ _ (.blk bD #[.slice sa su.length sc, .slice none 0 0, .bool false] _ :: rowE lo hi _ 1 (.slice sa su.length sc) su.length (su.map RB.val) :: rowE lo9 hi9 _ 2 (.slice none 0 0) 0 [] :: _)
   rw [hsu]
   exact M1.perm (List.Perm.trans (List.perm_middle (l₁ := [_, _])).symm (List.Perm.swap _ _ _) |>.symm)
 clear S; intro h6 S
 refine st_condT S rfl (wp_skip (then_normal (wp_seq (wp_block (wp_regionK [7, 10] #[false, false, false, false, false, false, false, false, false, false, false] rfl M (by kernel_rfl) ?_))))); clear M; intro w2 M
 refine k_pure 0 S rfl (fun w => y_move S rfl) ?_; clear S a; intro a S
 refine k_pure 1 S rfl (fun w => y_move S rfl) ?_; clear S a; intro a S
 refine k_pure 2 S rfl (fun w => y_nilCheck S rfl) ?_; clear S a; intro a S
 refine k_pure 3 S rfl (fun w => y_fieldAddr (k := 0) S (by kernel_rfl) rfl) ?_; clear S a; intro a S
 refine k_read 4 S rfl (fun w hW => have M := M.grow hW; y_load S (by kernel_rfl) rfl (M.cell 1 rfl rfl)) ?_; clear S a; intro a S
 refine k_one 5 rfl (by kernel_rfl) ?_
 refine st_make (e := 5) (sz := 1) (by_ := 1) (zc := [.int .u8 0]) S M rfl rfl (by kernel_rfl) rfl rfl (by omega) (by omega) (by omega) (by omega) ?_; clear S M a; intro a w3 bN S M hB
 try simp only [Int.toNat_natCast, Int.reduceToNat, Nat.reduceMul] at S M
 refine wpList_nil ?_; refine then_normal ?_; refine ⟨fun _ => hB, ?_⟩
 refine k_one 6 rfl (by kernel_rfl) ?_
 refine st_lit (ps := [(0, .tmp 14)]) (e := 57) (sz := 1) (zl := [.slice none 0 0]) (cs := [_]) S M rfl rfl (by kernel_rfl) rfl (rfl) ?_; clear S M a; intro a w4 bZ S M hB
 refine wpList_nil ?_; refine then_normal ?_; refine ⟨fun _ => hB, ?_⟩
 refine k_one 7 rfl (by kernel_rfl) ?_
 refine st_append (e := 57) (sz := 1) (by_ := 24) (zc := [.slice none 0 0]) S M 2 rfl rfl (by kernel_rfl) rfl (by decide) rfl rfl rfl (show Rd _ _ _ 1 _ 1 [Value.slice (some ⟨bN, 0, none⟩) 64 64] from M.sliceAt 0 rfl (M.cellsAt (k := 1) 0 rfl rfl) rfl (Nat.le_refl _) (by unfold maxLen; omega)) (rfl) (by omega) (by unfold maxLen; omega) ?_; clear S M a; intro a w5 vA loA hiA S M
 refine wpList_nil ?_; refine then_normal ?_; refine ⟨fun h => absurd h (by decide), ?_⟩
 obtain ⟨aA, cA, rfl, -, -⟩ := (M.readAll 0 rfl (by unfold maxLen; omega)).form
 refine k_pure 8 S rfl (fun w => y_nilCheck S rfl) ?_; clear S a; intro a S
 refine k_pure 9 S rfl (fun w => y_fieldAddr (k := 0) S (by kernel_rfl) rfl) ?_; clear S a; intro a S
 refine k_one 10 rfl (by kernel_rfl) ?_
 refine qS (sz := 1) (us := [_]) S M 3 ?_; clear M; intro w6 M
 refine wpList_nil ?_; refine then_normal ?_; refine ⟨fun h => absurd h (by decide), ?_⟩
 refine k_end (by kernel_rfl) ?_
 refine block_normal (nxF (qG [1] S ?_)); clear S a; intro a S
 (first | refine qY S (y_addN S rfl rfl (by omega)) ?_ | refine qY S (y_int S rfl rfl rfl) ?_); clear S a; intro a S
 refine qG [1] S ?_; clear S a; intro a S
 replace S := S.keep [1, 6, 2]
 refine nxC ?_
 replace M := M.ord [3, 1, 3] (by simp only [ordO, oG, oS, oE, oZ, oB] <;> rfl)
 replace M := M.drop 3
 simp only [List.eraseIdx_cons_succ, List.eraseIdx_cons_zero] at M
 rw [made64z] at M
 have M5 := M.toRow (sz := 1) (m := 64) (cap := 64) (xs := bcells (List.replicate 64 0)) 0 rfl (by kernel_rfl) (by omega) (by decide) (by kernel_rfl) (by kernel_rfl)
 refine ⟨34 - (k + 1), by omega, k + 1, su ++ [⟨bN, bN + 1, some ⟨bN, 0, none⟩, 64, List.replicate 64 0⟩], aA, cA, loA, hiA, by omega, rfl, by simp [hsu], fun x hx => ?_, S.sub _ rfl, ?_⟩
 ·rcases List.mem_append.1 hx with h | h
  ·exact hz x h
  ·obtain rfl := List.mem_singleton.1 h; rfl
 ·rw [List.map_append, List.map_append]
  exact M5.perm ((List.perm_middle (l₁ := [_, _])).symm.trans (List.Perm.cons _ (List.Perm.cons _ (List.perm_append_comm (l₁ := [_])))))
end Go.Proofs.YtodfphphidhjbaaGreat

namespace Go.Proofs.YtodfphphidhjbaaGreat
open Go.RowKit Go.Sort
def RingOnly (S S' : RS) : Prop := S'.sure = S.sure ∧ ∃ l, S'.cache = S.cache ++ l ∧ ∀ x ∈ l, (2 ≤ x.1 ∧ x.1 < 26) ∧ x.2.length = 64
theorem RingOnly.refl (S : RS) : RingOnly S S := ⟨rfl, [], by simp, fun x hx => absurd hx (by simp)⟩
theorem RingOnly.trans {S T U : RS} (h : RingOnly S T) (k : RingOnly T U) : RingOnly S U := by
 obtain ⟨a, l, b, c⟩ := h
 obtain ⟨d, m, e, g⟩ := k
 refine ⟨d.trans a, l ++ m, by rw [e, b, List.append_assoc], fun x hx => ?_⟩
 rcases List.mem_append.1 hx with h | h
 ·exact c x h
 ·exact g x h
theorem RingOnly.write (S : RS) {n : Int} {bs : List UInt8} (h : 2 ≤ n ∧ n < 26) (hb : bs.length = 64) : RingOnly S (S.write n bs) :=
 ⟨rfl, [(n, bs)], rfl, fun x hx => by obtain rfl := List.mem_singleton.1 hx; exact ⟨h, hb⟩⟩
def App6P (wo : World) (A : List Ent) (b : Nat) (S : RS) (e : Ending) (w' : World) : Prop := ∃ (t' n' er : Int) (S' : RS) (E' : List Ent), e = .returned (.tuple #[.agg #[.int .i64 t', .int .i64 n'], .int .i64 er]) ∧ R3E b S' E' ∧ Mem wo w' (A ++ E') ∧ RingOnly S S' ∧ S'.cache.length ≤ S.cache.length + 2
set_option maxHeartbeats 2000000 in
theorem append6_any {wo w : World} {A E : List Ent} {b : Nat} {S0 : RS} (t n inc : Int) (ra : Option Addr) (rc : Nat) (bs : List UInt8) (hE : R3E b S0 E) (M : Mem wo w (A ++ E)) (hv : RdH wo A (.slice ra bs.length rc) bs) (hc : S0.cache.length ≤ 900) :
 Calls Tryz.prog 19 #[.pointer (some ⟨b, 0, none⟩), .agg #[.int .i64 t, .int .i64 n], .int .i64 inc, .slice ra bs.length rc] w (App6P wo A b S0) := by
 have hA : ∀ W, Mem wo W (A ++ E) → Bs 0 W.heap.size W (.slice ra bs.length rc) bs := fun W M => hv _ (M.sub (List.sublist_append_left _ _))
 refine calls_enter Tryz.func19 rfl 79 rfl rfl ?_; intro a S
 refine nxD (st_box S M rfl rfl rfl #[_, _] rfl ?_); clear S M a; intro a w1 bL S M hB
 refine st_alloc S M rfl rfl #[.int .i64 0, .int .i64 0] (by kernel_rfl) ?_; clear S M a; intro a w2 bR S M hB
 refine qG [1] S ?_; clear S a; intro a S
 refine nxC (wp_seq (nxD (qY S (y_loadAgg (cs := [_, _]) S (by kernel_rfl) rfl rfl (M.cellsAt (k := 2) 1 rfl rfl)) ?_))); clear S a; intro a S
 refine qQ (xs := [.tmp 19]) S (qE Tryz.func51) rfl (may5_any t n _) M ?_; clear S M a; intro a w3 S hK M
 refine qG [1] S ?_; clear S a; intro a S
 refine nxC (st_if (t := 21) S rfl ?_ ?_)
 ·clear S; intro h21 S
  refine st_condT S rfl (nxD (qY S (y_loadAgg (cs := [_, _]) S (by kernel_rfl) rfl rfl (M.cellsAt (k := 2) 1 rfl rfl)) ?_)); clear S a; intro a S
  refine qS (sz := 2) (us := [_, _]) S M 0 ?_; clear M; intro w4 M
  refine qG [1] S ?_; clear S a; intro a S
  refine nxC (wp_ret (then_ret (end_two S rfl (res_agg (cs := [_, _]) (by kernel_rfl) rfl rfl (M.cellsAt (k := 2) 0 rfl rfl)) (res_tmp rfl) ?_)))
  exact ⟨_, _, _, S0, E, rfl, hE, (M.drop 0).drop 0, .refl S0, by omega⟩
 clear S; intro h21 S
 refine st_condF S rfl (wp_skip (then_normal (wp_seq ?_)))
 have hml : mayL t n := by first | omega | (rename_i hq _; simpa using hq)
 have hml' := hml
 unfold mayL at hml'
 refine wp_region_lit (qR [1, 2, 2, 1] S M ?_); clear S a; intro a S
 refine qC (xs := [.tmp 24, .tmp 26, .tmp 27]) S (qE Tryz.func52) rfl (cut4_any ra rc bs n inc _ (hA _ ((M.drop 0).drop 0))) ?_
 rintro _ w5 ⟨vc, rfl, hK, cs, hF⟩; refine ⟨_, rfl, ?_⟩; clear S a; intro a S
 obtain ⟨lo, hi2, hlo, M2⟩ := M.pushFrs hK hF; clear M; have M := M2; clear M2
 refine qG [1, 1, 1, 1, 1] S ?_; clear S a; intro a S
 refine nxC (wp_seq (nxD (qG [1, 1] S ?_))); clear S a; intro a S
 refine nxC (st_split (t := 32) S rfl ?_ ?_)
 ·clear S; intro h32 S
  refine st_condT S rfl (nxD (qY S (y_loadAgg (cs := [_, _]) S (by kernel_rfl) rfl rfl (M.cellsAt (k := 2) 2 rfl rfl)) ?_)); clear S a; intro a S
  refine qG [1] S ?_; clear S a; intro a S
  refine qS (sz := 2) (us := [_, _]) S M 1 ?_; clear M; intro w6 M
  refine qG [1] S ?_; clear S a; intro a S
  replace S := S.keep [0, 1, 2, 3, 5, 8, 21, 10, 11, 32, 9]
  refine nxC (wp_ret (then_ret (end_two S rfl (res_agg (cs := [_, _]) (by kernel_rfl) rfl rfl (M.cellsAt (k := 2) 1 rfl rfl)) (res_tmp rfl) ?_)))
  exact ⟨_, _, _, S0, E, rfl, hE, ((M.drop 0).drop 0).drop 0, .refl S0, by omega⟩
 clear S; intro h32 S
 refine st_condF S rfl (wp_skip (then_normal (wp_seq ?_)))
 have hcok : cutOk bs n inc := by
  by_cases h : cutOk bs n inc
  ·exact h
  ·exfalso
   have h0 : cutE bs n inc ≠ 0 := by unfold cutE; rw [if_neg h]; split <;> omega
   simp [h0] at h32
 have hcl : (cutF bs n inc).length = nOf bs.length := by unfold cutF; simp
 have hcR : cutR bs n inc = cutF bs n inc := by unfold cutR; rw [if_pos hcok]
 rw [hcR] at M
 have hn2 : nOf bs.length ≤ 2 := by have := hcok.2.2.2.1; unfold nOf; omega
 have hF0 := (M.own 0 rfl)
 obtain ⟨va, vcp, rfl, -, -⟩ := (hF0.1).form
 rw [hcl] at S M
 refine wp_region_lit (qY S (y_loadAgg (cs := [_, _]) S (by kernel_rfl) rfl rfl (M.cellsAt (k := 2) 2 rfl rfl)) ?_); clear S a; intro a S
 refine qG [1] S ?_; clear S a; intro a S
 refine qY S (y_lenS (E := 130) S rfl (by kernel_rfl)) ?_; clear S a; intro a S
 refine qC (xs := [.tmp 36, .tmp 38]) S (qE Tryz.func53) rfl (take5_any t n (nOf bs.length) _ hml (by omega)) ?_
 rintro _ w7 ⟨er, x, y, tv, rfl, hK2, hT⟩; refine ⟨_, rfl, ?_⟩; clear S a; intro a S; replace M := M.grow hK2
 refine qG [1, 1, 1, 1] S ?_; clear S a; intro a S
 refine st_alloc S M rfl rfl #[.int .i64 0, .int .i64 0] (by kernel_rfl) ?_; clear S M a; intro a w8 bT S M hB
 refine qS (sz := 2) (us := [_, _]) S M 0 ?_; clear M; intro w9 M
 refine qG [1, 1] S ?_; clear S a; intro a S
 replace S := S.keep [0, 1, 2, 3, 5, 8, 9, 21, 10, 32, 12, 11]
 refine nxC (wp_seq (nxD (qG [1, 1] S ?_))); clear S a; intro a S
 refine nxC (st_if (t := 44) S rfl ?_ ?_)
 ·clear S; intro h44 S
  refine st_condT S rfl (nxD (qY S (y_loadAgg (cs := [_, _]) S (by kernel_rfl) rfl rfl (M.cellsAt (k := 2) 3 rfl rfl)) ?_)); clear S a; intro a S
  refine qG [1] S ?_; clear S a; intro a S
  refine qS (sz := 2) (us := [_, _]) S M 2 ?_; clear M; intro w10 M
  refine qG [1] S ?_; clear S a; intro a S
  refine nxC (wp_ret (then_ret (end_two S rfl (res_agg (cs := [_, _]) (by kernel_rfl) rfl rfl (M.cellsAt (k := 2) 2 rfl rfl)) (res_tmp rfl) ?_)))
  exact ⟨_, _, _, S0, E, rfl, hE, (((M.drop 0).drop 0).drop 0).drop 0, .refl S0, by omega⟩
 clear S; intro h44 S
 refine st_condF S rfl (wp_skip (then_normal (wp_seq (nxD (qG [1] S ?_))))); clear S a; intro a S
 refine nxC (wp_block (wp_loop_g (fun m a w' => ∃ (i : Nat) (S1 : RS) (E1 : List Ent), i ≤ nOf bs.length ∧ m = nOf bs.length - i ∧ R3E b S1 E1 ∧ RingOnly S0 S1 ∧ S1.cache.length ≤ S0.cache.length + i ∧ Sees 79 a [(0, .pointer (some ⟨b, 0, none⟩)), (5, .pointer (some ⟨bL, 0, none⟩)), (8, .pointer (some ⟨bR, 0, none⟩)), (10, .slice va (nOf bs.length) vcp), (12, .pointer (some ⟨bT, 0, none⟩)), (14, .int .i64 (i : Int))] ∧ Mem wo w' ([.blk bT #[.int .i64 x, .int .i64 y] 33, .own lo hi2 (fun w => FrsC cs lo hi2 w (.slice va (nOf bs.length) vcp) (cutF bs n inc)), .blk bR #[.int .i64 0, .int .i64 0] 33, .blk bL #[.int .i64 t, .int .i64 n] 33] ++ A ++ E1)) (nOf bs.length) ?_ ?_))
 ·skip
  exact ⟨0, S0, E, Nat.zero_le _, rfl, hE, .refl S0, by omega, S.sub _ rfl, M⟩
 clear S M a; intro m a wl
 rintro ⟨i, S1, E1, hi', rfl, hE1, hR1, hl1, S, M⟩
 simp only [List.cons_append, List.nil_append] at M
 refine wp_seq (nxD (qG [1, 1] S ?_)); clear S a; intro a S
 refine qY S (y_lenS (E := 130) S rfl (by kernel_rfl)) ?_; clear S a; intro a S
 refine qG [1] S ?_; clear S a; intro a S
 refine nxC (st_fi (t := 50) S rfl ?_ ?_)
 ·clear S; intro h50 S
  refine st_condF S rfl (wp_exit (then_exit (then_exit (block_hit (nxE (qY S (y_loadAgg (cs := [_, _]) S (by kernel_rfl) rfl rfl (M.cellsAt (k := 2) 0 rfl rfl)) ?_)))))); clear S a; intro a S
  refine qS (sz := 2) (us := [_, _]) S M 2 ?_; clear M; intro w15 M
  refine qG [1] S ?_; clear S a; intro a S
  refine nxC (wp_ret (end_two S rfl (res_agg (cs := [_, _]) (by kernel_rfl) rfl rfl (M.cellsAt (k := 2) 2 rfl rfl)) (res_tmp rfl) ?_))
  exact ⟨_, _, _, S1, E1, rfl, hE1, (((M.drop 0).drop 0).drop 0).drop 0, hR1, by omega⟩
 clear S; intro h50 S
 refine st_condT S rfl (wp_skip (then_normal (wp_seq (wp_block (wp_seq ?_)))))
 have hlt : i < nOf bs.length := by omega
 have hF1 := M.own 1 rfl
 obtain ⟨f, ld, hfi⟩ : ∃ f ld, (cutF bs n inc)[i]? = some (f, ld) := ⟨_, _, List.getElem?_eq_getElem (by omega)⟩
 obtain ⟨lv, hrow, hlv0⟩ := hF1.2 i f ld hfi
 have hfs : f.seq = n + (i : Int) := by
  have h9 := hfi
  unfold cutF at h9
  rw [List.getElem?_map, List.getElem?_range hlt] at h9
  have h8 := Option.some.inj h9
  exact (congrArg (fun z : FrB => z.1.seq) h8).symm
 have hsq := hcok.2.1
 have hsq2 := hcok.2.2.2.2
 have hpe : plE f.seq = 0 := by unfold plE; rw [if_pos (by omega)]
 have hpv : plV f.seq = 2 + f.seq % 24 := by unfold plV; rw [if_pos (by omega)]
 obtain ⟨la, lc, rfl, -, -⟩ := hlv0.form
 refine wp_region_lit (qG [1, 1] S ?_); clear S a; intro a S
 refine qY S (y_indexR (e := 130) (sz := 6) S (by kernel_rfl) rfl ((by have h := (M.own 1 rfl).1.wide (Nat.zero_le _) (M.fits _ (List.mem_of_getElem? (show _[1]? = _ from rfl))).2; rw [hcl] at h; exact h)) rfl (by first | omega | (simp; done) | (simp; omega))) ?_; clear S a; intro a S
 try simp only [Int.toNat_natCast, Nat.mul_one, Nat.zero_add] at S
 refine qG [1] S ?_; clear S a; intro a S
 refine qY S (y_load S (by kernel_rfl) rfl (((M.own 1 rfl).row hfi hrow).1 0 (show 0 < 6 by omega))) ?_; clear S a; intro a S
 refine qQ (xs := [.tmp 58]) S (qE Tryz.func54) rfl (place5_any f.seq _) M ?_; clear S M a; intro a w11 S hK M
 refine qG [1] S ?_; clear S a; intro a S
 rw [hpe, hpv] at S
 refine qY S (y_extract S rfl rfl) ?_; clear S a; intro a S
 refine qG [1, 1, 1] S ?_; clear S a; intro a S
 refine nxA (qG [1, 1] S ?_); clear S a; intro a S
 refine qY S (y_indexR (e := 130) (sz := 6) S (by kernel_rfl) rfl ((by have h := (M.own 1 rfl).1.wide (Nat.zero_le _) (M.fits _ (List.mem_of_getElem? (show _[1]? = _ from rfl))).2; rw [hcl] at h; exact h)) rfl (by first | omega | (simp; done) | (simp; omega))) ?_; clear S a; intro a S
 try simp only [Int.toNat_natCast, Nat.mul_one, Nat.zero_add] at S
 refine qY S (y_loadAgg S (by kernel_rfl) rfl rfl (((M.own 1 rfl).row hfi hrow).1)) ?_; clear S a; intro a S
 refine qC (xs := [.tmp 66]) S (qE Tryz.func55) rfl (refBytes_any f (.slice la ld.length lc) ld _ (((M.own 1 rfl).row hfi hrow).2.wide (Nat.zero_le _) (M.fits _ (List.mem_of_getElem? (show _[1]? = _ from rfl))).2)) ?_
 rintro _ w12 hP; obtain ⟨vb, lob, hib, rfl, hK, M2⟩ := bytes_uni M hP; refine ⟨_, rfl, ?_⟩; clear S M a; intro a S; have M := M2; clear M2
 have hbl := ifL_bytesF f ld
 generalize ifL (f.may ld.length = true) (bytesF f ld) = bb at M hbl
 obtain ⟨ba, bc, rfl, -, -⟩ := (M.readAll 0 rfl (by unfold maxLen; omega)).form
 refine qG [1, 1, 1, 1, 1] S ?_; clear S a; intro a S
 replace S := S.keep [0, 5, 8, 10, 12, 14, 50, 15, 17]
 refine nxA (qG [1, 1, 1] S ?_); clear S a; intro a S
 refine qC (xs := [.tmp 70, .tmp 71, .tmp 72]) S (qE Tryz.func49) rfl (write3_any (A := _ :: _ :: _ :: _ :: _ :: A) (2 + f.seq % 24) ba bc bb hE1 M (fun W M => M.readAll 0 rfl (by unfold maxLen; omega)) (by omega)) ?_
 rintro _ w13 ⟨er2, S2, E2, rfl, hE2, M2, hS2⟩; refine ⟨_, rfl, ?_⟩; clear S M a; intro a S; have M := M2; clear M2
 simp only [List.cons_append, List.nil_append] at M
 have hR2 : RingOnly S1 S2 ∧ S2.cache.length ≤ S1.cache.length + 1 := by
  rcases hS2 with ⟨-, h1, rfl⟩ | ⟨-, -, rfl⟩
  ·exact ⟨RingOnly.write S1 (by omega) (pad64_len (by omega)), by unfold RS.write; simp⟩
  ·exact ⟨.refl _, Nat.le_succ _⟩
 refine qG [1] S ?_; clear S a; intro a S
 refine nxA (qG [1, 1] S ?_); clear S a; intro a S
 refine nxC (st_fi (t := 75) S rfl ?_ ?_)
 ·clear S; intro h75 S
  refine st_condF S rfl (wp_skip (block_normal (nxF (qG [1] S ?_)))); clear S a; intro a S
  (first | refine qY S (y_addN S rfl rfl (by omega)) ?_ | refine qY S (y_int S rfl rfl rfl) ?_); clear S a; intro a S
  refine qG [1] S ?_; clear S a; intro a S
  refine nxC ?_
  skip
  replace M := M.drop 0
  simp only [List.eraseIdx_cons_succ, List.eraseIdx_cons_zero] at M
  exact ⟨nOf bs.length - (i + 1), by omega, i + 1, S2, E2, by omega, rfl, hE2, hR1.trans hR2.1, by omega, S.sub _ rfl, M⟩
 clear S; intro h75 S
 refine st_condT S rfl (nxD (qY S (y_loadAgg (cs := [_, _]) S (by kernel_rfl) rfl rfl (M.cellsAt (k := 2) 4 rfl rfl)) ?_)); clear S a; intro a S
 refine qG [1] S ?_; clear S a; intro a S
 refine qS (sz := 2) (us := [_, _]) S M 3 ?_; clear M; intro w14 M
 refine qG [1] S ?_; clear S a; intro a S
 refine nxC (wp_ret (block_ret (then_ret (then_ret (block_ret (then_ret (end_two S rfl (res_agg (cs := [_, _]) (by kernel_rfl) rfl rfl (M.cellsAt (k := 2) 3 rfl rfl)) (res_tmp rfl) ?_)))))))
 exact ⟨_, _, _, S2, E2, rfl, hE2, ((((M.drop 0).drop 0).drop 0).drop 0).drop 0, hR1.trans hR2.1, by omega⟩
end Go.Proofs.YtodfphphidhjbaaGreat

namespace Go.Proofs.YtodfphphidhjbaaGreat
open Go.RowKit Go.Sort
def followsP (l : List FrB) (f : Fr) : Bool := match l with
 | [] => f.part == 0
 | g :: _ => f.part == (l.length : Int) && f.of == g.1.of && f.mark == g.1.mark && f.inc == g.1.inc
theorem goodP_eq (s : Sc) (f : Fr) : goodP s f = (f.seq == s.seq && !decide (f.inc < s.inc) && followsP s.begun f) := rfl
theorem follows_any (va : Option Addr) (vc n : Nat) (cs : List Value) (fs : List FrB) (f : Fr) (lv : Value) (w : World) (hn : n = fs.length) (hv : FrsC cs 0 w.heap.size w (.slice va n vc) fs) :
 Calls Tryz.prog 75 #[.slice va n vc, .agg (f.cells lv).toArray] w fun e w' => e = .returned (.bool (followsP fs f)) ∧ Below w.heap.size w w' := by
 subst hn
 have M := Mem.start w
 have hl := hv.1.2.1
 unfold maxLen at hl
 refine calls_enter Tryz.func75 rfl 44 rfl rfl ?_; intro a S
 refine nxD (st_box S M rfl rfl rfl #[_, _, _, _, _, _] rfl ?_); clear S M a; intro a w1 bX S M hB
 refine qG [1] S ?_; clear S a; intro a S
 refine nxA (qG [1] S ?_); clear S a; intro a S
 refine qY S (y_lenR (E := 130) S rfl ((M.frs hv).1) (by kernel_rfl)) ?_; clear S a; intro a S
 refine qG [1] S ?_; clear S a; intro a S
 refine nxC (wp_seq (nxD (qG [1, 1] S ?_))); clear S a; intro a S
 refine nxC (st_if (t := 9) S rfl ?_ ?_)
 ·clear S; intro h9 S
  refine st_condT S rfl (nxD (qR [3, 1, 1, 1] S M ?_)); clear S a; intro a S
  refine nxC (wp_ret (then_ret (end_one S rfl (res_tmp rfl) ?_)))
  refine ⟨ret_bool ?_, M.below⟩; clear S M
  obtain rfl : fs = [] := List.eq_nil_of_length_eq_zero (by omega)
  unfold followsP; simp
 clear S; intro h9 S
 refine st_condF S rfl (wp_skip (then_normal (wp_seq ?_)))
 obtain ⟨⟨g, gs⟩, hx0⟩ : ∃ x, fs[0]? = some x := ⟨_, List.getElem?_eq_getElem (by omega)⟩
 obtain ⟨lv0, hrow0, hlv0⟩ := hv.2 0 g gs hx0
 refine wp_quiet M (by kernel_rfl) (by kernel_rfl) ?_
 refine qt_y S rfl rfl rfl (fun w M => y_fieldAddr (k := 2) S (by kernel_rfl) rfl) ?_; clear S a; intro a S
 refine qt_y S rfl rfl rfl (fun w M => y_load S (by kernel_rfl) rfl (M.cell 0 rfl rfl)) ?_; clear S a; intro a S
 refine qt_y S rfl rfl rfl (fun w M => y_move S rfl) ?_; clear S a; intro a S
 refine qt_y S rfl rfl rfl (fun w M => y_int S rfl rfl rfl) ?_; clear S a; intro a S
 refine qt_y S rfl rfl rfl (fun w M => y_move S rfl) ?_; clear S a; intro a S
 refine st_fi (t := 17) S rfl ?_ ?_
 ·clear S; intro h17 S
  refine qt_skip 7 S rfl ?_; clear S a; intro a S
  refine qt_y S rfl rfl rfl (fun w M => y_pickF S rfl rfl) ?_; clear S a; intro a S
  refine qt_y S rfl rfl rfl (fun w M => y_move S rfl) ?_; clear S a; intro a S
  refine qt_skip 7 S rfl ?_; clear S a; intro a S
  refine qt_y S rfl rfl rfl (fun w M => y_pickF S rfl rfl) ?_; clear S a; intro a S
  refine qt_y S rfl rfl rfl (fun w M => y_move S rfl) ?_; clear S a; intro a S
  refine qt_skip 7 S rfl ?_; clear S a; intro a S
  refine qt_y S rfl rfl rfl (fun w M => y_pickF S rfl rfl) ?_; clear S a; intro a S
  refine qt_y S rfl rfl rfl (fun w M => y_assign S rfl) ?_; clear S a; intro a S
  refine wpQuiet_nil ?_; clear M; intro w5 M
  replace S := S.keep [0, 1, 3, 5, 9, 4]
  refine then_normal (wp_ret (end_one S rfl (res_tmp rfl) ?_))
  refine ⟨ret_bool ?_, M.below⟩; clear S M
  have hcons : fs = (g, gs) :: fs.drop 1 := by
   cases hf : fs with
   | nil => rw [hf] at hx0; cases hx0
   | cons x t => rw [hf] at hx0; cases hx0; rfl
  have hfo : followsP fs f = (f.part == (fs.length : Int) && f.of == g.of && f.mark == g.mark && f.inc == g.inc) := by
   conv => lhs; rw [hcons]
   unfold followsP
   simp only
   rw [← hcons]
  rw [hfo]
  clear hcons hfo hv hlv0 hrow0 hl
  simp [*]
 clear S; intro h17 S
 refine qt_y S rfl rfl rfl (fun w M => y_fieldAddr (k := 3) S (by kernel_rfl) rfl) ?_; clear S a; intro a S
 refine qt_y S rfl rfl rfl (fun w M => y_load S (by kernel_rfl) rfl (M.cell 0 rfl rfl)) ?_; clear S a; intro a S
 refine qt_y S rfl rfl rfl (fun w M => y_move S rfl) ?_; clear S a; intro a S
 refine qt_y S rfl rfl rfl (fun w M => y_indexR (e := 130) (sz := 6) S (by kernel_rfl) rfl ((M.frs hv).1) rfl (by first | omega | (simp; done) | (simp; omega))) ?_; clear S a; intro a S
 refine qt_y S rfl rfl rfl (fun w M => y_fieldAddr (k := 3) S (by kernel_rfl) rfl) ?_; clear S a; intro a S
 refine qt_y S rfl rfl rfl (fun w M => y_load S (by kernel_rfl) rfl (((M.frs hv).row hx0 hrow0).1 3 (show 3 < 6 by omega))) ?_; clear S a; intro a S
 refine qt_y S rfl rfl rfl (fun w M => y_int S rfl rfl rfl) ?_; clear S a; intro a S
 refine qt_y S rfl rfl rfl (fun w M => y_pickT S rfl rfl) ?_; clear S a; intro a S
 refine qt_y S rfl rfl rfl (fun w M => y_move S rfl) ?_; clear S a; intro a S
 refine st_fi (t := 26) S rfl ?_ ?_
 ·clear S; intro h26 S
  refine qt_skip 7 S rfl ?_; clear S a; intro a S
  refine qt_y S rfl rfl rfl (fun w M => y_pickF S rfl rfl) ?_; clear S a; intro a S
  refine qt_y S rfl rfl rfl (fun w M => y_move S rfl) ?_; clear S a; intro a S
  refine qt_skip 7 S rfl ?_; clear S a; intro a S
  refine qt_y S rfl rfl rfl (fun w M => y_pickF S rfl rfl) ?_; clear S a; intro a S
  refine qt_y S rfl rfl rfl (fun w M => y_assign S rfl) ?_; clear S a; intro a S
  refine wpQuiet_nil ?_; clear M; intro w4 M
  replace S := S.keep [0, 1, 3, 5, 9, 4]
  refine then_normal (wp_ret (end_one S rfl (res_tmp rfl) ?_))
  refine ⟨ret_bool ?_, M.below⟩; clear S M
  have hcons : fs = (g, gs) :: fs.drop 1 := by
   cases hf : fs with
   | nil => rw [hf] at hx0; cases hx0
   | cons x t => rw [hf] at hx0; cases hx0; rfl
  have hfo : followsP fs f = (f.part == (fs.length : Int) && f.of == g.of && f.mark == g.mark && f.inc == g.inc) := by
   conv => lhs; rw [hcons]
   unfold followsP
   simp only
   rw [← hcons]
  rw [hfo]
  clear hcons hfo hv hlv0 hrow0 hl
  simp [*]
 clear S; intro h26 S
 refine qt_y S rfl rfl rfl (fun w M => y_fieldAddr (k := 4) S (by kernel_rfl) rfl) ?_; clear S a; intro a S
 refine qt_y S rfl rfl rfl (fun w M => y_load S (by kernel_rfl) rfl (M.cell 0 rfl rfl)) ?_; clear S a; intro a S
 refine qt_y S rfl rfl rfl (fun w M => y_move S rfl) ?_; clear S a; intro a S
 refine qt_y S rfl rfl rfl (fun w M => y_indexR (e := 130) (sz := 6) S (by kernel_rfl) rfl ((M.frs hv).1) rfl (by first | omega | (simp; done) | (simp; omega))) ?_; clear S a; intro a S
 refine qt_y S rfl rfl rfl (fun w M => y_fieldAddr (k := 4) S (by kernel_rfl) rfl) ?_; clear S a; intro a S
 refine qt_y S rfl rfl rfl (fun w M => y_load S (by kernel_rfl) rfl (((M.frs hv).row hx0 hrow0).1 4 (show 4 < 6 by omega))) ?_; clear S a; intro a S
 refine qt_y S rfl rfl rfl (fun w M => y_eql32 S rfl rfl) ?_; clear S a; intro a S
 refine qt_y S rfl rfl rfl (fun w M => y_pickT S rfl rfl) ?_; clear S a; intro a S
 refine qt_y S rfl rfl rfl (fun w M => y_move S rfl) ?_; clear S a; intro a S
 refine st_fi (t := 35) S rfl ?_ ?_
 ·clear S; intro h35 S
  refine qt_skip 7 S rfl ?_; clear S a; intro a S
  refine qt_y S rfl rfl rfl (fun w M => y_pickF S rfl rfl) ?_; clear S a; intro a S
  refine qt_y S rfl rfl rfl (fun w M => y_assign S rfl) ?_; clear S a; intro a S
  refine wpQuiet_nil ?_; clear M; intro w3 M
  replace S := S.keep [0, 1, 3, 5, 9, 4]
  refine then_normal (wp_ret (end_one S rfl (res_tmp rfl) ?_))
  refine ⟨ret_bool ?_, M.below⟩; clear S M
  have hcons : fs = (g, gs) :: fs.drop 1 := by
   cases hf : fs with
   | nil => rw [hf] at hx0; cases hx0
   | cons x t => rw [hf] at hx0; cases hx0; rfl
  have hfo : followsP fs f = (f.part == (fs.length : Int) && f.of == g.of && f.mark == g.mark && f.inc == g.inc) := by
   conv => lhs; rw [hcons]
   unfold followsP
   simp only
   rw [← hcons]
  rw [hfo]
  clear hcons hfo hv hlv0 hrow0 hl
  simp [*]
 clear S; intro h35 S
 refine qt_y S rfl rfl rfl (fun w M => y_fieldAddr (k := 1) S (by kernel_rfl) rfl) ?_; clear S a; intro a S
 refine qt_y S rfl rfl rfl (fun w M => y_load S (by kernel_rfl) rfl (M.cell 0 rfl rfl)) ?_; clear S a; intro a S
 refine qt_y S rfl rfl rfl (fun w M => y_move S rfl) ?_; clear S a; intro a S
 refine qt_y S rfl rfl rfl (fun w M => y_indexR (e := 130) (sz := 6) S (by kernel_rfl) rfl ((M.frs hv).1) rfl (by first | omega | (simp; done) | (simp; omega))) ?_; clear S a; intro a S
 refine qt_y S rfl rfl rfl (fun w M => y_fieldAddr (k := 1) S (by kernel_rfl) rfl) ?_; clear S a; intro a S
 refine qt_y S rfl rfl rfl (fun w M => y_load S (by kernel_rfl) rfl (((M.frs hv).row hx0 hrow0).1 1 (show 1 < 6 by omega))) ?_; clear S a; intro a S
 refine qt_y S rfl rfl rfl (fun w M => y_int S rfl rfl rfl) ?_; clear S a; intro a S
 refine qt_y S rfl rfl rfl (fun w M => y_pickT S rfl rfl) ?_; clear S a; intro a S
 refine qt_y S rfl rfl rfl (fun w M => y_assign S rfl) ?_; clear S a; intro a S
 refine wpQuiet_nil ?_; clear M; intro w2 M
 replace S := S.keep [0, 1, 3, 5, 9, 4]
 refine then_normal (wp_ret (end_one S rfl (res_tmp rfl) ?_))
 refine ⟨ret_bool ?_, M.below⟩; clear S M
 have hcons : fs = (g, gs) :: fs.drop 1 := by
  cases hf : fs with
  | nil => rw [hf] at hx0; cases hx0
  | cons x t => rw [hf] at hx0; cases hx0; rfl
 have hfo : followsP fs f = (f.part == (fs.length : Int) && f.of == g.of && f.mark == g.mark && f.inc == g.inc) := by
  conv => lhs; rw [hcons]
  unfold followsP
  simp only
  rw [← hcons]
 rw [hfo]
 clear hcons hfo hv hlv0 hrow0 hl
 simp [*]
def secR (S : RS) (tail : Int) (i : Nat) : List UInt8 := S.get (2 + (tail + i) % 24)
def secsR (S : RS) (tail : Int) : List (List UInt8) := (List.range (secN tail)).map (secR S tail)
theorem join4_n (va : Option Addr) (vc n : Nat) (cs : List Value) (fs : List FrB) (w : World) (hn : n = fs.length) (hv : FrsC cs 0 w.heap.size w (.slice va n vc) fs) (hbig : ∀ x ∈ fs, x.2.length ≤ 1000) : Calls Tryz.prog 76 #[.slice va n vc] w (JoinPost fs w) := by
 subst hn; exact join4_any va vc cs fs w hv hbig
def rcT (A E : List Ent) (fs : List FrM) (ls : List FdM) : List Ent := (fs.map (fun p => p.2.ent) ++ (ls.map (fun p => p.2.ent) ++ A)) ++ E
structure RcI (S : RS) (tail : Int) (i : Nat) (s : Sc) (fs : List FrM) (ls : List FdM) : Prop where
 seq : s.seq = tail + (i : Int)
 begun : s.begun = fs.map FrM.pl
 l : s.l = ls.map FdM.pl
 may : ∀ p ∈ fs, p.1.may p.2.bs.length = true
 short : ∀ p ∈ ls, p.2.bs.length ≤ 90
 fl : fs.length ≤ i
 ll : ls.length ≤ i
 run : i ≤ secN tail ∧ ∀ t, scanP (sc0 tail) ((secsR S tail).take i ++ t) = scanP s t
theorem secsR_at {S : RS} {tail : Int} {i : Nat} (h : i < secN tail) : secsR S tail = (secsR S tail).take i ++ secR S tail i :: (secsR S tail).drop (i + 1) := by
 have hl : (secsR S tail).length = secN tail := by simp [secsR]
 have h1 : (secsR S tail)[i]? = some (secR S tail i) := by unfold secsR; rw [List.getElem?_map, List.getElem?_range h]; rfl
 conv => lhs; rw [← List.take_append_drop i (secsR S tail)]
 congr 1
 obtain ⟨hlt, he⟩ := List.getElem?_eq_some_iff.1 h1
 rw [List.drop_eq_getElem_cons hlt, he]
def RcE (S : RS) (tail : Int) (ls : List FdM) (nx : Int) : Prop := (scanP (sc0 tail) (secsR S tail)).l = ls.map FdM.pl ∧ (scanP (sc0 tail) (secsR S tail)).next = nx ∧ (∀ p ∈ ls, p.2.bs.length ≤ 90) ∧ ls.length ≤ 24
theorem RcI.stop {S : RS} {tail : Int} {i : Nat} {s s2 : Sc} {fs : List FrM} {ls : List FdM} (h : RcI S tail i s fs ls) (hi : i < secN tail) (hs : stepP s (secR S tail i) = (s2, false)) (h1 : s2.l = s.l) (h2 : s2.next = s.next) (h24 : i ≤ 24) : RcE S tail ls s.next := by
 have e : scanP (sc0 tail) (secsR S tail) = s2 := by
  rw [secsR_at hi, h.run.2, scanP_cons, hs]; rfl
 unfold RcE
 rw [e, h1, h2]
 exact ⟨h.l, rfl, h.short, Nat.le_trans h.ll h24⟩
theorem RcI.over {S : RS} {tail : Int} {i : Nat} {s : Sc} {fs : List FrM} {ls : List FdM} (h : RcI S tail i s fs ls) (hi : i = secN tail) (h24 : i ≤ 24) : RcE S tail ls s.next := by
 have e : scanP (sc0 tail) (secsR S tail) = s := by
  have := h.run.2 []
  rw [List.append_nil, List.take_of_length_le (by simp [secsR, hi])] at this
  exact this
 unfold RcE
 rw [e]
 exact ⟨h.l, rfl, h.short, Nat.le_trans h.ll h24⟩
theorem RcI.start (S : RS) (tail : Int) : RcI S tail 0 (sc0 tail) [] [] := ⟨by simp [sc0], rfl, rfl, fun p hp => absurd hp (by simp), fun p hp => absurd hp (by simp), Nat.le_refl _, Nat.le_refl _, Nat.zero_le _, fun t => rfl⟩
theorem RcI.go {S : RS} {tail : Int} {i : Nat} {s s2 : Sc} {fs fs2 : List FrM} {ls ls2 : List FdM} (h : RcI S tail i s fs ls) (hi : i < secN tail) (hs : stepP s (secR S tail i) = (s2, true)) (hq : s2.seq = s.seq + 1) (hb : s2.begun = fs2.map FrM.pl) (hl : s2.l = ls2.map FdM.pl) (hm : ∀ p ∈ fs2, p.1.may p.2.bs.length = true) (hsh : ∀ p ∈ ls2, p.2.bs.length ≤ 90) (h1 : fs2.length ≤ i + 1) (h2 : ls2.length ≤ i + 1) : RcI S tail (i + 1) s2 fs2 ls2 := by
 refine ⟨by rw [hq, h.seq]; omega, hb, hl, hm, hsh, h1, h2, hi, fun t => ?_⟩
 have e : (secsR S tail).take (i + 1) = (secsR S tail).take i ++ [secR S tail i] := by
  have h1 : (secsR S tail)[i]? = some (secR S tail i) := by unfold secsR; rw [List.getElem?_map, List.getElem?_range hi]; rfl
  rw [List.take_add_one, h1]; rfl
 rw [e, List.append_assoc, List.singleton_append, h.run.2, scanP_cons, hs]; rfl
end Go.Proofs.YtodfphphidhjbaaGreat

namespace Go.Proofs.YtodfphphidhjbaaGreat
open Go.RowKit Go.Sort
theorem rcSub (A E : List Ent) (fs : List FrM) (ls : List FdM) : (ls.map (fun p => p.2.ent) ++ (A ++ E)).Sublist (rcT A E fs ls) := by
 unfold rcT
 rw [← List.append_assoc]
 exact List.Sublist.append_right (List.sublist_append_right _ _) E
theorem rcPermF {A E : List Ent} {fs : List FrM} {ls : List FdM} {f : Fr} {r : RB} {a b c d : Ent} : (a :: r.ent :: b :: c :: d :: rcT A E fs ls).Perm (a :: b :: c :: d :: rcT A E (fs ++ [((f, r) : FrM)]) ls) := by
 refine List.Perm.cons _ ?_
 have h1 : rcT A E (fs ++ [((f, r) : FrM)]) ls = fs.map (fun p => p.2.ent) ++ r.ent :: ((ls.map (fun p => p.2.ent) ++ A) ++ E) := by unfold rcT; simp
 have h2 : rcT A E fs ls = fs.map (fun p => p.2.ent) ++ ((ls.map (fun p => p.2.ent) ++ A) ++ E) := by unfold rcT; simp
 rw [h1, h2]
 refine List.Perm.trans ?_ (List.Perm.cons _ (List.Perm.cons _ (List.Perm.cons _ List.perm_middle.symm)))
 exact (List.perm_middle (l₁ := [b, c, d])).symm
theorem rcPermO {A E : List Ent} {ls : List FdM} {q : Int} {r : RB} {a c d : Ent} : (a :: r.ent :: c :: d :: (ls.map (fun p => p.2.ent) ++ (A ++ E))).Perm (a :: c :: d :: rcT A E [] (ls ++ [((q, r) : FdM)])) := by
 refine List.Perm.cons _ ?_
 have h1 : rcT A E [] (ls ++ [((q, r) : FdM)]) = ls.map (fun p => p.2.ent) ++ r.ent :: (A ++ E) := by unfold rcT; simp
 rw [h1]
 refine List.Perm.trans ?_ (List.Perm.cons _ (List.Perm.cons _ List.perm_middle.symm))
 exact (List.perm_middle (l₁ := [c, d])).symm
def Rec6P (wo : World) (A E : List Ent) (s : Sc) (tail : Int) (e : Ending) (w' : World) : Prop := ∃ (ls : List FdM) (la : Option Addr) (lc lo hi : Nat), e = .returned (.tuple #[.slice la ls.length lc, .agg #[.int .i64 tail, .int .i64 s.next], .int .i64 0]) ∧ s.l = ls.map FdM.pl ∧ (∀ p ∈ ls, p.2.bs.length ≤ 90) ∧ ls.length ≤ 24 ∧ Mem wo w' (rowE lo hi 92 2 (.slice la ls.length lc) ls.length (fdC ls) :: (ls.map (fun p => p.2.ent) ++ (A ++ E)))
set_option maxHeartbeats 8000000 in
theorem records6_any {wo w : World} {A E : List Ent} {b : Nat} {S0 : RS} (tail : Int) (hE : R3E b S0 E) (M : Mem wo w (A ++ E)) (hc : S0.cache.length ≤ 1000) (ht : 1 ≤ tail ∧ tail ≤ 1099511627776) :
 Calls Tryz.prog 32 #[.pointer (some ⟨b, 0, none⟩), .int .i64 tail] w (Rec6P wo A E (scanP (sc0 tail) (secsR S0 tail)) tail) := by
 refine calls_enter Tryz.func32 rfl 110 rfl rfl ?_; intro a S
 refine nxD (qG [1] S ?_); clear S a; intro a S
 refine st_alloc S M rfl rfl #[.int .i64 0, .int .i64 0] (by kernel_rfl) ?_; clear S M a; intro a w1 bR S M hB
 refine qG [1] S ?_; clear S a; intro a S
 refine nxC (wp_seq (nxD (qG [1, 1, 1] S ?_))); clear S a; intro a S
 refine st_if (t := 20) S rfl ?_ ?_
 ·clear S; intro h20 S
  refine qG [0, 0, 1] S ?_; clear S a; intro a S
  refine nxC (st_condT S rfl (nxD (qY S (y_build (ps := []) (pl := [(0, 1), (1, 1)]) (z := [.int .i64 0, .int .i64 0]) (cs := [_, _]) S (by kernel_rfl) rfl (rfl)) ?_))); clear S a; intro a S
  refine qG [1] S ?_; clear S a; intro a S
  refine qS (sz := 2) (us := [_, _]) S M 0 ?_; clear M; intro w2 M
  refine qG [1] S ?_; clear S a; intro a S
  refine nxC (wp_ret (then_ret (end_three S rfl (res_tmp rfl) (res_agg (cs := [_, _]) (by kernel_rfl) rfl rfl (M.cellsAt (k := 2) 0 rfl rfl)) (res_tmp rfl) ?_)))
  exfalso; omega
 clear S; intro h20 S
 refine qG [1, 1, 1] S ?_; clear S a; intro a S
 refine nxC (st_if (t := 23) S rfl ?_ ?_)
 ·clear S; intro h23 S
  refine st_condT S rfl (nxD (qY S (y_build (ps := []) (pl := [(0, 1), (1, 1)]) (z := [.int .i64 0, .int .i64 0]) (cs := [_, _]) S (by kernel_rfl) rfl (rfl)) ?_)); clear S a; intro a S
  refine qG [1] S ?_; clear S a; intro a S
  refine qS (sz := 2) (us := [_, _]) S M 0 ?_; clear M; intro w3 M
  refine qG [1] S ?_; clear S a; intro a S
  refine nxC (wp_ret (then_ret (end_three S rfl (res_tmp rfl) (res_agg (cs := [_, _]) (by kernel_rfl) rfl rfl (M.cellsAt (k := 2) 0 rfl rfl)) (res_tmp rfl) ?_)))
  exfalso; omega
 clear S; intro h23 S
 refine st_condF S rfl (wp_skip (nxE (qG [1, 1] S ?_))); clear S a; intro a S
 refine qY S (y_build (ps := [(0, .tmp 25), (1, .tmp 26)]) (pl := [(0, 1), (1, 1)]) (z := [.int .i64 0, .int .i64 0]) (cs := [_, _]) S (by kernel_rfl) rfl (rfl)) ?_; clear S a; intro a S
 refine st_alloc S M rfl rfl #[.int .i64 0, .int .i64 0] (by kernel_rfl) ?_; clear S M a; intro a w4 bL S M hB
 refine qS (sz := 2) (us := [_, _]) S M 0 ?_; clear M; intro w5 M
 refine nxA (qG [1] S ?_); clear S a; intro a S
 refine nxA (qG [1] S ?_); clear S a; intro a S
 refine nxA (qG [1] S ?_); clear S a; intro a S
 refine nxC (wp_cut (fun a w' => ∃ (bL bR : Nat) (ls : List FdM) (la : Option Addr) (lc llo lhi : Nat) (nx : Int), RcE S0 tail ls nx ∧ Sees 110 a [(5, .pointer (some ⟨bR, 0, none⟩)), (7, .pointer (some ⟨bL, 0, none⟩)), (8, .slice la ls.length lc)] ∧ Mem wo w' (rowE llo lhi 92 2 (.slice la ls.length lc) ls.length (fdC ls) :: .blk bL #[.int .i64 tail, .int .i64 nx] 33 :: .blk bR #[.int .i64 0, .int .i64 0] 33 :: (ls.map (fun p => p.2.ent) ++ (A ++ E)))) ?_ ?_)
 ·skip
  refine nxD (qG [1] S ?_); clear S a; intro a S
  refine nxC (wp_block (wp_loop_g (fun m a w' => ∃ (i : Nat) (s : Sc) (fs : List FrM) (ls : List FdM) (fa : Option Addr) (fc flo fhi : Nat) (la : Option Addr) (lc llo lhi : Nat), i ≤ 24 ∧ m = 24 - i ∧ RcI S0 tail i s fs ls ∧ Sees 110 a [(0, .pointer (some ⟨b, 0, none⟩)), (1, .int .i64 tail), (5, .pointer (some ⟨bR, 0, none⟩)), (7, .pointer (some ⟨bL, 0, none⟩)), (8, .slice la ls.length lc), (9, .slice fa fs.length fc), (10, .int .i64 s.inc), (11, .int .i64 (i : Int))] ∧ Mem wo w' (rowE flo fhi 130 6 (.slice fa fs.length fc) fs.length (frC fs) :: rowE llo lhi 92 2 (.slice la ls.length lc) ls.length (fdC ls) :: .blk bL #[.int .i64 tail, .int .i64 s.next] 33 :: .blk bR #[.int .i64 0, .int .i64 0] 33 :: rcT A E fs ls)) (24) ?_ ?_))
  ·skip
   exact ⟨0, sc0 tail, [], [], none, 0, _, _, none, 0, _, _, Nat.zero_le _, rfl, RcI.start S0 tail, S.sub _ rfl, (M.rowNil 92 2).rowNil 130 6⟩
  clear S M a; intro m a wl
  rintro ⟨i, s, fs, ls, fa, fc, flo, fhi, la, lc, llo, lhi, hi, rfl, hI, S, M⟩
  have hfl := hI.fl
  have hll := hI.ll
  have hsq := hI.seq
  refine wp_seq (nxD (qG [1, 1] S ?_)); clear S a; intro a S
  refine nxC (st_fi (t := 29) S rfl ?_ ?_)
  ·clear S; intro h29 S
   refine st_condF S rfl (wp_exit (then_exit (then_exit (block_hit (then_normal ?_)))))
   replace M := M.ord [3, 3, 3] (by simp only [ordO, oG, oS, oE, oZ, oB] <;> rfl)
   have hE9 : RcE S0 tail ls s.next := by
    first
     | exact hI.over (by have := hI.run.1; unfold secN at *; omega) (by omega)
     | exact hI.over hover (by omega)
     | exact hI.stop hiN (stepP_none (by assumption)) rfl rfl (by omega)
     | exact hI.stop hiN (hstF (by assumption)) rfl rfl (by omega)
     | exact hI.stop hiN (stepP_bad (by assumption) (by
        rw [goodP_eq, hsq, hI.begun]
        simp only [Bool.and_eq_true, Bool.not_eq_true', decide_eq_false_iff_not, beq_iff_eq]
        rintro ⟨⟨a1, a2⟩, a3⟩
        first
         | omega
         | (simp_all; done))) rfl rfl (by omega)
   exact ⟨bL, bR, ls, la, lc, llo, lhi, s.next, hE9, S.sub _ rfl, M.sub (.cons_cons _ (.cons_cons _ (.cons_cons _ (by repeat (first | exact rcSub _ _ _ _ | refine List.Sublist.cons _ ?_)))))⟩
  clear S; intro h29 S
  refine st_condT S rfl (wp_skip (then_normal (wp_seq (wp_block (nxD (qG [1, 1] S ?_)))))); clear S a; intro a S
  (first | refine qY S (y_addN S rfl rfl (by omega)) ?_ | refine qY S (y_int S rfl rfl rfl) ?_); clear S a; intro a S
  refine qG [1] S ?_; clear S a; intro a S
  refine nxA (qG [1] S ?_); clear S a; intro a S
  refine qQ (xs := [.tmp 36]) S (qE Tryz.func54) rfl (place5_any (tail + (i : Int)) _) M ?_; clear S M a; intro a w6 S hK M
  refine qG [1, 1, 1, 1, 1] S ?_; clear S a; intro a S
  refine nxC (wp_seq (wp_seq ?_))
  have hover : plE (tail + (i : Int)) ≠ 0 → i = secN tail := by
   have := hI.run.1
   unfold plE; unfold secN at *; split <;> omega
  refine wp_region_lit (qG [1, 1] S ?_); clear S a; intro a S
  refine nxC (st_if (t := 41) S rfl ?_ ?_)
  ·clear S; intro h41 S
   refine st_condT S rfl (wp_exit (then_exit (block_miss rfl (then_exit (then_exit (block_hit (then_normal ?_)))))))
   replace M := M.ord [3, 3, 3] (by simp only [ordO, oG, oS, oE, oZ, oB] <;> rfl)
   have hE9 : RcE S0 tail ls s.next := by
    first
     | exact hI.over (by have := hI.run.1; unfold secN at *; omega) (by omega)
     | exact hI.over hover (by omega)
     | exact hI.stop hiN (stepP_none (by assumption)) rfl rfl (by omega)
     | exact hI.stop hiN (hstF (by assumption)) rfl rfl (by omega)
     | exact hI.stop hiN (stepP_bad (by assumption) (by
        rw [goodP_eq, hsq, hI.begun]
        simp only [Bool.and_eq_true, Bool.not_eq_true', decide_eq_false_iff_not, beq_iff_eq]
        rintro ⟨⟨a1, a2⟩, a3⟩
        first
         | omega
         | (simp_all; done))) rfl rfl (by omega)
   exact ⟨bL, bR, ls, la, lc, llo, lhi, s.next, hE9, S.sub _ rfl, M.sub (.cons_cons _ (.cons_cons _ (.cons_cons _ (by repeat (first | exact rcSub _ _ _ _ | refine List.Sublist.cons _ ?_)))))⟩
  clear S; intro h41 S
  refine st_condF S rfl (wp_skip (then_normal (wp_seq ?_)))
  have hsq2 : tail + (i : Int) ≤ 1099511627776 := by
   rcases Int.lt_or_le 1099511627776 (tail + (i : Int)) with h9 | h9
   ·have h8 : plE (tail + (i : Int)) = 2 := by unfold plE; rw [if_neg (by omega)]
    omega
   ·exact h9
  have hiN : i < secN tail := by unfold secN; omega
  have hpv : plV (tail + (i : Int)) = 2 + (tail + (i : Int)) % 24 := by unfold plV; rw [if_pos (by omega)]
  rw [hpv] at S
  refine wp_region_lit (qG [1, 1] S ?_); clear S a; intro a S
  refine qC (xs := [.tmp 43, .tmp 44]) S (qE Tryz.func28) rfl (read3_any (A := _ :: _ :: _ :: _ :: (fs.map (fun p => p.2.ent) ++ (ls.map (fun p => p.2.ent) ++ A))) (2 + (tail + (i : Int)) % 24) hE M hc (by omega)) ?_
  rintro _ w7 ⟨q, rfl, hqb, hq64, M1⟩; refine ⟨_, rfl, ?_⟩; clear S a; intro a S
  have hqx : q.bs = secR S0 tail i := hqb
  clear M
  have M : Mem wo w7 (q.ent :: rowE flo fhi 130 6 (.slice fa fs.length fc) fs.length (frC fs) :: rowE llo lhi 92 2 (.slice la ls.length lc) ls.length (fdC ls) :: .blk bL #[.int .i64 tail, .int .i64 s.next] 33 :: .blk bR #[.int .i64 0, .int .i64 0] 33 :: rcT A E fs ls) := M1
  clear M1
  refine qG [1, 1, 1, 1, 1] S ?_; clear S a; intro a S
  replace S := S.keep [0, 1, 5, 7, 8, 9, 10, 11, 29, 12, 13, 41, 15, 14]
  refine nxC (wp_seq (nxD (qG [1, 1] S ?_))); clear S a; intro a S
  refine nxC (st_if (t := 49) S rfl ?_ ?_)
  ·clear S; intro h49 S
   exact absurd rfl h49
  clear S; intro h49 S
  refine st_condF S rfl (wp_skip (nxE (qG [1] S ?_))); clear S a; intro a S
  refine qC (xs := [.tmp 53]) S (qE Tryz.func74) rfl (refRead_any q.val q.bs _ (M.readAll 0 rfl (by unfold maxLen; omega)) (by omega)) ?_
  rintro _ w8 hP; rw [hqx] at hP; obtain ⟨ad, cap, loX, hiX, rfl, hK, M2⟩ := read_uni M hP; refine ⟨_, rfl, ?_⟩; clear S M a; intro a S; have M := M2; clear M2 hP
  refine qG [1, 1, 1] S ?_; clear S a; intro a S
  refine st_alloc S M rfl rfl #[.int .i64 0, .int .i64 0, .int .i64 0, .int .i64 0, .int .u32 0, .slice none 0 0] (by kernel_rfl) ?_; clear S M a; intro a w9 bX S M hB
  refine qS (sz := 6) (us := [_, _, _, _, _, _]) S M 0 ?_; clear M; intro w10 M
  refine qG [1] S ?_; clear S a; intro a S
  refine nxC (wp_seq (nxD (qG [1, 1, 1] S ?_))); clear S a; intro a S
  refine st_if (t := 59) S rfl ?_ ?_
  ·clear S; intro h59 S
   refine qG [0, 0, 0, 0, 1, 1, 0, 0, 0, 0, 1, 1, 0, 0, 0, 0, 1] S ?_; clear S a; intro a S
   replace S := S.keep [0, 1, 5, 7, 8, 9, 10, 11, 29, 12, 13, 41, 15, 49, 16, 14, 76]
   refine nxC (st_condT S rfl (wp_exit (then_exit (block_miss rfl (then_exit (then_exit (block_hit (then_normal ?_))))))))
   replace M := M.ord [6, 6, 6] (by simp only [ordO, oG, oS, oE, oZ, oB] <;> rfl)
   have hE9 : RcE S0 tail ls s.next := by
    first
     | exact hI.over (by have := hI.run.1; unfold secN at *; omega) (by omega)
     | exact hI.over hover (by omega)
     | exact hI.stop hiN (stepP_none (by assumption)) rfl rfl (by omega)
     | exact hI.stop hiN (hstF (by assumption)) rfl rfl (by omega)
     | exact hI.stop hiN (stepP_bad (by assumption) (by
        rw [goodP_eq, hsq, hI.begun]
        simp only [Bool.and_eq_true, Bool.not_eq_true', decide_eq_false_iff_not, beq_iff_eq]
        rintro ⟨⟨a1, a2⟩, a3⟩
        first
         | omega
         | (simp_all; done))) rfl rfl (by omega)
   exact ⟨bL, bR, ls, la, lc, llo, lhi, s.next, hE9, S.sub _ rfl, M.sub (.cons_cons _ (.cons_cons _ (.cons_cons _ (by repeat (first | exact rcSub _ _ _ _ | refine List.Sublist.cons _ ?_)))))⟩
  clear S; intro h59 S
  refine qR [1, 1, 1, 1, 1, 1] S M ?_; clear S a; intro a S
  refine st_if (t := 65) S rfl ?_ ?_
  ·clear S; intro h65 S
   refine qG [0, 0, 0, 0, 1, 1, 0, 0, 0, 0, 1] S ?_; clear S a; intro a S
   replace S := S.keep [0, 1, 5, 7, 8, 9, 10, 11, 29, 12, 13, 41, 15, 49, 16, 14, 76]
   refine nxC (st_condT S rfl (wp_exit (then_exit (block_miss rfl (then_exit (then_exit (block_hit (then_normal ?_))))))))
   replace M := M.ord [6, 6, 6] (by simp only [ordO, oG, oS, oE, oZ, oB] <;> rfl)
   have hE9 : RcE S0 tail ls s.next := by
    first
     | exact hI.over (by have := hI.run.1; unfold secN at *; omega) (by omega)
     | exact hI.over hover (by omega)
     | exact hI.stop hiN (stepP_none (by assumption)) rfl rfl (by omega)
     | exact hI.stop hiN (hstF (by assumption)) rfl rfl (by omega)
     | exact hI.stop hiN (stepP_bad (by assumption) (by
        rw [goodP_eq, hsq, hI.begun]
        simp only [Bool.and_eq_true, Bool.not_eq_true', decide_eq_false_iff_not, beq_iff_eq]
        rintro ⟨⟨a1, a2⟩, a3⟩
        first
         | omega
         | (simp_all; done))) rfl rfl (by omega)
   exact ⟨bL, bR, ls, la, lc, llo, lhi, s.next, hE9, S.sub _ rfl, M.sub (.cons_cons _ (.cons_cons _ (.cons_cons _ (by repeat (first | exact rcSub _ _ _ _ | refine List.Sublist.cons _ ?_)))))⟩
  clear S; intro h65 S
  refine qR [2, 1, 1, 1, 1, 1] S M ?_; clear S a; intro a S
  refine st_if (t := 71) S rfl ?_ ?_
  ·clear S; intro h71 S
   refine qG [0, 0, 0, 0, 1] S ?_; clear S a; intro a S
   replace S := S.keep [0, 1, 5, 7, 8, 9, 10, 11, 29, 12, 13, 41, 15, 49, 16, 14, 76]
   refine nxC (st_condT S rfl (wp_exit (then_exit (block_miss rfl (then_exit (then_exit (block_hit (then_normal ?_))))))))
   replace M := M.ord [6, 6, 6] (by simp only [ordO, oG, oS, oE, oZ, oB] <;> rfl)
   have hE9 : RcE S0 tail ls s.next := by
    first
     | exact hI.over (by have := hI.run.1; unfold secN at *; omega) (by omega)
     | exact hI.over hover (by omega)
     | exact hI.stop hiN (stepP_none (by assumption)) rfl rfl (by omega)
     | exact hI.stop hiN (hstF (by assumption)) rfl rfl (by omega)
     | exact hI.stop hiN (stepP_bad (by assumption) (by
        rw [goodP_eq, hsq, hI.begun]
        simp only [Bool.and_eq_true, Bool.not_eq_true', decide_eq_false_iff_not, beq_iff_eq]
        rintro ⟨⟨a1, a2⟩, a3⟩
        first
         | omega
         | (simp_all; done))) rfl rfl (by omega)
   exact ⟨bL, bR, ls, la, lc, llo, lhi, s.next, hE9, S.sub _ rfl, M.sub (.cons_cons _ (.cons_cons _ (.cons_cons _ (by repeat (first | exact rcSub _ _ _ _ | refine List.Sublist.cons _ ?_)))))⟩
  clear S; intro h71 S
  refine qG [1] S ?_; clear S a; intro a S
  refine qY S (y_loadAgg (cs := [_, _, _, _, _, _]) S (by kernel_rfl) rfl rfl (M.cellsAt (k := 6) 0 rfl rfl)) ?_; clear S a; intro a S
  refine qQ (xs := [.tmp 72, .tmp 73]) S (qE Tryz.func75) rfl (follows_any fa fc fs.length (frC fs) (fs.map FrM.pl) (rdF (secR S0 tail i)) _ _ (by simp) (frs_of M (.tail _ (.tail _ (.tail _ (.head _)))) (by omega) (fun p hp => .tail _ (.tail _ (.tail _ (.tail _ (.tail _ (.tail _ (.tail _ (by unfold rcT; exact List.mem_append_left _ (List.mem_append_left _ (List.mem_map_of_mem hp)))))))))) hI.may)) M ?_; clear S M a; intro a w11 S hK M
  refine qG [1, 1] S ?_; clear S a; intro a S
  replace S := S.keep [0, 1, 5, 7, 8, 9, 10, 11, 29, 12, 13, 41, 15, 49, 16, 14, 76]
  refine nxC (st_if (t := 76) S rfl ?_ ?_)
  ·clear S; intro h76 S
   refine st_condT S rfl (wp_exit (then_exit (block_miss rfl (then_exit (then_exit (block_hit (then_normal ?_)))))))
   replace M := M.ord [6, 6, 6] (by simp only [ordO, oG, oS, oE, oZ, oB] <;> rfl)
   have hE9 : RcE S0 tail ls s.next := by
    first
     | exact hI.over (by have := hI.run.1; unfold secN at *; omega) (by omega)
     | exact hI.over hover (by omega)
     | exact hI.stop hiN (stepP_none (by assumption)) rfl rfl (by omega)
     | exact hI.stop hiN (hstF (by assumption)) rfl rfl (by omega)
     | exact hI.stop hiN (stepP_bad (by assumption) (by
        rw [goodP_eq, hsq, hI.begun]
        simp only [Bool.and_eq_true, Bool.not_eq_true', decide_eq_false_iff_not, beq_iff_eq]
        rintro ⟨⟨a1, a2⟩, a3⟩
        first
         | omega
         | (simp_all; done))) rfl rfl (by omega)
   exact ⟨bL, bR, ls, la, lc, llo, lhi, s.next, hE9, S.sub _ rfl, M.sub (.cons_cons _ (.cons_cons _ (.cons_cons _ (by repeat (first | exact rcSub _ _ _ _ | refine List.Sublist.cons _ ?_)))))⟩
  clear S; intro h76 S
  refine st_condF S rfl (wp_skip (then_normal (wp_seq ?_)))
  have hrd0 : rdE (secR S0 tail i) = 0 := by omega
  have hmb := rd_may hrd0
  have hmb2 := hmb
  simp only [Fr.may, decide_eq_true_eq] at hmb2
  have hfo : followsP (fs.map FrM.pl) (rdF (secR S0 tail i)) = true := by first | assumption | simp_all
  have hgd : goodP s (rdF (secR S0 tail i)) = true := by
   rw [goodP_eq, hsq, hI.begun, hfo]
   simp only [Bool.and_true, Bool.and_eq_true, Bool.not_eq_true', decide_eq_false_iff_not, beq_iff_eq]
   omega
  have hpart : (rdF (secR S0 tail i)).part = (fs.length : Int) := by
   cases hfs : fs with
   | nil => rw [hfs] at hfo; unfold followsP at hfo; simpa using hfo
   | cons p0 ps =>
     rw [hfs] at hfo
     unfold followsP at hfo
     simp only [List.map_cons, Bool.and_eq_true, beq_iff_eq, List.length_cons, List.length_map] at hfo
     rw [hfo.1.1.1, List.length_cons]
  obtain ⟨fs2, hfs2⟩ : ∃ fs2, fs2 = fs ++ [((rdF (secR S0 tail i), ⟨loX, hiX, ad, cap, rdL (secR S0 tail i)⟩) : FrM)] := ⟨_, rfl⟩
  have hf2l : fs2.length = fs.length + 1 := by rw [hfs2, List.length_append]; rfl
  have hpl2 : fs2.map FrM.pl = s.begun ++ [(rdF (secR S0 tail i), rdL (secR S0 tail i))] := by rw [hfs2, List.map_append, hI.begun]; rfl
  have hmay2 : ∀ p ∈ fs2, p.1.may p.2.bs.length = true := fun p hp => by
   rw [hfs2] at hp
   rcases List.mem_append.1 hp with h | h
   ·exact hI.may p h
   ·rw [List.mem_singleton.1 h]; exact hmb
  have hbig : ∀ x ∈ fs2.map FrM.pl, x.2.length ≤ 1000 := fun x hx => by
   obtain ⟨p, hp, rfl⟩ := List.mem_map.1 hx
   have := hmay2 p hp
   simp only [Fr.may, decide_eq_true_eq] at this
   show p.2.bs.length ≤ 1000
   omega
  have hlenT : ((s.begun ++ [((rdF (secR S0 tail i), rdL (secR S0 tail i)) : FrB)]).length : Int) = ((fs.length + 1 : Nat) : Int) := by rw [← hpl2, List.length_map, hf2l]
  have hstep : stepP s (secR S0 tail i) = takeP s (rdF (secR S0 tail i), rdL (secR S0 tail i)) := stepP_take hrd0 hgd
  refine wp_region_lit (qR [2, 1, 1] S M ?_); clear S a; intro a S
  refine nxA (qG [1] S ?_); clear S a; intro a S
  refine qY S (y_loadAgg (cs := [_, _, _, _, _, _]) S (by kernel_rfl) rfl rfl (M.cellsAt (k := 6) 0 rfl rfl)) ?_; clear S a; intro a S
  refine st_lit (ps := [(0, .tmp 80)]) (e := 130) (sz := 6) (zl := [.int .i64 0, .int .i64 0, .int .i64 0, .int .i64 0, .int .u32 0, .slice none 0 0]) (cs := [_, _, _, _, _, _]) S M rfl rfl (by kernel_rfl) rfl (rfl) ?_; clear S M a; intro a w12 bZ S M hB
  refine st_append (e := 130) (sz := 6) (by_ := 64) (zc := [.int .i64 0, .int .i64 0, .int .i64 0, .int .i64 0, .int .u32 0, .slice none 0 0]) S M 4 rfl rfl (by kernel_rfl) rfl (by decide) rfl rfl rfl (show Rd _ _ _ 6 _ 1 ((rdF (secR S0 tail i)).cells _) from M.sliceAt 0 rfl (M.cellsAt (k := 6) 0 rfl rfl) rfl (Nat.le_refl _) (by unfold maxLen; omega)) (rfl) (by omega) (by unfold maxLen; omega) ?_; clear S M a; intro a w13 vA loA hiA S M
  obtain ⟨aA, cA, rfl, -, -⟩ := (M.readAll 0 rfl (by unfold maxLen; omega)).form
  refine qY S (y_assign S rfl) ?_; clear S a; intro a S
  refine nxC (wp_seq (wp_seq ?_))
  replace M := M.ord [7, 7, 7, 6, 4, 6] (by simp only [ordO, oG, oS, oE, oZ, oB] <;> rfl)
  replace M := M.drop 6
  simp only [List.eraseIdx_cons_succ, List.eraseIdx_cons_zero] at M
  replace M := M.drop 6
  simp only [List.eraseIdx_cons_succ, List.eraseIdx_cons_zero] at M
  have hM2 : rowE loA hiA 130 6 (.slice aA (fs.length + 1) cA) (fs.length + 1) (frC fs ++ (rdF (secR S0 tail i)).cells (.slice ad (rdL (secR S0 tail i)).length cap)) = rowE loA hiA 130 6 (.slice aA fs2.length cA) fs2.length (frC fs2) := by rw [hf2l, hfs2, frC_snoc]
  rw [hM2] at M
  rw [← hf2l] at S
  have M9 := M.perm (List.Perm.cons _ (rcPermF (f := rdF (secR S0 tail i)) (r := ⟨loX, hiX, ad, cap, rdL (secR S0 tail i)⟩)))
  rw [← hfs2] at M9
  clear M; have M := M9; clear M9
  have hstC : (rdF (secR S0 tail i)).part < (rdF (secR S0 tail i)).of - 1 → stepP s (secR S0 tail i) = (⟨s.seq + 1, (rdF (secR S0 tail i)).inc, s.begun ++ [(rdF (secR S0 tail i), rdL (secR S0 tail i))], s.l, s.next⟩, true) := fun h => by
   have hlt9 : ((s.begun ++ [((rdF (secR S0 tail i), rdL (secR S0 tail i)) : FrB)]).length : Int) < (rdF (secR S0 tail i)).of := by rw [hlenT]; omega
   rw [hstep]
   unfold takeP
   rw [if_pos hlt9]
  refine wp_region_lit (qR [3, 1, 4, 1] S M ?_); clear S a; intro a S
  (first | refine qY S (y_subN S rfl rfl (by omega)) ?_ | refine qY S (y_int S rfl rfl rfl) ?_); clear S a; intro a S
  refine qG [1] S ?_; clear S a; intro a S
  refine nxC (st_if (t := 88) S rfl ?_ ?_)
  ·clear S; intro h88 S
   refine st_condT S rfl (wp_exit (then_exit (block_hit (nxF (qG [1] S ?_))))); clear S a; intro a S
   (first | refine qY S (y_addN S rfl rfl (by omega)) ?_ | refine qY S (y_int S rfl rfl rfl) ?_); clear S a; intro a S
   refine qG [1] S ?_; clear S a; intro a S
   replace S := S.keep [0, 1, 5, 7, 8, 29, 12, 13, 41, 15, 49, 16, 14, 76, 10, 9, 88, 11]
   refine nxC ?_
   replace M := M.drop 0
   simp only [List.eraseIdx_cons_succ, List.eraseIdx_cons_zero] at M
   first
    | exact ⟨24 - (i + 1), by omega, i + 1, _, fs2, ls, aA, cA, loA, hiA, la, lc, llo, lhi, by omega, rfl, hI.go hiN (hstC (by omega)) rfl hpl2.symm hI.l hmay2 hI.short (by omega) (by omega), S.sub _ rfl, M⟩
    | exact ⟨24 - (i + 1), by omega, i + 1, _, [], ls2, none, 0, fl9, fh9, aD, cD, loA, hiA, by omega, rfl, hI2, S.sub _ rfl, M⟩
  clear S; intro h88 S
  refine st_condF S rfl (wp_skip (nxE (qG [1] S ?_))); clear S a; intro a S
  refine qC (xs := [.tmp 90]) S (qE Tryz.func76) rfl (join4_n aA cA fs2.length (frC fs2) (fs2.map FrM.pl) _ (by simp) (frs_of M (.tail _ (.head _)) (by omega) (fun p hp => .tail _ (.tail _ (.tail _ (.tail _ (.tail _ (by unfold rcT; exact List.mem_append_left _ (List.mem_append_left _ (List.mem_map_of_mem hp)))))))) hmay2) hbig) ?_
  rintro _ w14 ⟨vj, rfl, hK, hJ1, hJ2⟩; refine ⟨_, rfl, ?_⟩; clear S a; intro a S
  rw [hpl2] at hJ1 hJ2 S
  obtain ⟨lj, hj, -, M2⟩ := M.pushFresh (fresh_if hK hJ1 hJ2); clear M; have M := M2; clear M2
  have hjl : (ifL (joinOk (s.begun ++ [((rdF (secR S0 tail i), rdL (secR S0 tail i)) : FrB)])) (outF (s.begun ++ [((rdF (secR S0 tail i), rdL (secR S0 tail i)) : FrB)]))).length ≤ 90 := by
   by_cases h : joinOk (s.begun ++ [((rdF (secR S0 tail i), rdL (secR S0 tail i)) : FrB)])
   ·rw [ifL_pos h]; obtain ⟨_, _, _, -, -, -, h, -⟩ := h; exact h.2.2.2.1
   ·rw [ifL_neg h]; simp
  obtain ⟨ja, jc, rfl, -, -⟩ := (M.readAll 0 rfl (by unfold maxLen; omega)).form
  refine qG [1, 1, 1, 1, 1] S ?_; clear S a; intro a S
  replace S := S.keep [0, 1, 5, 7, 8, 11, 29, 12, 13, 41, 15, 49, 16, 76, 10, 9, 88, 17, 14]
  refine nxC (wp_seq (wp_seq ?_))
  have hnl : ¬ ((s.begun ++ [((rdF (secR S0 tail i), rdL (secR S0 tail i)) : FrB)]).length : Int) < (rdF (secR S0 tail i)).of := by rw [hlenT]; omega
  have hstF : joinE (s.begun ++ [((rdF (secR S0 tail i), rdL (secR S0 tail i)) : FrB)]) ≠ 0 → stepP s (secR S0 tail i) = (⟨s.seq + 1, (rdF (secR S0 tail i)).inc, s.begun ++ [(rdF (secR S0 tail i), rdL (secR S0 tail i))], s.l, s.next⟩, false) := fun hne => by
   have hnj : ¬ joinOk (s.begun ++ [((rdF (secR S0 tail i), rdL (secR S0 tail i)) : FrB)]) := fun h => hne (by unfold joinE; rw [if_pos h])
   rw [hstep]
   unfold takeP
   rw [if_neg hnl, if_neg hnj]
  refine wp_region_lit (qG [1, 1] S ?_); clear S a; intro a S
  refine nxC (st_if (t := 95) S rfl ?_ ?_)
  ·clear S; intro h95 S
   refine st_condT S rfl (wp_exit (then_exit (block_miss rfl (then_exit (then_exit (block_hit (then_normal ?_)))))))
   replace M := M.ord [5, 5, 5] (by simp only [ordO, oG, oS, oE, oZ, oB] <;> rfl)
   have hE9 : RcE S0 tail ls s.next := by
    first
     | exact hI.over (by have := hI.run.1; unfold secN at *; omega) (by omega)
     | exact hI.over hover (by omega)
     | exact hI.stop hiN (stepP_none (by assumption)) rfl rfl (by omega)
     | exact hI.stop hiN (hstF (by assumption)) rfl rfl (by omega)
     | exact hI.stop hiN (stepP_bad (by assumption) (by
        rw [goodP_eq, hsq, hI.begun]
        simp only [Bool.and_eq_true, Bool.not_eq_true', decide_eq_false_iff_not, beq_iff_eq]
        rintro ⟨⟨a1, a2⟩, a3⟩
        first
         | omega
         | (simp_all; done))) rfl rfl (by omega)
   exact ⟨bL, bR, ls, la, lc, llo, lhi, s.next, hE9, S.sub _ rfl, M.sub (.cons_cons _ (.cons_cons _ (.cons_cons _ (by repeat (first | exact rcSub _ _ _ _ | refine List.Sublist.cons _ ?_)))))⟩
  clear S; intro h95 S
  refine st_condF S rfl (wp_skip (then_normal (wp_seq ?_)))
  have hjo : joinOk (s.begun ++ [((rdF (secR S0 tail i), rdL (secR S0 tail i)) : FrB)]) := by
   by_cases h : joinOk (s.begun ++ [((rdF (secR S0 tail i), rdL (secR S0 tail i)) : FrB)])
   ·exact h
   ·have h40 : joinE (s.begun ++ [((rdF (secR S0 tail i), rdL (secR S0 tail i)) : FrB)]) = 40 := by unfold joinE; rw [if_neg h]
    omega
  obtain ⟨g, hg⟩ : ∃ g, fs2[0]? = some g := ⟨_, List.getElem?_eq_getElem (by omega)⟩
  have hhd : (s.begun ++ [((rdF (secR S0 tail i), rdL (secR S0 tail i)) : FrB)]).head?.elim 0 (·.1.seq) = g.1.seq := by
   rw [← hpl2, List.head?_eq_getElem?, List.getElem?_map, hg]; rfl
  have hstT : stepP s (secR S0 tail i) = (⟨s.seq + 1, (rdF (secR S0 tail i)).inc, [], s.l ++ [(g.1.seq, outF (s.begun ++ [((rdF (secR S0 tail i), rdL (secR S0 tail i)) : FrB)]))], s.seq + 1⟩, true) := by
   rw [hstep]
   unfold takeP
   rw [if_neg hnl, if_pos hjo, hhd]
  rw [ifL_pos hjo] at M S hjl
  refine wp_region_lit (qG [1, 1] S ?_); clear S a; intro a S
  refine qY S (y_indexR (e := 130) (sz := 6) S (by kernel_rfl) rfl (M.readAll 2 rfl (by unfold maxLen; omega)) rfl (by first | omega | (simp; done) | (simp; omega))) ?_; clear S a; intro a S
  refine qG [1] S ?_; clear S a; intro a S
  refine qY S (y_load S (by kernel_rfl) rfl ((M.readAll 2 rfl (by unfold maxLen; omega)).at_.row (i := 0) (frC_get hg) rfl 0 (by show 0 < 6; omega))) ?_; clear S a; intro a S
  refine qG [1] S ?_; clear S a; intro a S
  refine qY S (y_build (ps := [(0, .tmp 100), (1, .tmp 101)]) (pl := [(0, 1), (1, 1)]) (z := [.int .i64 0, .slice none 0 0]) (cs := [_, _]) S (by kernel_rfl) rfl (rfl)) ?_; clear S a; intro a S
  refine st_lit (ps := [(0, .tmp 102)]) (e := 92) (sz := 2) (zl := [.int .i64 0, .slice none 0 0]) (cs := [_, _]) S M rfl rfl (by kernel_rfl) rfl (rfl) ?_; clear S M a; intro a w15 bY S M hB
  refine st_append (e := 92) (sz := 2) (by_ := 32) (zc := [.int .i64 0, .slice none 0 0]) S M 4 rfl rfl (by kernel_rfl) rfl (by decide) rfl rfl rfl (show Rd _ _ _ 2 _ 1 [Value.int .i64 g.1.seq, _] from M.sliceAt 0 rfl (M.cellsAt (k := 2) 0 rfl rfl) rfl (Nat.le_refl _) (by unfold maxLen; omega)) (rfl) (by omega) (by unfold maxLen; omega) ?_; clear S M a; intro a w16 vA loA hiA S M
  obtain ⟨aD, cD, rfl, -, -⟩ := (M.readAll 0 rfl (by unfold maxLen; omega)).form
  refine qY S (y_assign S rfl) ?_; clear S a; intro a S
  refine nxA (qG [1] S ?_); clear S a; intro a S
  (first | refine qY S (y_addN S rfl rfl (by omega)) ?_ | refine qY S (y_int S rfl rfl rfl) ?_); clear S a; intro a S
  refine qG [2] S ?_; clear S a; intro a S
  refine qS (sz := 1) (us := [_]) S M 5 ?_; clear M; intro w17 M
  replace S := S.keep [0, 1, 5, 7, 11, 29, 12, 13, 41, 15, 49, 16, 76, 10, 9, 88, 17, 14, 95, 8]
  refine nxC ?_
  replace M := M.ord [6, 6, 4, 3, 5] (by simp only [ordO, oG, oS, oE, oZ, oB] <;> rfl)
  replace M := M.drop 5
  simp only [List.eraseIdx_cons_succ, List.eraseIdx_cons_zero] at M
  replace M := M.drop 5
  simp only [List.eraseIdx_cons_succ, List.eraseIdx_cons_zero] at M
  obtain ⟨ls2, hls2⟩ : ∃ ls2, ls2 = ls ++ [((g.1.seq, ⟨lj, hj, ja, jc, outF (s.begun ++ [((rdF (secR S0 tail i), rdL (secR S0 tail i)) : FrB)])⟩) : FdM)] := ⟨_, rfl⟩
  have hl2l : ls2.length = ls.length + 1 := by rw [hls2, List.length_append]; rfl
  have hM3 : rowE loA hiA 92 2 (.slice aD (ls.length + 1) cD) (ls.length + 1) (fdC ls ++ [Value.int .i64 g.1.seq, .slice ja (outF (s.begun ++ [((rdF (secR S0 tail i), rdL (secR S0 tail i)) : FrB)])).length jc]) = rowE loA hiA 92 2 (.slice aD ls2.length cD) ls2.length (fdC ls2) := by rw [hl2l, hls2, fdC_snoc]
  rw [hM3] at M
  rw [← hl2l] at S
  have M9 := (M.sub (.cons_cons _ (.cons_cons _ (.cons_cons _ (.cons_cons _ (.cons_cons _ (rcSub A E fs2 ls))))))).perm (List.Perm.cons _ (rcPermO (q := g.1.seq) (r := ⟨lj, hj, ja, jc, outF (s.begun ++ [((rdF (secR S0 tail i), rdL (secR S0 tail i)) : FrB)])⟩)))
  rw [← hls2] at M9
  obtain ⟨fl9, fh9, M8⟩ := M9.nilRow 130 6
  clear M M9; have M := M8; clear M8
  rw [← hsq] at M
  have hI2 := hI.go (fs2 := []) (ls2 := ls2) hiN hstT rfl rfl (by rw [hls2, List.map_append, hI.l]; rfl) (fun p hp => absurd hp (by simp)) (fun p hp => by
   rw [hls2] at hp
   rcases List.mem_append.1 hp with h | h
   ·exact hI.short p h
   ·rw [List.mem_singleton.1 h]; exact hjl) (Nat.zero_le _) (by omega)
  refine wp_region_lit (qG [1] S ?_); clear S a; intro a S
  refine wpList_nil (block_normal (nxF (qG [1] S ?_))); clear S a; intro a S
  (first | refine qY S (y_addN S rfl rfl (by omega)) ?_ | refine qY S (y_int S rfl rfl rfl) ?_); clear S a; intro a S
  refine qG [1] S ?_; clear S a; intro a S
  refine nxC ?_
  replace M := M.drop 1
  simp only [List.eraseIdx_cons_succ, List.eraseIdx_cons_zero] at M
  first
   | exact ⟨24 - (i + 1), by omega, i + 1, _, fs2, ls, aA, cA, loA, hiA, la, lc, llo, lhi, by omega, rfl, hI.go hiN (hstC (by omega)) rfl hpl2.symm hI.l hmay2 hI.short (by omega) (by omega), S.sub _ rfl, M⟩
   | exact ⟨24 - (i + 1), by omega, i + 1, _, [], ls2, none, 0, fl9, fh9, aD, cD, loA, hiA, by omega, rfl, hI2, S.sub _ rfl, M⟩
 clear S a M; intro a wc
 rintro ⟨bL, bR, ls, la, lc, llo, lhi, nx, hEnd, S, M⟩
 refine wp_seq (wp_regionK [3] #[false, false, false, false, false] rfl M (by kernel_rfl) ?_); clear M; intro w18 M
 refine k_pure 0 S rfl (fun w => y_move S rfl) ?_; clear S a; intro a S
 refine k_read 1 S rfl (fun w hW => have M := M.grow hW; y_loadAgg (cs := [_, _]) S (by kernel_rfl) rfl rfl (M.cellsAt (k := 2) 1 rfl rfl)) ?_; clear S a; intro a S
 refine k_pure 2 S rfl (fun w => y_assign S rfl) ?_; clear S a; intro a S
 refine k_one 3 rfl (by kernel_rfl) ?_
 refine qS (sz := 2) (us := [_, _]) S M 2 ?_; clear M; intro w19 M
 refine wpList_nil ?_; refine then_normal ?_; refine ⟨fun h => absurd h (by decide), ?_⟩
 refine k_pure 4 S rfl (fun w => y_assign S rfl) ?_; clear S a; intro a S
 refine k_end (by kernel_rfl) ?_
 refine then_normal (wp_ret (end_three S rfl (res_tmp rfl) (res_agg (cs := [_, _]) (by kernel_rfl) rfl rfl (M.cellsAt (k := 2) 2 rfl rfl)) (res_tmp rfl) ?_))
 exact ⟨ls, la, lc, llo, lhi, by rw [hEnd.2.1], hEnd.1, hEnd.2.2.1, hEnd.2.2.2, (M.drop 1).drop 1⟩
end Go.Proofs.YtodfphphidhjbaaGreat

namespace Go.Proofs.YtodfphphidhjbaaGreat
open Go.RowKit Go.Sort
set_option maxHeartbeats 1000000 in
theorem scan6_any {wo w : World} {A E : List Ent} {b : Nat} {S0 : RS} (tail : Int) (hE : R3E b S0 E) (M : Mem wo w (A ++ E)) (hc : S0.cache.length ≤ 1000) (ht : 1 ≤ tail ∧ tail ≤ 1099511627776) :
 Calls Tryz.prog 9 #[.pointer (some ⟨b, 0, none⟩), .int .i64 tail] w (ScanR wo A E tail (scanP (sc0 tail) (secsR S0 tail))) := by
 refine calls_enter Tryz.func9 rfl 36 rfl rfl ?_; intro a S
 refine nxD (qG [1] S ?_); clear S a; intro a S
 refine st_alloc S M rfl rfl #[.int .i64 0, .int .i64 0] (by kernel_rfl) ?_; clear S M a; intro a w1 bR S M hB
 refine qG [1] S ?_; clear S a; intro a S
 refine nxC (wp_seq ?_)
 replace M : Mem wo w1 ((.blk bR #[.int .i64 0, .int .i64 0] 33 :: A) ++ E) := M
 refine wp_region_lit (qG [1, 1] S ?_); clear S a; intro a S
 refine qC (xs := [.tmp 13, .tmp 14]) S (qE Tryz.func32) rfl (records6_any (A := _ :: A) tail hE M hc ht) ?_
 rintro _ w2 ⟨ls, la, lc, lo, hi, rfl, hl, hsh, h24, M1⟩; refine ⟨_, rfl, ?_⟩; clear S M a; intro a S
 have M : Mem wo w2 (rowE lo hi 92 2 (.slice la ls.length lc) ls.length (fdC ls) :: .blk bR #[.int .i64 0, .int .i64 0] 33 :: (ls.map (fun p => p.2.ent) ++ (A ++ E))) := M1.perm (List.Perm.cons _ (List.perm_middle (l₁ := ls.map (fun p => p.2.ent))))
 clear M1
 refine qG [1, 1, 1, 1] S ?_; clear S a; intro a S
 refine st_alloc S M rfl rfl #[.int .i64 0, .int .i64 0] (by kernel_rfl) ?_; clear S M a; intro a w3 bL S M hB
 refine qG [1] S ?_; clear S a; intro a S
 refine qS (sz := 2) (us := [_, _]) S M 0 ?_; clear M; intro w4 M
 refine qG [1] S ?_; clear S a; intro a S
 refine nxA (qG [1] S ?_); clear S a; intro a S
 refine nxC (wp_seq (nxD (qG [1] S ?_))); clear S a; intro a S
 refine nxC (wp_block (wp_loop_g (fun m a w' => ∃ (k : Nat) (oa : Option Addr) (oc llo lhi : Nat), k ≤ ls.length ∧ m = ls.length - k ∧ Sees 36 a [(5, .pointer (some ⟨bR, 0, none⟩)), (7, .slice la ls.length lc), (8, .pointer (some ⟨bL, 0, none⟩)), (9, .int .i64 0), (10, .slice oa k oc), (11, .int .i64 (k : Int))] ∧ Mem wo w' (rowE llo lhi 57 1 (.slice oa k oc) k ((ls.take k).map (fun p => p.2.val)) :: .blk bL #[.int .i64 tail, .int .i64 (scanP (sc0 tail) (secsR S0 tail)).next] 33 :: rowE lo hi 92 2 (.slice la ls.length lc) ls.length (fdC ls) :: .blk bR #[.int .i64 0, .int .i64 0] 33 :: (ls.map (fun p => p.2.ent) ++ (A ++ E)))) (ls.length) ?_ ?_))
 ·skip
  exact ⟨0, _, _, _, _, Nat.zero_le _, rfl, S.sub _ rfl, M.rowNil 57 1⟩
 clear S M a; intro m a wl
 rintro ⟨k, oa, oc, llo, lhi, hk, rfl, S, M⟩
 refine wp_seq (nxD (qG [1, 1] S ?_)); clear S a; intro a S
 refine qY S (y_lenS (E := 92) S rfl (by kernel_rfl)) ?_; clear S a; intro a S
 refine qG [1] S ?_; clear S a; intro a S
 refine nxC (st_fi (t := 22) S rfl ?_ ?_)
 ·clear S; intro h22 S
  refine st_condF S rfl (wp_exit (then_exit (then_exit (block_hit (then_normal (wp_seq (wp_regionK [4] #[false, false, false, false, false, false] rfl M (by kernel_rfl) ?_))))))); clear M; intro w7 M
  refine k_pure 0 S rfl (fun w => y_move S rfl) ?_; clear S a; intro a S
  refine k_read 1 S rfl (fun w hW => have M := M.grow hW; y_loadAgg (cs := [_, _]) S (by kernel_rfl) rfl rfl (M.cellsAt (k := 2) 1 rfl rfl)) ?_; clear S a; intro a S
  refine k_pure 2 S rfl (fun w => y_move S rfl) ?_; clear S a; intro a S
  refine k_pure 3 S rfl (fun w => y_assign S rfl) ?_; clear S a; intro a S
  refine k_one 4 rfl (by kernel_rfl) ?_
  refine qS (sz := 2) (us := [_, _]) S M 3 ?_; clear M; intro w8 M
  refine wpList_nil ?_; refine then_normal ?_; refine ⟨fun h => absurd h (by decide), ?_⟩
  refine k_pure 5 S rfl (fun w => y_assign S rfl) ?_; clear S a; intro a S
  refine k_end (by kernel_rfl) ?_
  refine then_normal (wp_ret (end_three S rfl (res_tmp rfl) (res_agg (cs := [_, _]) (by kernel_rfl) rfl rfl (M.cellsAt (k := 2) 3 rfl rfl)) (res_tmp rfl) ?_))
  obtain rfl : k = ls.length := by omega
  replace M := M.drop 1
  simp only [List.eraseIdx_cons_succ, List.eraseIdx_cons_zero] at M
  replace M := M.drop 1
  simp only [List.eraseIdx_cons_succ, List.eraseIdx_cons_zero] at M
  replace M := M.drop 1
  simp only [List.eraseIdx_cons_succ, List.eraseIdx_cons_zero] at M
  rw [List.take_of_length_le (Nat.le_refl _)] at M
  refine ⟨ls.map Prod.snd, oa, oc, llo, lhi, by rw [List.length_map], by rw [hl, List.map_map, List.map_map]; rfl, fun r hr => ?_, by rw [List.length_map]; exact h24, ?_⟩
  ·obtain ⟨p, hp, rfl⟩ := List.mem_map.1 hr
   exact hsh p hp
  ·rw [List.length_map, List.map_map, List.map_map]
   exact M
 clear S; intro h22 S
 refine st_condT S rfl (wp_skip (then_normal (wp_seq (wp_block ?_))))
 have hkl : k < ls.length := by omega
 obtain ⟨x, hx⟩ : ∃ x, ls[k]? = some x := ⟨_, List.getElem?_eq_getElem hkl⟩
 have htk : ls.take (k + 1) = ls.take k ++ [x] := by rw [List.take_add_one, hx]; rfl
 refine wp_region_lit (qG [1, 1, 1] S ?_); clear S a; intro a S
 refine qY S (y_indexR (e := 92) (sz := 2) S (by kernel_rfl) rfl (M.readAll 2 rfl (by unfold maxLen; omega)) rfl (by first | omega | (simp; done) | (simp; omega))) ?_; clear S a; intro a S
 try simp only [Int.toNat_natCast, Nat.mul_one, Nat.zero_add] at S
 refine qG [2] S ?_; clear S a; intro a S
 refine qY S (y_load S (by kernel_rfl) rfl ((M.readAll 2 rfl (by unfold maxLen; omega)).at_.row (i := k) (fdC_get hx) rfl 1 (show 1 < 2 by omega))) ?_; clear S a; intro a S
 refine st_lit (ps := [(0, .tmp 30)]) (e := 57) (sz := 1) (zl := [.slice none 0 0]) (cs := [_]) S M rfl rfl (by kernel_rfl) rfl (rfl) ?_; clear S M a; intro a w5 bZ S M hB
 refine st_append (e := 57) (sz := 1) (by_ := 24) (zc := [.slice none 0 0]) S M 1 rfl rfl (by kernel_rfl) rfl (by decide) rfl rfl rfl (show Rd _ _ _ 1 _ 1 [x.2.val] from M.sliceAt 0 rfl (M.cellsAt (k := 1) 0 rfl rfl) rfl (Nat.le_refl _) (by unfold maxLen; omega)) (rfl) (by omega) (by unfold maxLen; omega) ?_; clear S M a; intro a w6 vA loA hiA S M
 obtain ⟨aA, cA, rfl, -, -⟩ := (M.readAll 0 rfl (by unfold maxLen; omega)).form
 refine qY S (y_assign S rfl) ?_; clear S a; intro a S
 refine wpList_nil (block_normal (nxF (qG [1] S ?_))); clear S a; intro a S
 (first | refine qY S (y_addN S rfl rfl (by omega)) ?_ | refine qY S (y_int S rfl rfl rfl) ?_); clear S a; intro a S
 refine qG [1] S ?_; clear S a; intro a S
 replace S := S.keep [5, 7, 8, 9, 22, 10, 11]
 refine nxC ?_
 replace M := M.drop 1
 simp only [List.eraseIdx_cons_succ, List.eraseIdx_cons_zero] at M
 have e1 : (ls.take k).map (fun p : FdM => p.2.val) ++ [x.2.val] = (ls.take (k + 1)).map (fun p : FdM => p.2.val) := by rw [htk, List.map_append]; rfl
 rw [e1] at M
 exact ⟨ls.length - (k + 1), by omega, k + 1, aA, cA, _, _, by omega, rfl, S.sub _ rfl, M⟩
end Go.Proofs.YtodfphphidhjbaaGreat

