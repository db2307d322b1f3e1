/-
  What LedgerKeeps rests on, part 5.
-/
import Derived.Test.YtmdededhoibofaaGreatP4
namespace Go.Proofs.YtmdededhoibofaaGreat
open Go.RowKit Go.Sort
theorem frC_snoc (fs : List FrM) (x : FrM) : frC (fs ++ [x]) = frC fs ++ x.cellsL := by simp [frC]
theorem fdC_snoc (ls : List FdM) (x : FdM) : fdC (ls ++ [x]) = fdC ls ++ x.cellsL := by simp [fdC]
theorem perm_in {α : Type} (r : α) (X A : List α) : (r :: (X ++ A)).Perm ((X ++ [r]) ++ A) := by
 rw [List.append_assoc]; exact List.perm_middle.symm
set_option maxHeartbeats 2000000 in
theorem take_any {wc w : World} {A E : List Ent} {b : Nat} {s : Sc} (f : Fr) (r : RB) (hE : ScE b s E) (M : Mem wc w (r.ent :: (A ++ E))) (hb : s.begun.length ≤ 900) (hl : s.l.length ≤ 1000) (hs : -1099511627776 ≤ s.seq ∧ s.seq ≤ 1099511627776) (hm : f.may r.bs.length = true) :
 Calls Tryz.prog 86 #[.pointer (some ⟨b, 0, none⟩), .agg (f.cells r.val).toArray] w fun e w' => e = .returned (.bool (takeP s (f, r.bs)).2) ∧ ∃ E', ScE b (takeP s (f, r.bs)).1 E' ∧ Mem wc w' (A ++ E') := by
 obtain ⟨m, O, rfl⟩ := hE
 replace M : Mem wc w (.blk b (scC s m).toArray 110 :: rowE m.lo m.hi 167 6 m.bv m.fs.length (frC m.fs) :: rowE m.lo2 m.hi2 114 2 m.lv m.ls.length (fdC m.ls) :: (r.ent :: (m.rows ++ A))) := M.perm ((List.Perm.cons _ List.perm_append_comm).trans (List.perm_middle (l₁ := [_, _, _]) (l₂ := m.rows ++ A)).symm)
 have hlen : s.begun.length = m.fs.length := by rw [O.begun, List.length_map]
 have hlen2 : s.l.length = m.ls.length := by rw [O.l, List.length_map]
 rw [hlen] at hb
 rw [hlen2] at hl
 obtain ⟨fs2, hfs2⟩ : ∃ fs2, fs2 = m.fs ++ [(f, r)] := ⟨_, rfl⟩
 have hf2l : fs2.length = m.fs.length + 1 := by rw [hfs2, List.length_append]; rfl
 have hpl2 : fs2.map FrM.pl = s.begun ++ [(f, r.bs)] := by rw [hfs2, List.map_append, O.begun]; rfl
 have hmay2 : ∀ p ∈ fs2, p.1.may p.2.bs.length = true := fun p hp => by
  rw [hfs2] at hp
  rcases List.mem_append.1 hp with h | h
  ·exact O.may p h
  ·rw [List.mem_singleton.1 h]; exact hm
 have hin : ∀ p ∈ fs2, p.2.ent ∈ r.ent :: (m.rows ++ A) := fun p hp => by
  rw [hfs2] at hp
  rcases List.mem_append.1 hp with h | h
  ·exact .tail _ (List.mem_append_left _ (by unfold ScM.rows; exact List.mem_append_left _ (List.mem_map_of_mem h)))
  ·rw [List.mem_singleton.1 h]; exact .head _
 have hbig : ∀ x ∈ fs2.map FrM.pl, x.2.length ≤ 1000 := fun x hx => by
  obtain ⟨p, hp, rfl⟩ := List.mem_map.1 hx
  have := hmay2 p hp
  simp only [Fr.may, decide_eq_true_eq] at this
  show p.2.bs.length ≤ 1000
  omega
 have hsq : ∀ x ∈ fs2.map FrM.pl, -9223372036854775808 ≤ x.1.seq ∧ x.1.seq ≤ 9223372036854775807 := fun x hx => by
  obtain ⟨p, hp, rfl⟩ := List.mem_map.1 hx
  have := hmay2 p hp
  simp only [Fr.may, decide_eq_true_eq] at this
  show -9223372036854775808 ≤ p.1.seq ∧ p.1.seq ≤ 9223372036854775807
  omega
 have hlenT : ((s.begun ++ [((f, r.bs) : FrB)]).length : Int) = ((m.fs.length + 1 : Nat) : Int) := by rw [List.length_append, hlen]; rfl
 refine calls_enter Tryz.func86 rfl 75 rfl rfl ?_; intro a S
 refine wp_seq ?_
 skip
 refine wp_region_lit (st_box S M rfl rfl rfl #[_, _, _, _, _, _] rfl ?_); clear S M a; intro a w1 bF S M hB
 refine qG [1] S ?_; clear S a; intro a S
 refine nxA (qR [1, 1, 1, 2] S M ?_); clear S a; intro a S
 (first | refine qY S (y_addN S rfl rfl (by omega)) ?_ | refine qY S (y_int S rfl rfl rfl) ?_); clear S a; intro a S
 refine qG [1, 1] S ?_; clear S a; intro a S
 refine qS (sz := 1) (us := [_]) S M 1 ?_; clear M; intro w2 M
 refine nxA (qR [1, 2, 1, 1, 2] S M ?_); clear S a; intro a S
 refine qS (sz := 1) (us := [_]) S M 1 ?_; clear M; intro w3 M
 refine nxC (wp_seq (wp_regionK [7, 10] #[false, false, false, false, false, false, false, false, false, false, false] rfl M (by kernel_rfl) ?_)); clear M; intro w4 M
 refine k_pure 0 S rfl (fun w => y_move S rfl) ?_; clear S a; intro a S
 refine k_pure 1 S rfl (fun w => y_move S rfl) ?_; clear S a; intro a S
 refine k_pure 2 S rfl (fun w => y_nilCheck S rfl) ?_; clear S a; intro a S
 refine k_pure 3 S rfl (fun w => y_fieldAddr (k := 2) S (by kernel_rfl) rfl) ?_; clear S a; intro a S
 refine k_read 4 S rfl (fun w hW => have M := M.grow hW; y_load S (by kernel_rfl) rfl (M.cell 1 rfl rfl)) ?_; clear S a; intro a S
 refine k_read 5 S rfl (fun w hW => have M := M.grow hW; y_loadAgg (cs := [_, _, _, _, _, _]) S (by kernel_rfl) rfl rfl (M.cellsAt (k := 6) 0 rfl rfl)) ?_; clear S a; intro a S
 refine k_one 6 rfl (by kernel_rfl) ?_
 refine st_lit (ps := [(0, .tmp 24)]) (e := 167) (sz := 6) (zl := [.int .i64 0, .int .i64 0, .int .i64 0, .int .i64 0, .int .u32 0, .slice none 0 0]) (cs := [_, _, _, _, _, _]) S M rfl rfl (by kernel_rfl) rfl (rfl) ?_; clear S M a; intro a w5 bZ S M hB
 refine wpList_nil ?_; refine then_normal ?_; refine ⟨fun _ => hB, ?_⟩
 refine k_one 7 rfl (by kernel_rfl) ?_
 refine st_append (e := 167) (sz := 6) (by_ := 64) (zc := [.int .i64 0, .int .i64 0, .int .i64 0, .int .i64 0, .int .u32 0, .slice none 0 0]) S M 3 rfl rfl (by kernel_rfl) rfl (by decide) rfl rfl rfl (show Rd _ _ _ 6 _ 1 (f.cells r.val) from M.sliceAt 0 rfl (M.cellsAt (k := 6) 0 rfl rfl) rfl (Nat.le_refl _) (by unfold maxLen; omega)) (rfl) (by omega) (by unfold maxLen; omega) ?_; clear S M a; intro a w6 vA loA hiA S M
 refine wpList_nil ?_; refine then_normal ?_; refine ⟨fun h => absurd h (by decide), ?_⟩
 refine k_pure 8 S rfl (fun w => y_nilCheck S rfl) ?_; clear S a; intro a S
 refine k_pure 9 S rfl (fun w => y_fieldAddr (k := 2) S (by kernel_rfl) rfl) ?_; clear S a; intro a S
 refine k_one 10 rfl (by kernel_rfl) ?_
 obtain ⟨aA, cA, rfl, -, -⟩ := (M.readAll 0 rfl (by unfold maxLen; omega)).form
 refine qS (sz := 1) (us := [_]) S M 3 ?_; clear M; intro w7 M
 refine wpList_nil ?_; refine then_normal ?_; refine ⟨fun h => absurd h (by decide), ?_⟩
 refine k_end (by kernel_rfl) ?_
 replace S := S.keep [0, 1, 3, 4]
 refine then_normal (wp_seq (wp_seq ?_))
 skip
 replace M := M.drop 1
 simp only [List.eraseIdx_cons_succ, List.eraseIdx_cons_zero] at M
 replace M := M.ord [3, 1, 3] (by simp only [ordO, oG, oS, oE, oZ, oB] <;> rfl)
 have hM2 : rowE loA hiA 167 6 (.slice aA (m.fs.length + 1) cA) (m.fs.length + 1) (frC m.fs ++ f.cells r.val) = rowE loA hiA 167 6 (.slice aA fs2.length cA) fs2.length (frC fs2) := by rw [hf2l, hfs2, frC_snoc]
 replace M : Mem wc w7 (.blk b #[.int .i64 (s.seq + 1), .int .i64 f.inc, .slice aA (m.fs.length + 1) cA, m.lv, .int .i64 s.next] 110 :: rowE loA hiA 167 6 (.slice aA (m.fs.length + 1) cA) (m.fs.length + 1) (frC m.fs ++ f.cells r.val) :: rowE m.lo2 m.hi2 114 2 m.lv m.ls.length (fdC m.ls) :: .blk bF (f.cells r.val).toArray 167 :: (r.ent :: (m.rows ++ A))) := M
 rw [hM2, ← hf2l] at M
 obtain ⟨m2, hm2⟩ : ∃ m2 : ScM, m2 = { m with fs := fs2, ba := aA, bc := cA, lo := loA, hi := hiA } := ⟨_, rfl⟩
 have hmid : ∀ {W : World} {X Y : Ent} {R : List Ent}, Mem wc W (X :: Y :: R ++ (r.ent :: (m.rows ++ A))) → Mem wc W ((X :: Y :: R) ++ (m2.rows ++ A)) := fun M => M.perm (List.Perm.append_left _ (by rw [hm2, hfs2]; unfold ScM.rows; simp only [List.map_append, List.map_cons, List.map_nil, List.append_assoc, List.cons_append, List.nil_append]; exact List.perm_middle.symm))
 refine wp_quiet M (by kernel_rfl) (by kernel_rfl) ?_
 refine qt_y S rfl rfl rfl (fun w M => y_move S rfl) ?_; clear S a; intro a S
 refine qt_y S rfl rfl rfl (fun w M => y_nilCheck S rfl) ?_; clear S a; intro a S
 refine qt_y S rfl rfl rfl (fun w M => y_fieldAddr (k := 2) S (by kernel_rfl) rfl) ?_; clear S a; intro a S
 refine qt_y S rfl rfl rfl (fun w M => y_load S (by kernel_rfl) rfl (M.cell 0 rfl rfl)) ?_; clear S a; intro a S
 refine qt_y S rfl rfl rfl (fun w M => y_lenR (E := 167) S rfl (M.readAll 1 rfl (by unfold maxLen; omega)) (by kernel_rfl)) ?_; clear S a; intro a S
 refine qt_y S rfl rfl rfl (fun w M => y_fieldAddr (k := 3) S (by kernel_rfl) rfl) ?_; clear S a; intro a S
 refine qt_y S rfl rfl rfl (fun w M => y_load S (by kernel_rfl) rfl (M.cell 3 rfl rfl)) ?_; clear S a; intro a S
 refine qt_y S rfl rfl rfl (fun w M => y_int S rfl rfl rfl) ?_; clear S a; intro a S
 refine wpQuiet_nil ?_; clear M; intro w8 M
 refine then_normal (st_if (t := 36) S rfl ?_ ?_)
 ·clear S; intro h36 S
  refine st_condT S rfl (nxD (qG [1] S ?_)); clear S a; intro a S
  refine nxC (wp_ret (then_ret (end_one S rfl (res_tmp rfl) ?_)))
  have hlt : ((s.begun ++ [((f, r.bs) : FrB)]).length : Int) < f.of := by rw [hlenT]; omega
  unfold takeP
  rw [if_pos hlt]
  refine ⟨rfl, m2.ents b ⟨s.seq + 1, f.inc, s.begun ++ [(f, r.bs)], s.l, s.next⟩, ⟨m2, ⟨by rw [hm2]; exact hpl2.symm, by rw [hm2]; exact O.l, by rw [hm2]; exact hmay2, by rw [hm2]; exact O.short⟩, rfl⟩, ?_⟩
  replace M := M.drop 3
  simp only [List.eraseIdx_cons_succ, List.eraseIdx_cons_zero] at M
  refine Mem.backA ?_
  have M5 := hmid (R := [_]) M
  rw [hm2] at M5 ⊢
  exact M5
 clear S; intro h36 S
 refine st_condF S rfl (wp_skip (then_normal (wp_seq ?_)))
 have hnl : ¬ ((s.begun ++ [((f, r.bs) : FrB)]).length : Int) < f.of := by rw [hlenT]; omega
 refine wp_region_lit (qR [1, 1, 3, 1] S M ?_); clear S a; intro a S
 refine qC (xs := [.tmp 41]) S (qE Tryz.func128) rfl (join_any (.slice aA fs2.length cA) (frC fs2) (fs2.map FrM.pl) _ (frs_of M (.tail _ (.head _)) (by omega) (fun p hp => .tail _ (.tail _ (.tail _ (.tail _ (hin p hp))))) hmay2) hbig hsq) ?_
 rintro _ w9 ⟨vj, rfl, hK, hJ1, hJ2⟩; refine ⟨_, rfl, ?_⟩; clear S a; intro a S
 rw [hpl2] at hJ1 hJ2 S
 refine qG [1, 1, 1, 1, 1] S ?_; clear S a; intro a S
 replace S := S.keep [0, 1, 3, 4, 36, 5, 6]
 refine nxC (wp_seq (nxD (qG [1, 1] S ?_))); clear S a; intro a S
 refine nxC (st_split (t := 46) S rfl ?_ ?_)
 ·clear S; intro h46 S
  refine st_condT S rfl (nxD (qG [1] S ?_)); clear S a; intro a S
  refine nxC (wp_ret (then_ret (end_one S rfl (res_tmp rfl) ?_)))
  have hnj : ¬ joinOk (s.begun ++ [((f, r.bs) : FrB)]) := fun h => by unfold joinE at h46; rw [if_pos h] at h46; simp at h46
  unfold takeP
  rw [if_neg hnl, if_neg hnj]
  replace M := M.grow hK
  refine ⟨rfl, m2.ents b ⟨s.seq + 1, f.inc, s.begun ++ [(f, r.bs)], s.l, s.next⟩, ⟨m2, ⟨by rw [hm2]; exact hpl2.symm, by rw [hm2]; exact O.l, by rw [hm2]; exact hmay2, by rw [hm2]; exact O.short⟩, rfl⟩, ?_⟩
  replace M := M.drop 3
  simp only [List.eraseIdx_cons_succ, List.eraseIdx_cons_zero] at M
  refine Mem.backA ?_
  have M5 := hmid (R := [_]) M
  rw [hm2] at M5 ⊢
  exact M5
 clear S; intro h46 S
 refine st_condF S rfl (wp_skip (then_normal (wp_seq ?_)))
 have hjo : joinOk (s.begun ++ [((f, r.bs) : FrB)]) := by
  by_cases h : joinOk (s.begun ++ [((f, r.bs) : FrB)])
  ·exact h
  ·unfold joinE at h46; rw [if_neg h] at h46; simp at h46
 have ho90 : (outF (s.begun ++ [((f, r.bs) : FrB)])).length ≤ 90 := by obtain ⟨_, _, _, -, -, -, h, -⟩ := hjo; exact h.2.2.2.1
 obtain ⟨lj, hj, -, M2⟩ := M.pushFresh (hJ1 hjo); clear M; have M := M2; clear M2
 obtain ⟨ja, jc, rfl, -, -⟩ := ((hJ1 hjo).rd (by unfold maxLen; omega)).form
 obtain ⟨g, hg⟩ : ∃ g, fs2[0]? = some g := ⟨_, List.getElem?_eq_getElem (by omega)⟩
 refine wp_regionK [15, 18] #[false, false, false, false, false, false, false, false, false, false, false, false, false, false, false, false, false, false, false] rfl M (by kernel_rfl) ?_; clear M; intro w10 M
 refine k_pure 0 S rfl (fun w => y_move S rfl) ?_; clear S a; intro a S
 refine k_pure 1 S rfl (fun w => y_move S rfl) ?_; clear S a; intro a S
 refine k_pure 2 S rfl (fun w => y_nilCheck S rfl) ?_; clear S a; intro a S
 refine k_pure 3 S rfl (fun w => y_fieldAddr (k := 3) S (by kernel_rfl) rfl) ?_; clear S a; intro a S
 refine k_read 4 S rfl (fun w hW => have M := M.grow hW; y_load S (by kernel_rfl) rfl (M.cell 1 rfl rfl)) ?_; clear S a; intro a S
 refine k_pure 5 S rfl (fun w => y_move S rfl) ?_; clear S a; intro a S
 refine k_pure 6 S rfl (fun w => y_nilCheck S rfl) ?_; clear S a; intro a S
 refine k_pure 7 S rfl (fun w => y_fieldAddr (k := 2) S (by kernel_rfl) rfl) ?_; clear S a; intro a S
 refine k_read 8 S rfl (fun w hW => have M := M.grow hW; y_load S (by kernel_rfl) rfl (M.cell 1 rfl rfl)) ?_; clear S a; intro a S
 refine k_read 9 S rfl (fun w hW => have M := M.grow hW; y_indexR (e := 167) (sz := 6) S (by kernel_rfl) rfl (M.readAll 2 rfl (by unfold maxLen; omega)) rfl (by first | omega | (simp; done) | (simp; omega))) ?_; clear S a; intro a S
 refine k_pure 10 S rfl (fun w => y_fieldAddr (k := 0) S (by kernel_rfl) rfl) ?_; clear S a; intro a S
 refine k_read 11 S rfl (fun w hW => have M := M.grow hW; y_load S (by kernel_rfl) rfl ((M.readAll 2 rfl (by unfold maxLen; omega)).at_.row (i := 0) (frC_get hg) rfl 0 (by show 0 < 6; omega))) ?_; clear S a; intro a S
 refine k_pure 12 S rfl (fun w => y_move S rfl) ?_; clear S a; intro a S
 refine k_pure 13 S rfl (fun w => y_build (ps := [(0, .tmp 58), (1, .tmp 59)]) (pl := [(0, 1), (1, 1)]) (z := [.int .i64 0, .slice none 0 0]) (cs := [_, _]) S (by kernel_rfl) rfl (rfl)) ?_; clear S a; intro a S
 refine k_one 14 rfl (by kernel_rfl) ?_
 refine st_lit (ps := [(0, .tmp 60)]) (e := 114) (sz := 2) (zl := [.int .i64 0, .slice none 0 0]) (cs := [_, _]) S M rfl rfl (by kernel_rfl) rfl (rfl) ?_; clear S M a; intro a w11 bY S M hB
 refine wpList_nil ?_; refine then_normal ?_; refine ⟨fun _ => hB, ?_⟩
 refine k_one 15 rfl (by kernel_rfl) ?_
 refine st_append (e := 114) (sz := 2) (by_ := 32) (zc := [.int .i64 0, .slice none 0 0]) S M 4 rfl rfl (by kernel_rfl) rfl (by decide) rfl rfl rfl (show Rd _ _ _ 2 _ 1 [Value.int .i64 g.1.seq, _] from M.sliceAt 0 rfl (M.cellsAt (k := 2) 0 rfl rfl) rfl (Nat.le_refl _) (by unfold maxLen; omega)) (rfl) (by omega) (by unfold maxLen; omega) ?_; clear S M a; intro a w12 vA loA hiA S M
 refine wpList_nil ?_; refine then_normal ?_; refine ⟨fun h => absurd h (by decide), ?_⟩
 refine k_pure 16 S rfl (fun w => y_nilCheck S rfl) ?_; clear S a; intro a S
 refine k_pure 17 S rfl (fun w => y_fieldAddr (k := 3) S (by kernel_rfl) rfl) ?_; clear S a; intro a S
 refine k_one 18 rfl (by kernel_rfl) ?_
 obtain ⟨aD, cD, rfl, -, -⟩ := (M.readAll 0 rfl (by unfold maxLen; omega)).form
 refine qS (sz := 1) (us := [_]) S M 3 ?_; clear M; intro w13 M
 refine wpList_nil ?_; refine then_normal ?_; refine ⟨fun h => absurd h (by decide), ?_⟩
 refine k_end (by kernel_rfl) ?_
 replace S := S.keep [0, 1, 3, 4, 36, 5, 6, 46]
 refine nxE (qG [1, 1, 3] S ?_); clear S a; intro a S
 refine qS (sz := 1) (us := [_]) S M 3 ?_; clear M; intro w14 M
 refine nxA (qR [1, 1, 1, 1, 4, 1, 5] S M ?_); clear S a; intro a S
 refine qS (sz := 1) (us := [_]) S M 3 ?_; clear M; intro w15 M
 refine nxA (qG [1] S ?_); clear S a; intro a S
 refine nxC (wp_ret (end_one S rfl (res_tmp rfl) ?_))
 have hnl2 := hnl
 replace M := M.drop 1
 simp only [List.eraseIdx_cons_succ, List.eraseIdx_cons_zero] at M
 replace M := M.drop 3
 simp only [List.eraseIdx_cons_succ, List.eraseIdx_cons_zero] at M
 replace M := M.drop 3
 simp only [List.eraseIdx_cons_succ, List.eraseIdx_cons_zero] at M
 replace M := M.ord [1, 1, 2] (by simp only [ordO, oG, oS, oE, oZ, oB] <;> rfl)
 have M3 := (M.rowNil 167 6).perm (List.Perm.swap _ _ _)
 clear M
 obtain ⟨r2, hr2⟩ : ∃ r2 : RB, r2 = ⟨lj, hj, ja, jc, outF (s.begun ++ [((f, r.bs) : FrB)])⟩ := ⟨_, rfl⟩
 obtain ⟨ls2, hls2⟩ : ∃ ls2, ls2 = m.ls ++ [(g.1.seq, r2)] := ⟨_, rfl⟩
 have hl2l : ls2.length = m.ls.length + 1 := by rw [hls2, List.length_append]; rfl
 unfold takeP
 rw [if_neg hnl, if_pos hjo]
 have hhd : (s.begun ++ [((f, r.bs) : FrB)]).head?.elim 0 (·.1.seq) = g.1.seq := by
  rw [← hpl2, List.head?_eq_getElem?, List.getElem?_map, hg]; rfl
 rw [hhd]
 obtain ⟨m3, hm3⟩ : ∃ m3 : ScM, m3 = ⟨[], ls2, none, 0, aD, cD, w15.heap.size, w15.heap.size, loA, hiA⟩ := ⟨_, rfl⟩
 refine ⟨rfl, m3.ents b ⟨s.seq + 1, f.inc, [], s.l ++ [(g.1.seq, outF (s.begun ++ [((f, r.bs) : FrB)]))], s.seq + 1⟩, ⟨m3, ⟨by rw [hm3]; rfl, ?_, ?_, ?_⟩, rfl⟩, ?_⟩
 ·rw [hm3]
  show _ = ls2.map FdM.pl
  rw [hls2, List.map_append, O.l, hr2]; rfl
 ·rw [hm3]; intro p hp; cases hp
 ·rw [hm3]
  intro p hp
  replace hp : p ∈ ls2 := hp
  rw [hls2] at hp
  rcases List.mem_append.1 hp with h | h
  ·exact O.short p h
  ·rw [List.mem_singleton.1 h, hr2]; exact ho90
 ·refine Mem.backA ?_
  have hr2e : r2.ent = rowE lj hj 5 1 (.slice ja (outF (s.begun ++ [((f, r.bs) : FrB)])).length jc) (outF (s.begun ++ [((f, r.bs) : FrB)])).length (bcells (outF (s.begun ++ [((f, r.bs) : FrB)]))) := by rw [hr2]; rfl
  have hrow : rowE loA hiA 114 2 (.slice aD (m.ls.length + 1) cD) (m.ls.length + 1) (fdC m.ls ++ [.int .i64 g.1.seq, r2.val]) = rowE loA hiA 114 2 (.slice aD ls2.length cD) ls2.length (fdC ls2) := by rw [hl2l, hls2, fdC_snoc]
  have M4 : Mem wc w15 (.blk b #[.int .i64 (s.seq + 1), .int .i64 f.inc, .slice none 0 0, .slice aD (m.ls.length + 1) cD, .int .i64 (s.seq + 1)] 110 :: rowE w15.heap.size w15.heap.size 167 6 (.slice none 0 0) 0 [] :: rowE loA hiA 114 2 (.slice aD (m.ls.length + 1) cD) (m.ls.length + 1) (fdC m.ls ++ [.int .i64 g.1.seq, r2.val]) :: r2.ent :: (m.ls.map (fun p => p.2.ent) ++ A)) := by
   rw [hr2e, show r2.val = .slice ja (outF (s.begun ++ [((f, r.bs) : FrB)])).length jc by rw [hr2]]
   exact M3.sub (.cons_cons _ (.cons_cons _ (.cons_cons _ (.cons_cons _ (.cons _ (by unfold ScM.rows; rw [List.append_assoc]; exact List.sublist_append_right _ _))))))
  rw [hrow, ← hl2l] at M4
  have hro : m3.rows = m.ls.map (fun p => p.2.ent) ++ [r2.ent] := by
   rw [hm3]; unfold ScM.rows
   show [] ++ ls2.map (fun p => p.2.ent) = _
   rw [hls2, List.map_append]; rfl
  have M6 : Mem wc w15 (_ :: _ :: _ :: (m3.rows ++ A)) := M4.perm (List.Perm.append_left [_, _, _] (by rw [hro]; exact perm_in _ _ _))
  rw [hm3] at M6 ⊢
  exact M6
end Go.Proofs.YtmdededhoibofaaGreat

namespace Go.Proofs.YtmdededhoibofaaGreat
open Go.RowKit Go.Sort
theorem rd_zero {bs : List UInt8} (h : rdE bs = 0) : readF bs = some (rdF bs, rdL bs) := by
 unfold rdE at h; unfold rdF rdL
 cases hR : readF bs with
 | none => rw [hR] at h; simp at h
 | some x => rfl
theorem rd_none {bs : List UInt8} (h : ¬ rdE bs = 0) : readF bs = none := by
 unfold rdE at h
 cases hR : readF bs with
 | none => rfl
 | some x => rw [hR] at h; exact absurd rfl h
theorem rd_may {bs : List UInt8} (h : rdE bs = 0) : (rdF bs).may (rdL bs).length = true := (readF_spec (rd_zero h)).1
theorem stepP_none {s : Sc} {x : List UInt8} (h : ¬ rdE x = 0) : stepP s x = (s, false) := by unfold stepP; rw [rd_none h]
theorem stepP_bad {s : Sc} {x : List UInt8} (h : rdE x = 0) (hg : ¬ goodP s (rdF x) = true) : stepP s x = (s, false) := by unfold stepP; rw [rd_zero h]; exact if_neg hg
theorem stepP_take {s : Sc} {x : List UInt8} (h : rdE x = 0) (hg : goodP s (rdF x) = true) : stepP s x = takeP s (rdF x, rdL x) := by unfold stepP; rw [rd_zero h]; exact if_pos hg
theorem scanP_cons (s : Sc) (x : List UInt8) (t : List (List UInt8)) : scanP s (x :: t) = if (stepP s x).2 = true then scanP (stepP s x).1 t else (stepP s x).1 := by rw [scanP]
theorem takeP_len (s : Sc) (x : FrB) : (takeP s x).1.seq = s.seq + 1 ∧ (takeP s x).1.begun.length ≤ s.begun.length + 1 ∧ (takeP s x).1.l.length ≤ s.l.length + 1 := by
 unfold takeP
 split
 ·exact ⟨rfl, by simp, Nat.le_succ _⟩
 ·split
  ·exact ⟨rfl, Nat.zero_le _, by simp⟩
  ·exact ⟨rfl, by simp, Nat.le_succ _⟩
theorem perm_rt {α : Type} (P : List α) (t r : α) (B E : List α) : (P ++ t :: r :: (B ++ E)).Perm ((P ++ (E ++ B)) ++ [t, r]) := by
 rw [List.append_assoc]
 exact List.Perm.append_left _ ((List.perm_append_comm (l₁ := [t, r]) (l₂ := B ++ E)).trans (List.Perm.append_right _ List.perm_append_comm))
theorem perm_scan {α : Type} (x y f d t g s n r : α) (B : List α) : (x :: y :: f :: d :: t :: g :: s :: n :: r :: B).Perm (f :: d :: t :: g :: n :: r :: s :: x :: y :: B) :=
 ((List.perm_append_comm (l₁ := [x, y]) (l₂ := [f, d, t, g, s, n, r])).append_right B).trans ((((List.perm_append_comm (l₁ := [s]) (l₂ := [n, r])).append_right [x, y]).append_left [f, d, t, g]).append_right B)
def SfH (tail : Int) (bf bd bT bG bN bR bS b : Nat) (A E E1 : List Ent) : List Ent :=
 .blk bf #[.int .i64 tail] 3 :: .blk bd #[.pointer (some ⟨b, 0, none⟩)] 53 :: .blk bT #[.func (.func 86) #[.pointer (some ⟨bS, 0, none⟩)] #[]] 161 :: .blk bG #[.func (.func 85) #[.pointer (some ⟨bS, 0, none⟩)] #[]] 161 :: .blk bN #[.int .i64 0] 34 :: .blk bR #[.int .i64 0, .int .i64 0, .slice none 0 0, .slice none 0 0, .int .i64 0] 110 :: (E1 ++ (A ++ E))
noncomputable def sc0 (tail : Int) : Sc := ⟨tail, 0, [], [], tail⟩
noncomputable def scanOf (S : DS) (tail : Int) : Sc := scanP (sc0 tail) (secsOf S tail)
noncomputable def scanG (S : DS) (tail : Int) : Sc := scanP (sc0 tail) (secsG S tail)
theorem scanG_eq (S : DS) {tail : Int} (h : tail ≤ 4294967296) : scanG S tail = scanOf S tail := by unfold scanG scanOf; rw [secsG_eq S h]
def ScanP (wc : World) (A E : List Ent) (s : Sc) (e : Ending) (w' : World) : Prop := ∃ (sq ic : Int) (ba : Option Addr) (bn bc : Nat) (ls : List FdM) (la : Option Addr) (lc lo hi : Nat), e = .returned (.tuple #[.agg #[.int .i64 sq, .int .i64 ic, .slice ba bn bc, .slice la ls.length lc, .int .i64 s.next], .int .i64 0]) ∧ s.l = ls.map FdM.pl ∧ (∀ p ∈ ls, p.2.bs.length ≤ 90) ∧ ls.length ≤ 24 ∧ Mem wc w' (rowE lo hi 114 2 (.slice la ls.length lc) ls.length (fdC ls) :: (ls.map (fun p => p.2.ent) ++ (A ++ E)))
set_option maxHeartbeats 4000000 in
theorem scan_anyG {wc w : World} {A E : List Ent} {b : Nat} {S0 : DS} (tail : Int) (hE : DkE b S0 E) (M : Mem wc w (A ++ E)) (hup : S0.down = false) (hw : ∀ k, (S0.cache k).length ≤ 1000000) (ht : 1 ≤ tail ∧ tail ≤ 1099511627776) :
 Calls Tryz.prog 52 #[.pointer (some ⟨b, 0, none⟩), .int .i64 tail] w (ScanP wc A E (scanG S0 tail)) := by
 refine calls_enterM Tryz.func52 rfl 60 rfl rfl ?_; intro a S
 refine nxD (st_alloc S M rfl rfl #[.int .i64 0, .int .i64 0, .slice none 0 0, .slice none 0 0, .int .i64 0] (by kernel_rfl) ?_); clear S M a; intro a w1 bR S M hB
 refine st_alloc S M rfl rfl #[.int .i64 0] (by kernel_rfl) ?_; clear S M a; intro a w2 bN S M hB
 refine nxC (wp_scope_straight ?_)
 refine wp_seq (nxD (qG [1] S ?_)); clear S a; intro a S
 refine qY S (y_eqlPS (by kernel_rfl) S rfl) ?_; clear S a; intro a S
 refine nxC (st_condF S rfl (wp_skip (then_normal (wp_seq (nxD (qG [1] S ?_)))))); clear S a; intro a S
 refine qQ (xs := [.tmp 19]) S (qE Tryz.func84) rfl (PlaceJ tail _) M ?_; clear S M a; intro a w3 S hK M
 refine qG [1, 1, 1, 1, 1] S ?_; clear S a; intro a S
 refine nxC (wp_seq ?_)
 have hpe : plE tail = 0 := by unfold plE; rw [if_pos (by omega)]
 rw [hpe] at S
 refine wp_region_lit (qG [1, 1] S ?_); clear S a; intro a S
 refine nxC (st_if (t := 24) S rfl ?_ ?_)
 ·clear S; intro h24 S
  exact absurd rfl h24
 clear S; intro h24 S
 refine st_condF S rfl (wp_skip (nxE (qG [1, 1] S ?_))); clear S a; intro a S
 refine qY S (y_build (ps := [(0, .tmp 26), (4, .tmp 27)]) (pl := [(0, 1), (1, 1), (2, 1), (3, 1), (4, 1)]) (z := [.int .i64 0, .int .i64 0, .slice none 0 0, .slice none 0 0, .int .i64 0]) (cs := [_, _, _, _, _]) S (by kernel_rfl) rfl (rfl)) ?_; clear S a; intro a S
 refine st_alloc S M rfl rfl #[.int .i64 0, .int .i64 0, .slice none 0 0, .slice none 0 0, .int .i64 0] (by kernel_rfl) ?_; clear S M a; intro a w4 bS S M hB
 refine qS (sz := 5) (us := [_, _, _, _, _]) S M 0 ?_; clear M; intro w5 M
 refine nxA (qY S (y_makeFunc (fs := [.tmp 8]) (cs := []) S rfl rfl) ?_); clear S a; intro a S
 refine qY S (y_makeFunc (fs := [.tmp 8]) (cs := []) S rfl rfl) ?_; clear S a; intro a S
 refine st_alloc S M rfl rfl #[.nilFunc] (by kernel_rfl) ?_; clear S M a; intro a w6 bG S M hB
 refine st_alloc S M rfl rfl #[.nilFunc] (by kernel_rfl) ?_; clear S M a; intro a w7 bT S M hB
 refine qS (sz := 1) (us := [_]) S M 1 ?_; clear M; intro w8 M
 refine qS (sz := 1) (us := [_]) S M 0 ?_; clear M; intro w9 M
 refine nxC (wp_seq (wp_label ?_))
 refine then_normal (wp_seq (nxD (qG [1, 1] S ?_))); clear S a; intro a S
 refine qC (xs := [.tmp 31, .tmp 32]) S (qE Tryz.func87) rfl (sectors_any b tail _) ?_
 rintro _ w10 ⟨bf, bd, rfl, M1⟩; refine ⟨_, rfl, ?_⟩; clear S a; intro a S; replace M := M.join M1; clear M1
 simp only [List.cons_append, List.nil_append] at M
 replace S := S.keep [0, 1, 4, 5, 16, 7, 24, 8, 9, 10, 33]
 refine nxC (wp_block ?_)
 replace M : Mem wc w10 (SfH tail bf bd bT bG bN bR bS b A E (ScM.ents bS (sc0 tail) ⟨[], [], none, 0, none, 0, w10.heap.size, w10.heap.size, w10.heap.size, w10.heap.size⟩)) := by
  have M1 := (M.rowNil 114 2).rowNil 167 6
  exact M1.perm (perm_scan _ _ _ _ _ _ _ _ _ _)
 refine wp_rangeV (V := secV) (xs := secsG S0 tail) S M rfl (enters_of Tryz.func129 (by decide) rfl) (sectors1_gen b bf bd tail S0 hup hw ht) (fun x vs E hV => by obtain ⟨v, lo, hi, rfl, -, -⟩ := hV; rfl) (by kernel_rfl) (fun pre Hs => ∃ s E1, (∀ t, scanP (sc0 tail) (pre ++ t) = scanP s t) ∧ s.begun.length ≤ pre.length ∧ s.l.length ≤ pre.length ∧ s.seq = tail + (pre.length : Int) ∧ ScE bS s E1 ∧ Hs = SfH tail bf bd bT bG bN bR bS b A E E1) (fun c pre Hs => c = .exit 0 ∧ ∃ s E1, (∀ t, scanP (sc0 tail) (pre ++ t) = s) ∧ s.l.length ≤ pre.length ∧ ScE bS s E1 ∧ Hs = SfH tail bf bd bT bG bN bR bS b A E E1) (⟨sc0 tail, _, fun t => rfl, Nat.le_refl _, Nat.le_refl _, by simp [sc0], ⟨_, ⟨rfl, rfl, fun p hp => (by cases hp), fun p hp => (by cases hp)⟩, rfl⟩, rfl⟩) (fun pre Hs W TT hI M => by obtain ⟨s, E1, -, -, -, -, -, rfl⟩ := hI; exact ⟨⟨wc, [], E, hE, M.sub (((((List.sublist_append_right A E).trans (List.sublist_append_right E1 _)).trans (List.sublist_append_right [_, _, _, _, _, _] _))).trans (List.sublist_append_left _ _))⟩, M.blk 0 rfl, M.blk 1 rfl⟩) ?_ ?_ ?_
 ·intro lY pre x tX Hs EY vs wr BT a hx hV hI M S
  obtain ⟨v, lo, hi, rfl, rfl, h64⟩ := hV
  obtain ⟨s, E1, hrun, hbl, hll, hsq, hE1, rfl⟩ := hI
  have hpl : pre.length < secN tail := by
   have e := congrArg List.length hx
   rw [secsG_len] at e
   simp at e
   omega
  have hpl24 : pre.length ≤ 24 ∧ tail + (pre.length : Int) ≤ 1099511627776 := by unfold secN at hpl; omega
  unfold SfH at M
  simp only [List.cons_append] at M
  simp only [putsL] at S
  refine wpIn_seq ?_
  refine wpI_region (by kernel_rfl) (fun _ _ h => h) ?_
  refine qG [1] S ?_; clear S a; intro a S
  refine nxC (wpI_region (by kernel_rfl) (fun _ _ h => h) ?_)
  refine qG [1] S ?_; clear S a; intro a S
  refine nxC ?_
  refine ⟨_ :: _ :: _ :: _ :: _ :: _ :: (E1 ++ (A ++ E)), M, ?_⟩; clear M; intro wb TT M; simp only [List.cons_append, List.nil_append] at M
  refine wpIn_block ?_
  refine wpIn_seq ?_
  refine wpIn_seq ?_
  replace M := M.perm (perm_rt [_, _, _, _, _, _] _ _ _ _).symm
  simp only [List.cons_append, List.nil_append] at M
  refine wpI_region (by kernel_rfl) (fun _ _ h => h) ?_
  refine qG [1, 1] S ?_; clear S a; intro a S
  refine nxC (st_if (t := 37) S rfl ?_ ?_)
  ·clear S; intro h37 S
   exact absurd rfl h37
  clear S; intro h37 S
  refine stI_condF S rfl ?_
  refine wpIn_skip ?_
  refine then_normal (wpIn_seq ?_)
  refine wpI_region (by kernel_rfl) (fun _ _ h => h) ?_
  refine qG [1] S ?_; clear S a; intro a S
  refine qC (xs := [.tmp 41]) S (qE Tryz.func88) rfl (read_any v x _ (M.readAll 7 rfl (by unfold maxLen; omega)) (by omega)) ?_
  rintro _ w11 hP; obtain ⟨ad, cap, loX, hiX, rfl, hK, M2⟩ := read_uni M hP; refine ⟨_, rfl, ?_⟩; clear S M a; intro a S; have M := M2; clear M2 hP
  refine qG [1, 1, 1] S ?_; clear S a; intro a S
  refine st_alloc S M rfl rfl #[.int .i64 0, .int .i64 0, .int .i64 0, .int .i64 0, .int .u32 0, .slice none 0 0] (by kernel_rfl) ?_; clear S M a; intro a w12 bX S M hB
  refine qS (sz := 6) (us := [_, _, _, _, _, _]) S M 0 ?_; clear M; intro w13 M
  refine qG [1] S ?_; clear S a; intro a S
  refine nxC (wpIn_seq ?_)
  refine wpI_region (by kernel_rfl) (fun _ _ h => h) ?_
  refine qG [1, 1, 1] S ?_; clear S a; intro a S
  refine st_if (t := 47) S rfl ?_ ?_
  ·clear S; intro h47 S
   refine qG [0, 0, 0, 0, 1, 1] S ?_; clear S a; intro a S
   refine st_no S rfl rfl rfl ?_; clear S a; intro a S
   refine qG [0, 0, 0, 1] S ?_; clear S a; intro a S
   replace S := S.keep [0, 1, 4, 5, 16, 7, 24, 8, 9, 10, 33, 11, 12, 37, 13, 14, 58]
   refine nxC (stI_condT S rfl ?_)
   refine wpIn_exit ?_
   refine block_miss rfl ?_
   obtain ⟨s9, E9, hst, hl9, hE9, M5⟩ : ∃ s9 E9, stepP s x = (s9, false) ∧ s9.l.length ≤ s.l.length + 1 ∧ ScE bS s9 E9 ∧ Mem wc w13 (SfH tail bf bd bT bG bN bR bS b A E E9 ++ [TT, rowE lo hi 5 1 v x.length (bcells x)]) := by
    first
     | exact ⟨s, E1, stepP_none h47, by omega, hE1, by unfold SfH; exact ((M.drop 0).drop 0).perm (perm_rt [_, _, _, _, _, _] _ _ _ _)⟩
     | exact ⟨s, E1, stepP_bad h47 (by rw [h53]; simp), by omega, hE1, by unfold SfH; exact ((M.drop 0).drop 0).perm (perm_rt [_, _, _, _, _, _] _ _ _ _)⟩
     | exact ⟨_, E2, (stepP_take h47 h53).trans (Prod.ext rfl h58), (takeP_len _ _).2.2, hE2, by unfold SfH; exact (M.drop 0).perm (perm_rt [_, _, _, _, _, _] _ _ _ _)⟩
   refine ⟨_, M5, rfl, s9, E9, fun t => ?_, by rw [List.length_append]; simp; omega, hE9, rfl⟩
   rw [List.append_assoc, List.singleton_append, hrun, scanP_cons, hst]; rfl
  clear S; intro h47 S
  refine qR [6] S M ?_; clear S a; intro a S
  refine qY S (y_loadAgg (cs := [_, _, _, _, _, _]) S (by kernel_rfl) rfl rfl (M.cellsAt (k := 6) 0 rfl rfl)) ?_; clear S a; intro a S
  refine st_callB (xs := [.tmp 49]) (fi := [_]) (ca := []) S (enters_of Tryz.func85 (by decide) rfl) rfl rfl (rfl) rfl (good_any (A := _ :: _ :: _ :: _ :: _ :: _ :: _ :: _ :: _ :: _ :: (A ++ E)) (rdF x) ad (rdL x).length cap hE1 M (by omega)) ?_
  rintro _ w14 ⟨rfl, M2⟩; refine ⟨_, rfl, ?_⟩; clear S M a; intro a S; have M := M2; clear M2
  simp only [List.cons_append, List.nil_append] at M
  refine qG [1, 1, 1] S ?_; clear S a; intro a S
  refine st_if (t := 53) S rfl ?_ ?_
  ·clear S; intro h53 S
   refine st_no S rfl rfl rfl ?_; clear S a; intro a S
   refine qG [0, 0, 0, 1] S ?_; clear S a; intro a S
   replace S := S.keep [0, 1, 4, 5, 16, 7, 24, 8, 9, 10, 33, 11, 12, 37, 13, 14, 58]
   refine nxC (stI_condT S rfl ?_)
   refine wpIn_exit ?_
   refine block_miss rfl ?_
   obtain ⟨s9, E9, hst, hl9, hE9, M5⟩ : ∃ s9 E9, stepP s x = (s9, false) ∧ s9.l.length ≤ s.l.length + 1 ∧ ScE bS s9 E9 ∧ Mem wc w14 (SfH tail bf bd bT bG bN bR bS b A E E9 ++ [TT, rowE lo hi 5 1 v x.length (bcells x)]) := by
    first
     | exact ⟨s, E1, stepP_none h47, by omega, hE1, by unfold SfH; exact ((M.drop 0).drop 0).perm (perm_rt [_, _, _, _, _, _] _ _ _ _)⟩
     | exact ⟨s, E1, stepP_bad h47 (by rw [h53]; simp), by omega, hE1, by unfold SfH; exact ((M.drop 0).drop 0).perm (perm_rt [_, _, _, _, _, _] _ _ _ _)⟩
     | exact ⟨_, E2, (stepP_take h47 h53).trans (Prod.ext rfl h58), (takeP_len _ _).2.2, hE2, by unfold SfH; exact (M.drop 0).perm (perm_rt [_, _, _, _, _, _] _ _ _ _)⟩
   refine ⟨_, M5, rfl, s9, E9, fun t => ?_, by rw [List.length_append]; simp; omega, hE9, rfl⟩
   rw [List.append_assoc, List.singleton_append, hrun, scanP_cons, hst]; rfl
  clear S; intro h53 S
  skip
  replace M := M.front 1 rfl
  simp only [List.eraseIdx_cons_succ, List.eraseIdx_cons_zero] at M
  refine qY S (y_load S (by kernel_rfl) rfl (M.cell 4 rfl rfl)) ?_; clear S a; intro a S
  refine qY S (y_loadAgg (cs := [_, _, _, _, _, _]) S (by kernel_rfl) rfl rfl (M.cellsAt (k := 6) 1 rfl rfl)) ?_; clear S a; intro a S
  refine st_callB (xs := [.tmp 55]) (fi := [_]) (ca := []) S (enters_of Tryz.func86 (by decide) rfl) rfl rfl (rfl) rfl (take_any (A := _ :: _ :: _ :: _ :: _ :: _ :: _ :: _ :: _ :: (A ++ E)) (rdF x) ⟨loX, hiX, ad, cap, rdL x⟩ hE1 M (by omega) (by omega) (by omega) (rd_may h47)) ?_
  rintro _ w15 ⟨rfl, E2, hE2, M2⟩; refine ⟨_, rfl, ?_⟩; clear S M a; intro a S; have M := M2; clear M2
  simp only [List.cons_append, List.nil_append] at M
  refine qG [1, 1] S ?_; clear S a; intro a S
  replace S := S.keep [0, 1, 4, 5, 16, 7, 24, 8, 9, 10, 33, 11, 12, 37, 13, 14, 58]
  refine nxC (st_fi (t := 58) S rfl ?_ ?_)
  ·clear S; intro h58 S
   refine stI_condF S rfl ?_
   refine wpIn_skip ?_
   refine block_normal ?_
   have hst := (stepP_take h47 h53).trans (show takeP s (rdF x, rdL x) = ((takeP s (rdF x, rdL x)).1, true) from Prod.ext rfl h58)
   have hln := takeP_len s (rdF x, rdL x)
   have M5 : Mem wc w15 (SfH tail bf bd bT bG bN bR bS b A E E2 ++ [TT, rowE lo hi 5 1 v x.length (bcells x)]) := by unfold SfH; exact (M.drop 0).perm (perm_rt [_, _, _, _, _, _] _ _ _ _)
   refine ⟨_, M5, _, E2, fun t => ?_, ?_, ?_, ?_, hE2, rfl⟩
   ·rw [List.append_assoc, List.singleton_append, hrun, scanP_cons, hst]; rfl
   ·rw [List.length_append]; exact Nat.le_trans hln.2.1 (by simp; omega)
   ·rw [List.length_append]; exact Nat.le_trans hln.2.2 (by simp; omega)
   ·rw [List.length_append]; refine hln.1.trans ?_; simp; omega
  clear S; intro h58 S
  refine stI_condT S rfl ?_
  refine wpIn_exit ?_
  refine block_miss rfl ?_
  obtain ⟨s9, E9, hst, hl9, hE9, M5⟩ : ∃ s9 E9, stepP s x = (s9, false) ∧ s9.l.length ≤ s.l.length + 1 ∧ ScE bS s9 E9 ∧ Mem wc w15 (SfH tail bf bd bT bG bN bR bS b A E E9 ++ [TT, rowE lo hi 5 1 v x.length (bcells x)]) := by
   first
    | exact ⟨s, E1, stepP_none h47, by omega, hE1, by unfold SfH; exact ((M.drop 0).drop 0).perm (perm_rt [_, _, _, _, _, _] _ _ _ _)⟩
    | exact ⟨s, E1, stepP_bad h47 (by rw [h53]; simp), by omega, hE1, by unfold SfH; exact ((M.drop 0).drop 0).perm (perm_rt [_, _, _, _, _, _] _ _ _ _)⟩
    | exact ⟨_, E2, (stepP_take h47 h53).trans (Prod.ext rfl h58), (takeP_len _ _).2.2, hE2, by unfold SfH; exact (M.drop 0).perm (perm_rt [_, _, _, _, _, _] _ _ _ _)⟩
  refine ⟨_, M5, rfl, s9, E9, fun t => ?_, by rw [List.length_append]; simp; omega, hE9, rfl⟩
  rw [List.append_assoc, List.singleton_append, hrun, scanP_cons, hst]; rfl
 ·intro D1 wd Hs a hI M S
  obtain ⟨s, E1, hrun, hbl, hll, hsq, hE1, rfl⟩ := hI
  have hfin : scanG S0 tail = s := by
   have := hrun []
   rw [List.append_nil] at this
   exact this
  have hll2 : s.l.length ≤ 24 := by
   rw [secsG_len] at hll; unfold secN at hll; omega
  obtain ⟨m, O, rfl⟩ := hE1
  simp only [SfH, ScM.ents, List.cons_append] at M
  refine block_normal (nxE (qY S (y_loadAgg (cs := [_, _, _, _, _]) S (by kernel_rfl) rfl rfl (M.cellsAt (k := 5) 7 rfl rfl)) ?_)); clear S a; intro a S
  refine qS (sz := 5) (us := [_, _, _, _, _]) S M 6 ?_; clear M; intro w16 M
  refine qS (sz := 1) (us := [_]) S M 5 ?_; clear M; intro w17 M
  refine nxC (wp_ret (sc_ret ?_))
  refine end_mark S M 0 rfl ?_; clear S M a; intro a wM S M
  simp only [List.eraseIdx_cons_succ, List.eraseIdx_cons_zero] at M
  refine end_plain ?_
  refine end_two S rfl (res_agg (cs := [_, _, _, _, _]) (by kernel_rfl) rfl rfl (M.cellsAt (k := 5) 5 rfl rfl)) (res_cell (by kernel_rfl) rfl (M.cell 4 rfl rfl)) ?_
  rw [hfin]
  have hlsl : s.l.length = m.ls.length := by rw [O.l, List.length_map]
  replace M := M.drop 0
  simp only [List.eraseIdx_cons_succ, List.eraseIdx_cons_zero] at M
  replace M := M.drop 0
  simp only [List.eraseIdx_cons_succ, List.eraseIdx_cons_zero] at M
  replace M := M.drop 0
  simp only [List.eraseIdx_cons_succ, List.eraseIdx_cons_zero] at M
  replace M := M.drop 0
  simp only [List.eraseIdx_cons_succ, List.eraseIdx_cons_zero] at M
  replace M := M.drop 0
  simp only [List.eraseIdx_cons_succ, List.eraseIdx_cons_zero] at M
  replace M := M.drop 0
  simp only [List.eraseIdx_cons_succ, List.eraseIdx_cons_zero] at M
  replace M := M.drop 0
  simp only [List.eraseIdx_cons_succ, List.eraseIdx_cons_zero] at M
  replace M := M.drop 0
  simp only [List.eraseIdx_cons_succ, List.eraseIdx_cons_zero] at M
  exact ⟨_, _, _, _, _, m.ls, m.la, m.lc, m.lo2, m.hi2, rfl, O.l, O.short, by omega, M.sub (.cons_cons _ (by unfold ScM.rows; rw [List.append_assoc]; exact List.sublist_append_right _ _))⟩
 intro D1 wd Hs a cX pre x tX hx hX M S
 obtain ⟨rfl, s, E1, hrun, hll, hE1, rfl⟩ := hX
 have hfin : scanG S0 tail = s := by
  have := hrun tX
  rw [List.append_assoc, List.singleton_append, ← hx] at this
  exact this
 have hll2 : s.l.length ≤ 24 := by
  have e := congrArg List.length hx
  rw [secsG_len] at e
  simp at e hll
  unfold secN at e
  omega
 obtain ⟨m, O, rfl⟩ := hE1
 simp only [SfH, ScM.ents, List.cons_append] at M
 refine wp_exit (block_hit (nxE (qY S (y_loadAgg (cs := [_, _, _, _, _]) S (by kernel_rfl) rfl rfl (M.cellsAt (k := 5) 7 rfl rfl)) ?_))); clear S a; intro a S
 refine qS (sz := 5) (us := [_, _, _, _, _]) S M 6 ?_; clear M; intro w18 M
 refine qS (sz := 1) (us := [_]) S M 5 ?_; clear M; intro w19 M
 refine nxC (wp_ret (sc_ret ?_))
 refine end_mark S M 0 rfl ?_; clear S M a; intro a wM S M
 simp only [List.eraseIdx_cons_succ, List.eraseIdx_cons_zero] at M
 refine end_plain ?_
 refine end_two S rfl (res_agg (cs := [_, _, _, _, _]) (by kernel_rfl) rfl rfl (M.cellsAt (k := 5) 5 rfl rfl)) (res_cell (by kernel_rfl) rfl (M.cell 4 rfl rfl)) ?_
 rw [hfin]
 have hlsl : s.l.length = m.ls.length := by rw [O.l, List.length_map]
 replace M := M.drop 0
 simp only [List.eraseIdx_cons_succ, List.eraseIdx_cons_zero] at M
 replace M := M.drop 0
 simp only [List.eraseIdx_cons_succ, List.eraseIdx_cons_zero] at M
 replace M := M.drop 0
 simp only [List.eraseIdx_cons_succ, List.eraseIdx_cons_zero] at M
 replace M := M.drop 0
 simp only [List.eraseIdx_cons_succ, List.eraseIdx_cons_zero] at M
 replace M := M.drop 0
 simp only [List.eraseIdx_cons_succ, List.eraseIdx_cons_zero] at M
 replace M := M.drop 0
 simp only [List.eraseIdx_cons_succ, List.eraseIdx_cons_zero] at M
 replace M := M.drop 0
 simp only [List.eraseIdx_cons_succ, List.eraseIdx_cons_zero] at M
 replace M := M.drop 0
 simp only [List.eraseIdx_cons_succ, List.eraseIdx_cons_zero] at M
 exact ⟨_, _, _, _, _, m.ls, m.la, m.lc, m.lo2, m.hi2, rfl, O.l, O.short, by omega, M.sub (.cons_cons _ (by unfold ScM.rows; rw [List.append_assoc]; exact List.sublist_append_right _ _))⟩
end Go.Proofs.YtmdededhoibofaaGreat

namespace Go.Proofs.YtmdededhoibofaaGreat
open Go.RowKit Go.Sort
abbrev kcellsL (p : Int × Int) : List Value := [.int .i64 p.1, .int .i64 p.2]
abbrev kcells (l : List (Int × Int)) : List Value := l.flatMap kcellsL
theorem kcells_length : ∀ l, (kcells l).length = l.length * 2
 | [] => rfl
 | x :: l => by
   show (kcellsL x ++ kcells l).length = _
   rw [List.length_append, kcells_length l]; simp; omega
theorem kcells_get {l : List (Int × Int)} {i : Nat} {x : Int × Int} (hx : l[i]? = some x) : ((kcells l).drop (i * 2)).take 2 = kcellsL x := by
 obtain ⟨hlt, he⟩ := List.getElem?_eq_some_iff.1 hx
 have e : kcells l = kcells (l.take i) ++ (kcellsL x ++ kcells (l.drop (i + 1))) := by
  conv => lhs; rw [← List.take_append_drop i l, List.drop_eq_getElem_cons hlt, he]
  simp [kcells]
 rw [e, show i * 2 = (kcells (l.take i)).length by rw [kcells_length, List.length_take]; omega, List.drop_left]
 rfl
def keptAt (secs : List Sec) (p : Int × Int) : Option RB := match secOf secs p.1 with
 | some s => if 1 ≤ p.2 then s.ws[(p.2 - 1).toNat]? else none
 | none => none
def keptP (secs : List Sec) : List (Int × Int) → List Int → List (Nat × RB)
 | [], _ => []
 | p :: l, told => if (0 ≤ p.1 ∧ p.1 < 34) ∧ p.1 ∉ told then (match keptAt secs p with
    | some r => [(p.1.toNat, r)]
    | none => []) ++ keptP secs l (p.1 :: told) else keptP secs l told
abbrev encK (x : Nat × RB) : List Value := [.int .i64 (x.1 : Int), x.2.val]
def tcells (told : List Int) : List Value := (List.range 34).map fun i : Nat => .bool (decide ((i : Int) ∈ told))
theorem tcells_len (told : List Int) : (tcells told).length = 34 := by simp [tcells]
theorem tcells_get (told : List Int) {k : Nat} (h : k < 34) : (tcells told).toArray[k]? = some (.bool (decide ((k : Int) ∈ told))) := by
 rw [List.getElem?_toArray]; simp [tcells, h]
theorem tcells_put (told : List Int) {k : Nat} (h : k < 34) : putL (tcells told) k [.bool true] = tcells ((k : Int) :: told) := by
 have hl := tcells_len told
 have e : (tcells told)[k]'(by omega) = .bool (decide ((k : Int) ∈ told)) := by simp [tcells]
 have h1 : tcells told = (tcells told).take k ++ ([.bool (decide ((k : Int) ∈ told))] ++ (tcells told).drop (k + 1)) := by
  conv => lhs; rw [← List.take_append_drop k (tcells told), List.drop_eq_getElem_cons (by omega), e]
  rfl
 have h2 := putL_mid (A := (tcells told).take k) (B := [Value.bool (decide ((k : Int) ∈ told))]) (C := (tcells told).drop (k + 1)) (us := [.bool true]) rfl
 rw [show ((tcells told).take k).length = k by rw [List.length_take]; omega, ← h1] at h2
 rw [h2]
 refine List.ext_getElem? fun j => ?_
 by_cases hj : j < 34
 ·have hr : (tcells ((k : Int) :: told))[j]? = some (.bool (decide ((j : Int) ∈ (k : Int) :: told))) := by simp [tcells, hj]
  rw [hr]
  rcases Nat.lt_trichotomy j k with h3 | h3 | h3
  ·rw [List.getElem?_append_left (by rw [List.length_take]; omega), List.getElem?_take_of_lt h3]
   have : ¬ (j : Int) = (k : Int) := by omega
   simp [tcells, hj, this]
  ·subst h3
   rw [List.getElem?_append_right (by rw [List.length_take]; omega), List.length_take, show j - min j (tcells told).length = 0 by omega]
   simp
  ·rw [List.getElem?_append_right (by rw [List.length_take]; omega), List.length_take, show j - min k (tcells told).length = (j - k - 1) + 1 by omega]
   simp only [List.cons_append, List.nil_append, List.getElem?_cons_succ, List.getElem?_drop]
   rw [show k + 1 + (j - k - 1) = j by omega]
   have : ¬ (j : Int) = (k : Int) := by omega
   simp [tcells, hj, this]
 ·rw [List.getElem?_eq_none (by simp only [List.length_append, List.length_take, List.length_cons, List.length_nil, List.length_drop, hl]; omega), List.getElem?_eq_none (by rw [tcells_len]; omega)]
structure KC (D : Dk) (bp bd : Nat) (pa : Option Addr) (pc : Nat) (plan : List (Int × Int)) (W : World) : Prop where
 disk : ∃ dur, dur.length = 2176 ∧ Blk W D.b (dcells dur D.m D.down).toArray 95
 map : W.heap[D.m]? = some (.map (D.ml.map (·.2)).toArray D.cl)
 rows : ∀ s ∈ D.secs, Rd 0 W.heap.size W 1 s.val s.ws.length (s.ws.map RB.val)
 pl : Blk W bp #[.slice pa plan.length pc] 57
 dp : Blk W bd #[.pointer (some ⟨D.b, 0, none⟩)] 53
 plan : Rd 0 W.heap.size W 2 (.slice pa plan.length pc) plan.length (kcells plan)
theorem KC.look {D : Dk} (O : D.Ok) (bp bd : Nat) (pa : Option Addr) (pc : Nat) (plan : List (Int × Int)) (k : Int) : ∃ (v : Value) (ws : List RB), (getM D.ml k).getD (.slice none 0 0) = v ∧ (∀ W, KC D bp bd pa pc plan W → Rd 0 W.heap.size W 1 v ws.length (ws.map RB.val)) ∧ (∀ n : Int, keptAt D.secs (k, n) = if 1 ≤ n then ws[(n - 1).toNat]? else none) := by
 cases hs : secOf D.secs k with
 | none => exact ⟨_, [], by rw [O.tell, hs]; rfl, fun _ _ => Rd.nil _ _ _ _, fun n => by unfold keptAt; simp [hs]⟩
 | some s =>
   obtain ⟨P, Q, e, hkey⟩ := secOf_some hs
   exact ⟨_, s.ws, by rw [O.tell, hs]; rfl, fun _ K => K.rows s (by rw [e]; simp), fun n => by unfold keptAt; simp only [hs]⟩
set_option maxHeartbeats 2000000 in
theorem kept1_gen {D : Dk} (O : D.Ok) (bp bd : Nat) (pa : Option Addr) (pc : Nat) (plan : List (Int × Int)) : GenM Tryz.prog 72 [.pointer (some ⟨bp, 0, none⟩), .pointer (some ⟨bd, 0, none⟩)] encK (keptP D.secs plan []) (KC D bp bd pa pc plan) := by
 intro ll w0 I X w Hs0 hC hY h0 M
 have K0 := hC _ _ _ h0 M
 have hpl := K0.plan.2.1
 unfold maxLen at hpl
 refine calls_enterG Tryz.func72 rfl 56 rfl rfl ?_; intro a S
 refine wpIn_seq ?_
 refine wpI_region (by kernel_rfl) (by rintro _ _ ⟨⟨_, h⟩, -⟩; cases h) ?_
 refine st_alloc S M rfl rfl #[.bool false, .bool false, .bool false, .bool false, .bool false, .bool false, .bool false, .bool false, .bool false, .bool false, .bool false, .bool false, .bool false, .bool false, .bool false, .bool false, .bool false, .bool false, .bool false, .bool false, .bool false, .bool false, .bool false, .bool false, .bool false, .bool false, .bool false, .bool false, .bool false, .bool false, .bool false, .bool false, .bool false, .bool false] (by kernel_rfl) ?_; clear S M a; intro a w1 bTO S M hB
 refine nxC (wpIn_seq ?_)
 refine wpI_region (by kernel_rfl) (by rintro _ _ ⟨⟨_, h⟩, -⟩; cases h) ?_
 refine qY S (y_load S (by kernel_rfl) rfl (((hC _ _ _ h0 (M.drop 0)).pl).cells 0)) ?_; clear S a; intro a S
 refine qY S (y_lenS (E := 141) S rfl (by kernel_rfl)) ?_; clear S a; intro a S
 refine qG [1] S ?_; clear S a; intro a S
 refine nxC (wpIn_block ?_)
 refine wpI_loop_g (fun m a w' => ∃ (i : Nat) (told : List Int) (pre : List (Nat × RB)) (Hs : List Ent), i ≤ plan.length ∧ m = plan.length - i ∧ I pre Hs ∧ pre ++ keptP D.secs (plan.drop i) told = keptP D.secs plan [] ∧ Sees 56 a [(0, .func (.yield ll) #[] #[]), (1, .pointer (some ⟨bp, 0, none⟩)), (2, .pointer (some ⟨bd, 0, none⟩)), (4, .pointer (some ⟨bTO, 0, none⟩)), (8, .slice pa plan.length pc), (9, .int .i64 (plan.length : Int)), (10, .int .i64 (i : Int))] ∧ Mem w0 w' (.blk bTO (tcells told).toArray 139 :: Hs)) (plan.length) ?_ ?_
 ·skip
  exact ⟨0, [], [], Hs0, Nat.zero_le _, rfl, h0, rfl, S.sub _ rfl, M⟩
 clear S M a; intro m a wl
 rintro ⟨i, told, pre, Hs, hi', rfl, hI, hpre, S, M⟩
 have KK := hC _ _ _ hI (M.drop 0)
 refine wpIn_seq ?_
 refine wpI_region (by kernel_rfl) (by rintro _ _ ⟨⟨_, h⟩, -⟩; cases h) ?_
 refine qG [1] S ?_; clear S a; intro a S
 refine nxC (wpIn_seq ?_)
 refine st_fi (t := 11) S rfl ?_ ?_
 ·clear S; intro h11 S
  refine stI_condF S rfl ?_
  refine wpIn_exit ?_
  refine then_exit (then_exit (block_hit (end_noneN S rfl ?_)))
  obtain rfl : i = plan.length := by omega
  rw [List.drop_length, keptP, List.append_nil] at hpre
  exact ⟨⟨_, rfl⟩, Hs, M.drop 0, .inl (by rw [← hpre]; exact hI)⟩
 clear S; intro h11 S
 refine stI_condT S rfl ?_
 refine wpIn_skip ?_
 refine then_normal (wpIn_seq ?_)
 refine wpIn_block ?_
 refine wpIn_seq ?_
 obtain ⟨p, hp⟩ : ∃ p, plan[i]? = some p := ⟨_, List.getElem?_eq_getElem (by omega)⟩
 have hdr : plan.drop i = p :: plan.drop (i + 1) := by
  obtain ⟨h9, e9⟩ := List.getElem?_eq_some_iff.1 hp
  rw [List.drop_eq_getElem_cons h9, e9]
 rw [hdr, keptP] at hpre
 refine wpI_region (by kernel_rfl) (by rintro _ _ ⟨⟨_, h⟩, -⟩; cases h) ?_
 refine qY S (y_indexR (e := 141) (sz := 2) S (by kernel_rfl) rfl (KK.plan) rfl (by first | omega | (simp; done) | (simp; omega))) ?_; clear S a; intro a S
 try simp only [Int.toNat_natCast, Nat.mul_one, Nat.zero_add] at S
 refine qY S (y_loadAgg S (by kernel_rfl) rfl rfl (KK.plan.at_.row (i := i) (kcells_get hp) rfl)) ?_; clear S a; intro a S
 refine st_alloc S M rfl rfl #[.int .i64 0, .int .i64 0] (by kernel_rfl) ?_; clear S M a; intro a w2 bKP S M hB
 refine qS (sz := 2) (us := [_, _]) S M 0 ?_; clear M; intro w3 M
 refine nxC (wpIn_seq ?_)
 refine wpIn_seq ?_
 refine wpI_region (by kernel_rfl) (by rintro _ _ ⟨⟨_, h⟩, -⟩; cases h) ?_
 refine qR [1, 1] S M ?_; clear S a; intro a S
 refine qQ (xs := [.tmp 15]) S (qE Tryz.func73) rfl (is_any p.1 _) M ?_; clear S M a; intro a w4 S hK M
 refine qG [1, 1] S ?_; clear S a; intro a S
 refine st_split (t := 18) S rfl ?_ ?_
 ·clear S; intro h18 S
  refine qG [0, 0] S ?_; clear S a; intro a S
  refine st_no S rfl rfl rfl ?_; clear S a; intro a S
  refine qG [0, 1] S ?_; clear S a; intro a S
  refine nxC (stI_condT S rfl ?_)
  refine wpIn_exit ?_
  refine then_exit (block_hit (then_normal (wpI_region (by kernel_rfl) (by rintro _ _ ⟨⟨_, h⟩, -⟩; cases h) ?_)))
  (first | refine qY S (y_addN S rfl rfl (by omega)) ?_ | refine qY S (y_int S rfl rfl rfl) ?_); clear S a; intro a S
  refine qG [1] S ?_; clear S a; intro a S
  refine nxC ?_
  skip
  replace M := M.drop 0
  simp only [List.eraseIdx_cons_succ, List.eraseIdx_cons_zero] at M
  first
   | (have hI2 : I (pre ++ [(kn, r)]) Hs2 := by
       rcases hb with ⟨-, h⟩ | ⟨rfl, -⟩
       ·exact h
       ·cases h54
      exact ⟨plan.length - (i + 1), by omega, i + 1, _, _, Hs2, by omega, rfl, hI2, by rw [← hpre, hkn]; simp, S.sub _ rfl, M⟩)
   | (suffices hno : keptAt D.secs p = none by
       rw [hno] at hpre
       exact ⟨plan.length - (i + 1), by omega, i + 1, _, _, Hs, by omega, rfl, hI, by rw [← hpre, hkn]; simp, S.sub _ rfl, M⟩
      rcases hcase with hno | hbad
      ·exact hno
      ·omega)
   | (rw [if_neg (fun hin => by first | (simp at h18; omega) | (rw [hkn] at hin; simp at h23; exact hin.2 h23))] at hpre
      exact ⟨plan.length - (i + 1), by omega, i + 1, told, pre, Hs, by omega, rfl, hI, hpre, S.sub _ rfl, M⟩)
 clear S; intro h18 S
 refine qR [1, 1] S M ?_; clear S a; intro a S
 obtain ⟨kn, hkn⟩ := Int.eq_ofNat_of_zero_le (show 0 ≤ p.1 by first | omega | (simp at h18; omega))
 have hk34 : kn < 34 := by first | omega | (simp at h18; omega)
 rw [hkn] at S
 refine qY S (y_indexA (m := 34) (sz := 1) S (by kernel_rfl) rfl rfl (by first | omega | (simp; done) | (simp; omega))) ?_; clear S a; intro a S
 try simp only [Int.toNat_natCast, Nat.mul_one, Nat.zero_add] at S
 refine qY S (y_load S (by kernel_rfl) rfl (M.cell 1 rfl (tcells_get told hk34))) ?_; clear S a; intro a S
 refine qG [1] S ?_; clear S a; intro a S
 refine nxC (st_split (t := 23) S rfl ?_ ?_)
 ·clear S; intro h23 S
  refine stI_condT S rfl ?_
  refine wpIn_exit ?_
  refine then_exit (block_hit (then_normal (wpI_region (by kernel_rfl) (by rintro _ _ ⟨⟨_, h⟩, -⟩; cases h) ?_)))
  (first | refine qY S (y_addN S rfl rfl (by omega)) ?_ | refine qY S (y_int S rfl rfl rfl) ?_); clear S a; intro a S
  refine qG [1] S ?_; clear S a; intro a S
  refine nxC ?_
  skip
  replace M := M.drop 0
  simp only [List.eraseIdx_cons_succ, List.eraseIdx_cons_zero] at M
  first
   | (have hI2 : I (pre ++ [(kn, r)]) Hs2 := by
       rcases hb with ⟨-, h⟩ | ⟨rfl, -⟩
       ·exact h
       ·cases h54
      exact ⟨plan.length - (i + 1), by omega, i + 1, _, _, Hs2, by omega, rfl, hI2, by rw [← hpre, hkn]; simp, S.sub _ rfl, M⟩)
   | (suffices hno : keptAt D.secs p = none by
       rw [hno] at hpre
       exact ⟨plan.length - (i + 1), by omega, i + 1, _, _, Hs, by omega, rfl, hI, by rw [← hpre, hkn]; simp, S.sub _ rfl, M⟩
      rcases hcase with hno | hbad
      ·exact hno
      ·omega)
   | (rw [if_neg (fun hin => by first | (simp at h18; omega) | (rw [hkn] at hin; simp at h23; exact hin.2 h23))] at hpre
      exact ⟨plan.length - (i + 1), by omega, i + 1, told, pre, Hs, by omega, rfl, hI, hpre, S.sub _ rfl, M⟩)
 clear S; intro h23 S
 refine stI_condF S rfl ?_
 refine wpIn_skip ?_
 refine then_normal (wpIn_seq ?_)
 have hin : (0 ≤ p.1 ∧ p.1 < 34) ∧ p.1 ∉ told := ⟨by omega, by rw [hkn]; simpa using h23⟩
 rw [if_pos hin] at hpre
 refine wpI_region (by kernel_rfl) (by rintro _ _ ⟨⟨_, h⟩, -⟩; cases h) ?_
 refine qR [1, 1] S M ?_; clear S a; intro a S
 rw [hkn] at S
 refine qY S (y_indexA (m := 34) (sz := 1) S (by kernel_rfl) rfl rfl (by first | omega | (simp; done) | (simp; omega))) ?_; clear S a; intro a S
 try simp only [Int.toNat_natCast, Nat.mul_one, Nat.zero_add] at S
 refine st_store (sz := 1) (us := [_]) S M 1 rfl (by kernel_rfl) rfl rfl rfl rfl rfl rfl (by rw [tcells_len]; show _ + 1 ≤ 34; omega) ?_; clear M; intro w5 M
 simp only [List.set_cons_zero, List.set_cons_succ] at M
 replace S := S.keep [0, 1, 2, 4, 8, 9, 10, 11, 6, 23]
 refine nxC (wpIn_seq ?_)
 rw [tcells_put told hk34] at M
 obtain ⟨v, ws, hval, hRd, hka⟩ := KC.look O bp bd pa pc plan p.1
 have hka := hka p.2
 have hcase : keptAt D.secs p = none ∨ (1 ≤ p.2 ∧ p.2 ≤ (ws.length : Int)) := by
  by_cases h1 : 1 ≤ p.2 ∧ p.2 ≤ (ws.length : Int)
  ·exact .inr h1
  ·refine .inl ?_
   rw [hka]
   split
   ·exact List.getElem?_eq_none (by omega)
   ·rfl
 refine wpI_regionK [] #[false, false, false, false, false, false, false, false] rfl M (by kernel_rfl) (by kernel_rfl) (by rintro _ _ ⟨⟨_, h⟩, -⟩; cases h) ?_; clear M; intro w6 M
 refine k_read 0 S rfl (fun w hW => have M := M.grow hW; y_load S (by kernel_rfl) rfl ((hC _ _ _ hI ((M.drop 0).drop 0)).dp.cells 0)) ?_; clear S a; intro a S
 refine k_pure 1 S rfl (fun w => y_nilCheck S rfl) ?_; clear S a; intro a S
 refine k_pure 2 S rfl (fun w => y_fieldAddr (k := 2176) S (by kernel_rfl) rfl) ?_; clear S a; intro a S
 refine k_read 3 S rfl (fun w hW => have M := M.grow hW; y_load S (by kernel_rfl) rfl ((by obtain ⟨dur, hd, hB⟩ := (hC _ _ _ hI ((M.drop 0).drop 0)).disk; exact (hB.cells 2176).trans (dcells_map hd _ _)))) ?_; clear S a; intro a S
 refine k_pure 4 S rfl (fun w => y_fieldAddr (k := 0) S (by kernel_rfl) rfl) ?_; clear S a; intro a S
 refine k_read 5 S rfl (fun w hW => have M := M.grow hW; y_load S (by kernel_rfl) rfl (M.cell 0 rfl rfl)) ?_; clear S a; intro a S
 refine k_read 6 S rfl (fun w hW => have M := M.grow hW; y_lookupB S ((hC _ _ _ hI ((M.drop 0).drop 0)).map) (keyJ) (O.good) Tryz.underlying91 (zero_sl) rfl rfl) ?_; clear S a; intro a S
 simp only [Bool.false_eq_true, if_false, hval] at S
 refine k_pure 7 S rfl (fun w => y_assign S rfl) ?_; clear S a; intro a S
 refine k_end (by kernel_rfl) ?_
 refine then_normal (wpIn_seq ?_)
 refine wpIn_seq ?_
 refine wpI_region (by kernel_rfl) (by rintro _ _ ⟨⟨_, h⟩, -⟩; cases h) ?_
 refine qR [2, 1, 1, 1] S M ?_; clear S a; intro a S
 refine st_if (t := 37) S rfl ?_ ?_
 ·clear S; intro h37 S
  refine qG [0, 0, 0, 0, 0, 1] S ?_; clear S a; intro a S
  replace S := S.keep [0, 1, 2, 4, 8, 9, 10, 11, 6, 23, 7, 43]
  refine nxC (stI_condT S rfl ?_)
  refine wpIn_exit ?_
  refine then_exit (block_hit (then_normal (wpI_region (by kernel_rfl) (by rintro _ _ ⟨⟨_, h⟩, -⟩; cases h) ?_)))
  (first | refine qY S (y_addN S rfl rfl (by omega)) ?_ | refine qY S (y_int S rfl rfl rfl) ?_); clear S a; intro a S
  refine qG [1] S ?_; clear S a; intro a S
  refine nxC ?_
  skip
  replace M := M.drop 0
  simp only [List.eraseIdx_cons_succ, List.eraseIdx_cons_zero] at M
  first
   | (have hI2 : I (pre ++ [(kn, r)]) Hs2 := by
       rcases hb with ⟨-, h⟩ | ⟨rfl, -⟩
       ·exact h
       ·cases h54
      exact ⟨plan.length - (i + 1), by omega, i + 1, _, _, Hs2, by omega, rfl, hI2, by rw [← hpre, hkn]; simp, S.sub _ rfl, M⟩)
   | (suffices hno : keptAt D.secs p = none by
       rw [hno] at hpre
       exact ⟨plan.length - (i + 1), by omega, i + 1, _, _, Hs, by omega, rfl, hI, by rw [← hpre, hkn]; simp, S.sub _ rfl, M⟩
      rcases hcase with hno | hbad
      ·exact hno
      ·omega)
   | (rw [if_neg (fun hin => by first | (simp at h18; omega) | (rw [hkn] at hin; simp at h23; exact hin.2 h23))] at hpre
      exact ⟨plan.length - (i + 1), by omega, i + 1, told, pre, Hs, by omega, rfl, hI, hpre, S.sub _ rfl, M⟩)
 clear S; intro h37 S
 refine qR [2, 1, 1] S M ?_; clear S a; intro a S
 refine qY S (y_lenR (E := 58) S rfl (hRd _ (hC _ _ _ hI ((M.drop 0).drop 0))) (by kernel_rfl)) ?_; clear S a; intro a S
 refine qG [1, 1] S ?_; clear S a; intro a S
 replace S := S.keep [0, 1, 2, 4, 8, 9, 10, 11, 6, 23, 7, 43]
 refine nxC (st_if (t := 43) S rfl ?_ ?_)
 ·clear S; intro h43 S
  refine stI_condT S rfl ?_
  refine wpIn_exit ?_
  refine then_exit (block_hit (then_normal (wpI_region (by kernel_rfl) (by rintro _ _ ⟨⟨_, h⟩, -⟩; cases h) ?_)))
  (first | refine qY S (y_addN S rfl rfl (by omega)) ?_ | refine qY S (y_int S rfl rfl rfl) ?_); clear S a; intro a S
  refine qG [1] S ?_; clear S a; intro a S
  refine nxC ?_
  skip
  replace M := M.drop 0
  simp only [List.eraseIdx_cons_succ, List.eraseIdx_cons_zero] at M
  first
   | (have hI2 : I (pre ++ [(kn, r)]) Hs2 := by
       rcases hb with ⟨-, h⟩ | ⟨rfl, -⟩
       ·exact h
       ·cases h54
      exact ⟨plan.length - (i + 1), by omega, i + 1, _, _, Hs2, by omega, rfl, hI2, by rw [← hpre, hkn]; simp, S.sub _ rfl, M⟩)
   | (suffices hno : keptAt D.secs p = none by
       rw [hno] at hpre
       exact ⟨plan.length - (i + 1), by omega, i + 1, _, _, Hs, by omega, rfl, hI, by rw [← hpre, hkn]; simp, S.sub _ rfl, M⟩
      rcases hcase with hno | hbad
      ·exact hno
      ·omega)
   | (rw [if_neg (fun hin => by first | (simp at h18; omega) | (rw [hkn] at hin; simp at h23; exact hin.2 h23))] at hpre
      exact ⟨plan.length - (i + 1), by omega, i + 1, told, pre, Hs, by omega, rfl, hI, hpre, S.sub _ rfl, M⟩)
 clear S; intro h43 S
 refine stI_condF S rfl ?_
 refine wpIn_skip ?_
 refine then_normal (wpIn_seq ?_)
 obtain ⟨r, hr⟩ : ∃ r, ws[(p.2 - 1).toNat]? = some r := ⟨_, List.getElem?_eq_getElem (by omega)⟩
 have hkr : keptAt D.secs p = some r := by rw [hka, if_pos (by omega), hr]
 have hwb := (hRd _ (hC _ _ _ hI ((M.drop 0).drop 0))).2.1
 unfold maxLen at hwb
 rw [hkr] at hpre
 refine wpI_tail 9 M (by kernel_rfl) (by kernel_rfl) (by kernel_rfl) (by rintro _ _ ⟨⟨_, h⟩, -⟩; cases h) ?_; simp only [List.take_succ_cons, List.take_zero, List.drop_succ_cons, List.drop_zero]
 refine qt_y S rfl rfl rfl (fun w M => y_move S rfl) ?_; clear S a; intro a S
 refine qt_y S rfl rfl rfl (fun w M => y_fieldAddr (k := 0) S (by kernel_rfl) rfl) ?_; clear S a; intro a S
 refine qt_y S rfl rfl rfl (fun w M => y_load S (by kernel_rfl) rfl (M.cell 0 rfl rfl)) ?_; clear S a; intro a S
 refine qt_y S rfl rfl rfl (fun w M => y_move S rfl) ?_; clear S a; intro a S
 refine qt_y S rfl rfl rfl (fun w M => y_fieldAddr (k := 1) S (by kernel_rfl) rfl) ?_; clear S a; intro a S
 refine qt_y S rfl rfl rfl (fun w M => y_load S (by kernel_rfl) rfl (M.cell 0 rfl rfl)) ?_; clear S a; intro a S
 (first | refine qt_y S rfl rfl rfl (fun w M => y_subN S rfl rfl (by omega)) ?_ | refine qt_y S rfl rfl rfl (fun w M => y_int S rfl rfl rfl) ?_); clear S a; intro a S
 rw [show p.2 - 1 = (((p.2 - 1).toNat : Nat) : Int) by omega] at S
 refine qt_y S rfl rfl rfl (fun w M => y_indexR (e := 58) (sz := 1) S (by kernel_rfl) rfl (hRd _ (hC _ _ _ hI ((M.drop 0).drop 0))) rfl (by first | omega | (simp; done) | (simp; omega))) ?_; clear S a; intro a S
 try simp only [Int.toNat_natCast, Nat.mul_one, Nat.zero_add] at S
 refine qt_y S rfl rfl rfl (fun w M => y_load S (by kernel_rfl) rfl ((hRd _ (hC _ _ _ hI ((M.drop 0).drop 0))).at_.one (p.2 - 1).toNat (by rw [List.getElem?_map, hr]; rfl))) ?_; clear S a; intro a S
 refine wpQuiet_nil ?_; clear M; intro w7 M
 rw [hkn] at S
 refine stI_yield (xs := [.tmp 46, .tmp 52]) S rfl (by kernel_rfl) rfl rfl (hY pre (kn, r) _ [_, _] Hs _ (by rw [← hpre, hkn]; simp; rfl) hI M) ?_
 rintro e w8 ⟨Hs2, M2, hh⟩
 obtain ⟨bb, rfl, hb⟩ : ∃ bb, e = .returned (.bool bb) ∧ ((bb = true ∧ I (pre ++ [(kn, r)]) Hs2) ∨ (bb = false ∧ X (pre ++ [(kn, r)]) Hs2)) := by
  rcases hh with ⟨rfl, h⟩ | ⟨rfl, h⟩
  ·exact ⟨true, rfl, .inl ⟨rfl, h⟩⟩
  ·exact ⟨false, rfl, .inr ⟨rfl, h⟩⟩
 refine ⟨_, rfl, ?_⟩; clear S M a; intro a S; have M := M2; clear M2
 simp only [List.cons_append, List.nil_append] at M
 refine list_in (by kernel_rfl) (by rintro _ _ ⟨⟨_, h⟩, -⟩; cases h) ?_
 refine qG [1] S ?_; clear S a; intro a S
 refine nxC (st_split (t := 54) S rfl ?_ ?_)
 ·clear S; intro h54 S
  refine stI_condT S rfl ?_
  refine wpIn_ret ?_
  refine block_ret (then_ret (then_ret (block_ret (end_none S rfl ?_))))
  refine ⟨⟨_, rfl⟩, Hs2, (M.drop 0).drop 0, .inr ⟨pre, (kn, r), _, by rw [← hpre, hkn]; simp; rfl, ?_⟩⟩
  rcases hb with ⟨rfl, -⟩ | ⟨-, h⟩
  ·cases h54
  ·exact h
 clear S; intro h54 S
 refine stI_condF S rfl ?_
 refine wpIn_skip ?_
 refine block_normal (then_normal (wpI_region (by kernel_rfl) (by rintro _ _ ⟨⟨_, h⟩, -⟩; cases h) ?_))
 (first | refine qY S (y_addN S rfl rfl (by omega)) ?_ | refine qY S (y_int S rfl rfl rfl) ?_); clear S a; intro a S
 refine qG [1] S ?_; clear S a; intro a S
 refine nxC ?_
 skip
 replace M := M.drop 0
 simp only [List.eraseIdx_cons_succ, List.eraseIdx_cons_zero] at M
 first
  | (have hI2 : I (pre ++ [(kn, r)]) Hs2 := by
      rcases hb with ⟨-, h⟩ | ⟨rfl, -⟩
      ·exact h
      ·cases h54
     exact ⟨plan.length - (i + 1), by omega, i + 1, _, _, Hs2, by omega, rfl, hI2, by rw [← hpre, hkn]; simp, S.sub _ rfl, M⟩)
  | (suffices hno : keptAt D.secs p = none by
      rw [hno] at hpre
      exact ⟨plan.length - (i + 1), by omega, i + 1, _, _, Hs, by omega, rfl, hI, by rw [← hpre, hkn]; simp, S.sub _ rfl, M⟩
     rcases hcase with hno | hbad
     ·exact hno
     ·omega)
  | (rw [if_neg (fun hin => by first | (simp at h18; omega) | (rw [hkn] at hin; simp at h23; exact hin.2 h23))] at hpre
     exact ⟨plan.length - (i + 1), by omega, i + 1, told, pre, Hs, by omega, rfl, hI, hpre, S.sub _ rfl, M⟩)
end Go.Proofs.YtmdededhoibofaaGreat

namespace Go.Proofs.YtmdededhoibofaaGreat
open Go.RowKit Go.Sort
theorem seatOf (s : Int) : 0 ≤ 2 + s % 24 ∧ 2 + s % 24 < 34 := by omega
set_option maxHeartbeats 1000000 in
theorem write1_any {wc w : World} {A E : List Ent} {b : Nat} {S0 : DS} (f : Fr) (ad : Option Addr) (c : Nat) (ld : List UInt8) (hE : DkE b S0 E) (M : Mem wc w (A ++ E)) (hv : RdH wc A (.slice ad ld.length c) ld) (hup : S0.down = false) (hm : f.may ld.length = true) (hw : ∀ k, (S0.cache k).length ≤ 1000000) :
 Calls Tryz.prog 119 #[.pointer (some ⟨b, 0, none⟩), .agg (f.cells (.slice ad ld.length c)).toArray] w fun e w' => e = .returned (.int .i64 0) ∧ ∃ E', DkE b (S0.write (2 + f.seq % 24) (bytesF f ld)) E' ∧ Mem wc w' (A ++ E') := by
 have hm2 := hm
 simp only [Fr.may, decide_eq_true_eq] at hm2
 have hA : ∀ W, Mem wc W (A ++ E) → Bs 0 W.heap.size W (.slice ad ld.length c) ld := fun W M => hv _ (M.sub (List.sublist_append_left _ _))
 have hpe : plE f.seq = 0 := by unfold plE; rw [if_pos hm2.1]
 have hpv : plV f.seq = 2 + f.seq % 24 := by unfold plV; rw [if_pos hm2.1]
 have h64 := bytesF_length hm
 refine calls_enter Tryz.func119 rfl 29 rfl rfl ?_; intro a S
 refine nxD (st_box S M rfl rfl rfl #[_, _, _, _, _, _] rfl ?_); clear S M a; intro a w1 bB S M hB
 refine qG [1] S ?_; clear S a; intro a S
 refine nxA (qR [1, 1] S M ?_); clear S a; intro a S
 refine qQ (xs := [.tmp 10]) S (qE Tryz.func84) rfl (PlaceJ f.seq _) M ?_; clear S M a; intro a w2 S hK M
 refine qG [1, 1, 1, 1, 1] S ?_; clear S a; intro a S
 refine nxC (wp_seq (wp_seq ?_))
 rw [hpe, hpv] at S
 refine wp_region_lit (qG [1, 1] S ?_); clear S a; intro a S
 refine nxC (st_if (t := 15) S rfl ?_ ?_)
 ·clear S; intro h15 S
  exact absurd rfl h15
 clear S; intro h15 S
 refine st_condF S rfl (wp_skip (nxE (qY S (y_loadAgg (cs := [_, _, _, _, _, _]) S (by kernel_rfl) rfl rfl (M.cellsAt (k := 6) 0 rfl rfl)) ?_))); clear S a; intro a S
 refine qC (xs := [.tmp 18]) S (qE Tryz.func132) rfl (bytes_any f (.slice ad ld.length c) ld _ (hA _ (M.drop 0))) ?_
 rintro _ w3 hP; obtain ⟨vb, lo, hi, rfl, hK, M2⟩ := bytes_uni M hP; refine ⟨_, rfl, ?_⟩; clear S M a; intro a S; have M := M2; clear M2
 rw [if_pos hm] at S
 rw [ifL_pos hm] at M
 refine qG [1, 1, 1, 1, 1] S ?_; clear S a; intro a S
 refine nxC (wp_seq (nxD (qG [1, 1] S ?_))); clear S a; intro a S
 replace S := S.keep [0, 1, 3, 4, 5, 15, 7, 6, 23]
 refine nxC (st_if (t := 23) S rfl ?_ ?_)
 ·clear S; intro h23 S
  exact absurd rfl h23
 clear S; intro h23 S
 refine st_condF S rfl (wp_skip (nxE (qG [1, 1, 1] S ?_))); clear S a; intro a S
 refine qC (xs := [.tmp 25, .tmp 26, .tmp 27]) S (qE Tryz.func79) rfl (write_any (A := _ :: _ :: A) (k := 2 + f.seq % 24) (bs := bytesF f ld) hE M (fun W M => M.readAll 0 rfl (by unfold maxLen; omega)) hup (seatOf _) (by omega) (hw _)) ?_
 rintro _ w4 ⟨rfl, E', hE', M2⟩; refine ⟨_, rfl, ?_⟩; clear S M a; intro a S; have M := M2; clear M2
 rw [pad64_eq h64] at hE'
 refine qG [1] S ?_; clear S a; intro a S
 refine nxC (wp_ret (end_one S rfl (res_tmp rfl) ?_))
 exact ⟨rfl, E', hE', (M.drop 0).drop 0⟩
def putF (S : DS) (fs : List (Fr × List UInt8)) : DS := fs.foldl (fun S x => S.write (2 + x.1.seq % 24) (bytesF x.1 x.2)) S
def appOk (t n : Int) (bs : List UInt8) : Prop := bs ≠ [] ∧ bs.length ≤ 90 ∧ (nOf bs.length : Int) ≤ 24 - (n - t)
instance (t n : Int) (bs : List UInt8) : Decidable (appOk t n bs) := by unfold appOk; infer_instance
def AppP (t n inc : Int) (bs : List UInt8) (S0 : DS) (n' er : Int) (S1 : DS) : Prop := (appOk t n bs ∧ n' = n + (nOf bs.length : Nat) ∧ er = 0 ∧ S1 = putF S0 (cutF bs n inc)) ∨ (¬ appOk t n bs ∧ n' = n ∧ er ≠ 0 ∧ S1 = S0)
theorem write_cache_le {S : DS} {k : Int} {bs : List UInt8} {m : Nat} (h : ∀ j, (S.cache j).length ≤ m) (j : Int) : ((S.write k bs).cache j).length ≤ m + 1 := by
 unfold DS.write
 simp only
 split
 ·rw [List.length_append]; have := h k; simp; omega
 ·have := h j; omega
theorem putF_cache_le (fs : List (Fr × List UInt8)) : ∀ {S : DS} {m : Nat}, (∀ j, (S.cache j).length ≤ m) → ∀ j, ((putF S fs).cache j).length ≤ m + fs.length := by
 induction fs with
 | nil => intro S m h j; exact h j
 | cons x fs ih =>
   intro S m h j
   have := ih (write_cache_le (k := 2 + x.1.seq % 24) (bs := bytesF x.1 x.2) h) j
   rw [List.length_cons]
   unfold putF at this ⊢
   rw [List.foldl_cons]; omega
theorem putF_down (fs : List (Fr × List UInt8)) : ∀ (S : DS), (putF S fs).down = S.down := by
 induction fs with
 | nil => intro S; rfl
 | cons x fs ih => intro S; exact ih _
theorem putF_snoc (S : DS) (fs : List (Fr × List UInt8)) (x : Fr × List UInt8) : putF S (fs ++ [x]) = (putF S fs).write (2 + x.1.seq % 24) (bytesF x.1 x.2) := by unfold putF; rw [List.foldl_append]; rfl
theorem nOf_le {n : Nat} (h : n ≤ 90) : nOf n ≤ 2 := by unfold nOf; omega
set_option maxHeartbeats 2000000 in
theorem append_any {wc w : World} {A E : List Ent} {b : Nat} {S0 : DS} (t n inc : Int) (v : Value) (bs : List UInt8) (hE : DkE b S0 E) (M : Mem wc w (A ++ E)) (hv : RdH wc A v bs) (hup : S0.down = false) (hl : mayL t n) (hn : n ≤ 2147483648) (hi : 0 ≤ inc ∧ inc ≤ 1048576) (hw : ∀ k, (S0.cache k).length ≤ 100000) :
 Calls Tryz.prog 69 #[.pointer (some ⟨b, 0, none⟩), .agg #[.int .i64 t, .int .i64 n], .int .i64 inc, v] w fun e w' => ∃ n' er S1, e = .returned (.tuple #[.agg #[.int .i64 t, .int .i64 n'], .int .i64 er]) ∧ AppP t n inc bs S0 n' er S1 ∧ ∃ E', DkE b S1 E' ∧ Mem wc w' (A ++ E') := by
 have hA : ∀ W, Mem wc W (A ++ E) → Bs 0 W.heap.size W v bs := fun W M => hv _ (M.sub (List.sublist_append_left _ _))
 have hl' := hl
 refine calls_enter Tryz.func69 rfl 63 rfl rfl ?_; intro a S
 refine nxD (st_box S M rfl rfl rfl #[_, _] rfl ?_); clear S M a; intro a w1 bL S M hB
 refine st_alloc S M rfl rfl #[.int .i64 0, .int .i64 0] (by kernel_rfl) ?_; clear S M a; intro a w2 bR S M hB
 refine qG [1] S ?_; clear S a; intro a S
 refine nxC (wp_seq (nxD (qG [1] S ?_))); clear S a; intro a S
 refine qY S (y_eqlPS (by kernel_rfl) S rfl) ?_; clear S a; intro a S
 refine nxC (st_condF S rfl (wp_skip (then_normal (wp_seq (nxD (qY S (y_loadAgg (cs := [_, _]) S (by kernel_rfl) rfl rfl (M.cellsAt (k := 2) 1 rfl rfl)) ?_)))))); clear S a; intro a S
 refine qQ (xs := [.tmp 20]) S (qE Tryz.func115) rfl (MayJ t n _) M ?_; clear S M a; intro a w3 S hK M
 refine qG [1] S ?_; clear S a; intro a S
 refine nxC (st_if (t := 22) S rfl ?_ ?_)
 ·clear S; intro h22 S
  exfalso; omega
 clear S; intro h22 S
 refine st_condF S rfl (wp_skip (nxE (qR [1, 2, 2, 1] S M ?_))); clear S a; intro a S
 refine qC (xs := [.tmp 25, .tmp 27, .tmp 28]) S (qE Tryz.func117) rfl (cut_any v bs n inc _ (hA _ ((M.drop 0).drop 0)) (by omega)) ?_
 rintro _ w4 ⟨vc, rfl, hK, cs, hF⟩; refine ⟨_, rfl, ?_⟩; clear S a; intro a S
 obtain ⟨lo, hi2, hlo, M2⟩ := M.pushFrs hK hF; clear M; have M := M2; clear M2
 refine qG [1, 1, 1, 1, 1] S ?_; clear S a; intro a S
 refine nxC (wp_seq (nxD (qG [1, 1] S ?_))); clear S a; intro a S
 refine nxC (st_split (t := 33) S rfl ?_ ?_)
 ·clear S; intro h33 S
  refine st_condT S rfl (nxD (qY S (y_loadAgg (cs := [_, _]) S (by kernel_rfl) rfl rfl (M.cellsAt (k := 2) 2 rfl rfl)) ?_)); clear S a; intro a S
  refine qG [1] S ?_; clear S a; intro a S
  refine qS (sz := 2) (us := [_, _]) S M 1 ?_; clear M; intro w5 M
  refine qG [1] S ?_; clear S a; intro a S
  replace S := S.keep [0, 1, 2, 3, 5, 8, 18, 22, 10, 11, 33, 9]
  refine nxC (wp_ret (then_ret (end_two S rfl (res_agg (cs := [_, _]) (by kernel_rfl) rfl rfl (M.cellsAt (k := 2) 1 rfl rfl)) (res_tmp rfl) ?_)))
  refine ⟨n, _, S0, rfl, .inr ⟨?_, rfl, ?_, rfl⟩, E, hE, ((M.drop 0).drop 0).drop 0⟩
  ·intro hok
   have hc : cutOk bs n inc := ⟨hok.1, by omega, hi, hok.2.1, by have := nOf_le hok.2.1; omega⟩
   rw [cutE_zero.2 hc] at h33; simp at h33
  ·intro h0; rw [h0] at h33; simp at h33
 clear S; intro h33 S
 refine st_condF S rfl (wp_skip (then_normal (wp_seq ?_)))
 have hc : cutOk bs n inc := by
  rw [← cutE_zero]; simpa using h33
 have hcl : (cutF bs n inc).length = nOf bs.length := by unfold cutF; simp
 have hcR : cutR bs n inc = cutF bs n inc := by unfold cutR; rw [if_pos hc]
 rw [hcR] at M
 have hn2 := nOf_le hc.2.2.2.1
 have hF0 := (M.own 0 rfl)
 obtain ⟨va, vcp, rfl, -, -⟩ := (hF0.1).form
 rw [hcl] at S M
 refine wp_region_lit (qY S (y_loadAgg (cs := [_, _]) S (by kernel_rfl) rfl rfl (M.cellsAt (k := 2) 2 rfl rfl)) ?_); clear S a; intro a S
 refine qG [1] S ?_; clear S a; intro a S
 refine qY S (y_lenS (E := 167) S rfl (by kernel_rfl)) ?_; clear S a; intro a S
 refine qC (xs := [.tmp 37, .tmp 39]) S (qE Tryz.func118) rfl (TakeJ t n (nOf bs.length) _ hl (by omega)) ?_
 rintro _ w6 ⟨er, x, y, tv, rfl, hK2, hT⟩; refine ⟨_, rfl, ?_⟩; clear S a; intro a S; replace M := M.grow hK2
 refine qG [1, 1, 1, 1] S ?_; clear S a; intro a S
 refine st_alloc S M rfl rfl #[.int .i64 0, .int .i64 0] (by kernel_rfl) ?_; clear S M a; intro a w7 bT S M hB
 refine qS (sz := 2) (us := [_, _]) S M 0 ?_; clear M; intro w8 M
 refine qG [1, 1] S ?_; clear S a; intro a S
 replace S := S.keep [0, 1, 2, 3, 5, 8, 9, 18, 22, 10, 33, 12, 11]
 refine nxC (wp_seq (nxD (qG [1, 1] S ?_))); clear S a; intro a S
 refine nxC (st_if (t := 45) S rfl ?_ ?_)
 ·clear S; intro h45 S
  refine st_condT S rfl (nxD (qY S (y_loadAgg (cs := [_, _]) S (by kernel_rfl) rfl rfl (M.cellsAt (k := 2) 3 rfl rfl)) ?_)); clear S a; intro a S
  refine qG [1] S ?_; clear S a; intro a S
  refine qS (sz := 2) (us := [_, _]) S M 2 ?_; clear M; intro w9 M
  refine qG [1] S ?_; clear S a; intro a S
  refine nxC (wp_ret (then_ret (end_two S rfl (res_agg (cs := [_, _]) (by kernel_rfl) rfl rfl (M.cellsAt (k := 2) 2 rfl rfl)) (res_tmp rfl) ?_)))
  refine ⟨n, _, S0, rfl, .inr ⟨?_, rfl, ?_, rfl⟩, E, hE, (((M.drop 0).drop 0).drop 0).drop 0⟩
  ·intro hok
   rcases hT with ⟨rfl, -⟩ | ⟨-, hno⟩
   ·omega
   ·exact hno ⟨hok.2.2, by omega⟩
  ·intro h0; omega
 clear S; intro h45 S
 refine st_condF S rfl (wp_skip (then_normal (wp_seq (wp_seq ?_))))
 obtain ⟨rfl, hfit, rfl, rfl⟩ : er = 0 ∧ fitsL t n (nOf bs.length : Nat) ∧ t = x ∧ n + (nOf bs.length : Nat) = y := by
  rcases hT with h | ⟨h, -⟩
  ·exact h
  ·omega
 refine wp_region_lit (qG [1] S ?_); clear S a; intro a S
 refine qY S (y_lenS (E := 167) S rfl (by kernel_rfl)) ?_; clear S a; intro a S
 refine qG [1] S ?_; clear S a; intro a S
 refine nxC (wp_block (wp_loop_g (fun m a w' => ∃ (i : Nat) (E1 : List Ent), i ≤ nOf bs.length ∧ m = nOf bs.length - i ∧ DkE b (putF S0 ((cutF bs n inc).take i)) E1 ∧ Sees 63 a [(0, .pointer (some ⟨b, 0, none⟩)), (5, .pointer (some ⟨bL, 0, none⟩)), (8, .pointer (some ⟨bR, 0, none⟩)), (12, .pointer (some ⟨bT, 0, none⟩)), (48, .slice va (nOf bs.length) vcp), (49, .int .i64 (nOf bs.length : Int)), (50, .int .i64 (i : Int))] ∧ Mem wc w' ([.blk bT #[.int .i64 t, .int .i64 (n + (nOf bs.length : Nat))] 48, .own lo hi2 (fun w => FrsC cs lo hi2 w (.slice va (nOf bs.length) vcp) (cutF bs n inc)), .blk bR #[.int .i64 0, .int .i64 0] 48, .blk bL #[.int .i64 t, .int .i64 n] 48] ++ A ++ E1)) (nOf bs.length) ?_ ?_))
 ·skip
  exact ⟨0, E, Nat.zero_le _, rfl, hE, S.sub _ rfl, M⟩
 clear S M a; intro m a wl
 rintro ⟨i, E1, hi', rfl, hE1, S, M⟩
 replace M := M
 simp only [List.cons_append, List.nil_append] at M
 refine nxD (qG [1] S ?_); clear S a; intro a S
 refine nxC (wp_seq (st_fi (t := 51) S rfl ?_ ?_))
 ·clear S; intro h51 S
  refine st_condF S rfl (wp_exit (then_exit (then_exit (block_hit (nxE (qY S (y_loadAgg (cs := [_, _]) S (by kernel_rfl) rfl rfl (M.cellsAt (k := 2) 0 rfl rfl)) ?_)))))); clear S a; intro a S
  refine qS (sz := 2) (us := [_, _]) S M 2 ?_; clear M; intro w13 M
  refine qG [1] S ?_; clear S a; intro a S
  refine nxC (wp_ret (end_two S rfl (res_agg (cs := [_, _]) (by kernel_rfl) rfl rfl (M.cellsAt (k := 2) 2 rfl rfl)) (res_tmp rfl) ?_))
  obtain rfl : i = nOf bs.length := by omega
  rw [List.take_of_length_le (by omega)] at hE1
  exact ⟨_, 0, _, rfl, .inl ⟨⟨hc.1, hc.2.2.2.1, hfit.1⟩, rfl, rfl, rfl⟩, E1, hE1, (((M.drop 0).drop 0).drop 0).drop 0⟩
 clear S; intro h51 S
 refine st_condT S rfl (wp_skip (then_normal (wp_seq (wp_block (wp_seq ?_)))))
 have hlt : i < nOf bs.length := by omega
 have hF1 := M.own 1 rfl
 obtain ⟨f, ld, hfi⟩ : ∃ f ld, (cutF bs n inc)[i]? = some (f, ld) := ⟨_, _, List.getElem?_eq_getElem (by omega)⟩
 obtain ⟨lv, hrow, hlv0⟩ := hF1.2 i f ld hfi
 have hmay : f.may ld.length = true := by
  have e := cutR_get hc hlt
  rw [hcR, hfi] at e
  have := frOf_may hc hlt
  rw [← Option.some.inj e] at this; exact this
 obtain ⟨la, lc, rfl, -, -⟩ := hlv0.form
 refine wp_region_lit (qY S (y_indexR (e := 167) (sz := 6) S (by kernel_rfl) rfl ((by have h := (M.own 1 rfl).1.wide (Nat.zero_le _) (M.fits _ (List.mem_of_getElem? (show _[1]? = _ from rfl))).2; rw [hcl] at h; exact h)) rfl (by first | omega | (simp; done) | (simp; omega))) ?_); clear S a; intro a S
 try simp only [Int.toNat_natCast, Nat.mul_one, Nat.zero_add] at S
 refine qY S (y_loadAgg S (by kernel_rfl) rfl rfl (((M.own 1 rfl).row hfi hrow).1)) ?_; clear S a; intro a S
 refine st_alloc S M rfl rfl #[.int .i64 0, .int .i64 0, .int .i64 0, .int .i64 0, .int .u32 0, .slice none 0 0] (by kernel_rfl) ?_; clear S M a; intro a w10 bX S M hB
 refine qS (sz := 6) (us := [_, _, _, _, _, _]) S M 0 ?_; clear M; intro w11 M
 refine nxA (qG [1] S ?_); clear S a; intro a S
 refine qY S (y_loadAgg (cs := [_, _, _, _, _, _]) S (by kernel_rfl) rfl rfl (M.cellsAt (k := 6) 0 rfl rfl)) ?_; clear S a; intro a S
 refine qC (xs := [.tmp 54, .tmp 55]) S (qE Tryz.func119) rfl (write1_any (A := _ :: _ :: _ :: _ :: _ :: A) f la lc ld hE1 M (fun W M => (((M.own 2 rfl).row hfi hrow).2).wide (Nat.zero_le _) (M.fits _ (List.mem_of_getElem? (show _[2]? = _ from rfl))).2) (by rw [putF_down]; exact hup) hmay (fun k => by have := putF_cache_le ((cutF bs n inc).take i) hw k; rw [List.length_take] at this; omega)) ?_
 rintro _ w12 ⟨rfl, E2, hE2, M2⟩; refine ⟨_, rfl, ?_⟩; clear S M a; intro a S; have M := M2; clear M2
 simp only [List.cons_append, List.nil_append] at M
 refine qG [1] S ?_; clear S a; intro a S
 refine nxA (qG [1, 1] S ?_); clear S a; intro a S
 refine nxC (st_if (t := 58) S rfl ?_ ?_)
 ·clear S; intro h58 S
  exact absurd rfl h58
 clear S; intro h58 S
 refine st_condF S rfl (wp_skip (block_normal (nxF ?_)))
 (first | refine qY S (y_addN S rfl rfl (by omega)) ?_ | refine qY S (y_int S rfl rfl rfl) ?_); clear S a; intro a S
 refine qG [1] S ?_; clear S a; intro a S
 refine nxC ?_
 skip
 replace M := M.drop 0
 simp only [List.eraseIdx_cons_succ, List.eraseIdx_cons_zero] at M
 refine ⟨nOf bs.length - (i + 1), by omega, i + 1, E2, by omega, rfl, ?_, S.sub _ rfl, M⟩
 obtain ⟨hlt2, he⟩ := List.getElem?_eq_some_iff.1 hfi
 rw [List.take_succ_eq_append_getElem hlt2, he, putF_snoc]
 exact hE2
end Go.Proofs.YtmdededhoibofaaGreat

namespace Go.Proofs.YtmdededhoibofaaGreat
open Go.RowKit Go.Sort
abbrev secB (x : FrB) : List UInt8 := bytesF x.1 x.2
def zero64 : List UInt8 := List.replicate 64 0
theorem frIn_zero : (frIn (zero64.take 60)).may (ldIn (zero64.take 60)).length = false := by kernel_rfl
theorem readF_zero : readF zero64 = none := by
 unfold readF
 rw [if_neg]
 rintro ⟨_, _, _, h, _⟩
 rw [frIn_zero] at h; cases h
def framesL (inc : Int) : Int → List (List UInt8) → List FrB
 | _, [] => []
 | q, r :: rs => cutF r q inc ++ framesL inc (q + (nOf r.length : Nat)) rs
def beginsL : Int → List (List UInt8) → List (Int × List UInt8)
 | _, [] => []
 | q, r :: rs => (q, r) :: beginsL (q + (nOf r.length : Nat)) rs
theorem nOf_pos {n : Nat} (h : 0 < n) : 1 ≤ nOf n := by unfold nOf; omega
theorem cutOk_n {r : List UInt8} {q inc : Int} (h : cutOk r q inc) : nOf r.length = 1 ∨ nOf r.length = 2 := by
 have h1 := nOf_pos (List.length_pos_iff.2 h.1)
 have h2 := nOf_le h.2.2.2.1
 omega
theorem frOf_read {r : List UInt8} {q inc : Int} (h : cutOk r q inc) {i : Nat} (hi : i < nOf r.length) : readF (secB (frOf r q inc i)) = some (frOf r q inc i) := read_bytes (frOf_may h hi)
theorem goodP_iff {s : Sc} {f : Fr} : goodP s f = true ↔ f.seq = s.seq ∧ s.inc ≤ f.inc ∧ (match s.begun with
 | [] => f.part = 0
 | g :: _ => f.part = (s.begun.length : Int) ∧ f.of = g.1.of ∧ f.mark = g.1.mark ∧ f.inc = g.1.inc) := by
 unfold goodP
 cases s.begun with
 | nil => simp [and_assoc]
 | cons g t => simp [and_assoc]
theorem scan_one {r : List UInt8} {q inc inc' nx : Int} {l : List (Int × List UInt8)} (h : cutOk r q inc') (hi : inc ≤ inc') (rest : List (List UInt8)) :
 scanP ⟨q, inc, [], l, nx⟩ ((cutF r q inc').map secB ++ rest) = scanP ⟨q + (nOf r.length : Nat), inc', [], l ++ [(q, r)], q + (nOf r.length : Nat)⟩ rest := by
 have hcR : cutR r q inc' = cutF r q inc' := by unfold cutR; rw [if_pos h]
 obtain ⟨hj, ho⟩ := join_cut h
 rw [hcR] at hj ho
 have h0 := frOf_read h (i := 0) (by have := cutOk_n h; omega)
 rcases cutOk_n h with e | e
 ·have hc : cutF r q inc' = [frOf r q inc' 0] := by unfold cutF; rw [e]; rfl
  have hof : (frOf r q inc' 0).1.of = 1 := by simp [frOf, e]
  rw [hc] at hj ho ⊢
  rw [List.map_cons, List.map_nil, List.singleton_append, scanP_cons]
  have hst : stepP ⟨q, inc, [], l, nx⟩ (secB (frOf r q inc' 0)) = (⟨q + (nOf r.length : Nat), inc', [], l ++ [(q, r)], q + (nOf r.length : Nat)⟩, true) := by
   unfold stepP
   rw [h0]
   have hg : goodP ⟨q, inc, [], l, nx⟩ (frOf r q inc' 0).1 = true := goodP_iff.2 ⟨by simp [frOf], by simp [frOf]; exact hi, by simp [frOf]⟩
   simp only [hg, if_true]
   unfold takeP
   rw [if_neg (by simp [hof]), if_pos (by simpa using hj)]
   simp only [List.nil_append, ho, e]
   simp [frOf]
  rw [hst]; rfl
 ·have hc : cutF r q inc' = [frOf r q inc' 0, frOf r q inc' 1] := by unfold cutF; rw [e]; rfl
  have hof : (frOf r q inc' 0).1.of = 2 := by simp [frOf, e]
  have hof1 : (frOf r q inc' 1).1.of = 2 := by simp [frOf, e]
  have h1 := frOf_read h (i := 1) (by omega)
  rw [hc] at hj ho ⊢
  simp only [List.map_cons, List.map_nil, List.cons_append, List.nil_append]
  rw [scanP_cons]
  have hst : stepP ⟨q, inc, [], l, nx⟩ (secB (frOf r q inc' 0)) = (⟨q + 1, inc', [frOf r q inc' 0], l, nx⟩, true) := by
   unfold stepP
   rw [h0]
   have hg : goodP ⟨q, inc, [], l, nx⟩ (frOf r q inc' 0).1 = true := goodP_iff.2 ⟨by simp [frOf], by simp [frOf]; exact hi, by simp [frOf]⟩
   simp only [hg, if_true]
   unfold takeP
   rw [if_pos (by simp [hof])]
   simp [frOf]
  have hst2 : stepP ⟨q + 1, inc', [frOf r q inc' 0], l, nx⟩ (secB (frOf r q inc' 1)) = (⟨q + (nOf r.length : Nat), inc', [], l ++ [(q, r)], q + (nOf r.length : Nat)⟩, true) := by
   unfold stepP
   rw [h1]
   have hg : goodP ⟨q + 1, inc', [frOf r q inc' 0], l, nx⟩ (frOf r q inc' 1).1 = true := goodP_iff.2 ⟨by simp [frOf], by simp [frOf], by simp [frOf]⟩
   simp only [hg, if_true]
   unfold takeP
   rw [if_neg (by simp [hof1]), if_pos (by simpa using hj)]
   simp only [List.cons_append, List.nil_append, ho, e]
   simp [frOf]
   omega
  rw [hst]
  simp only [if_true]
  rw [scanP_cons, hst2]; rfl
def Ends (q inc : Int) (rest : List (List UInt8)) : Prop := ∀ x t, rest = x :: t → ∀ f ld, readF x = some (f, ld) → f.seq = q → inc ≤ f.inc → f.part = 0 →
 (1 : Int) < f.of ∧ ∀ y t', t = y :: t' → ∀ g le, readF y = some (g, le) → g.seq = q + 1 → g.part = 1 → g.inc = f.inc → False
theorem scan_end {q inc nx : Int} {l : List (Int × List UInt8)} {rest : List (List UInt8)} (h : Ends q inc rest) : (scanP ⟨q, inc, [], l, nx⟩ rest).l = l ∧ (scanP ⟨q, inc, [], l, nx⟩ rest).next = nx := by
 cases rest with
 | nil => exact ⟨rfl, rfl⟩
 | cons x t =>
   by_cases hst : (stepP ⟨q, inc, [], l, nx⟩ x).2 = true
   ·rw [scanP_cons, if_pos hst]
    unfold stepP at hst ⊢
    cases hx : readF x with
    | none => rw [hx] at hst; cases hst
    | some p =>
      obtain ⟨f, ld⟩ := p
      rw [hx] at hst
      simp only at hst ⊢
      by_cases hg : goodP ⟨q, inc, [], l, nx⟩ f = true
      ·obtain ⟨g1, g2, g3⟩ := goodP_iff.1 hg
       obtain ⟨hof, h2⟩ := h x t rfl f ld hx g1 g2 g3
       have ht : takeP ⟨q, inc, [], l, nx⟩ (f, ld) = (⟨q + 1, f.inc, [(f, ld)], l, nx⟩, true) := by
        unfold takeP
        exact if_pos (by simpa using hof)
       rw [if_pos hg, ht]
       cases t with
       | nil => exact ⟨rfl, rfl⟩
       | cons y t' =>
         have hst2 : stepP ⟨q + 1, f.inc, [(f, ld)], l, nx⟩ y = (⟨q + 1, f.inc, [(f, ld)], l, nx⟩, false) := by
          unfold stepP
          cases hy : readF y with
          | none => rfl
          | some p2 =>
            obtain ⟨g, le⟩ := p2
            refine if_neg fun hg2 => ?_
            obtain ⟨k1, k2, k3⟩ := goodP_iff.1 hg2
            exact h2 y t' rfl g le hy k1 (by simpa using k3.1) k3.2.2.2
         rw [scanP_cons, hst2]
         exact ⟨rfl, rfl⟩
      ·rw [if_neg hg] at hst; cases hst
   ·rw [scanP_cons, if_neg hst]
    unfold stepP at hst ⊢
    cases hx : readF x with
    | none => exact ⟨rfl, rfl⟩
    | some p =>
      obtain ⟨f, ld⟩ := p
      rw [hx] at hst
      simp only at hst ⊢
      by_cases hg : goodP ⟨q, inc, [], l, nx⟩ f = true
      ·obtain ⟨g1, g2, g3⟩ := goodP_iff.1 hg
       obtain ⟨hof, h2⟩ := h x t rfl f ld hx g1 g2 g3
       have ht : takeP ⟨q, inc, [], l, nx⟩ (f, ld) = (⟨q + 1, f.inc, [(f, ld)], l, nx⟩, true) := by
        unfold takeP
        exact if_pos (by simpa using hof)
       rw [if_pos hg, ht] at hst
       exact absurd rfl hst
      ·rw [if_neg hg]; exact ⟨rfl, rfl⟩
end Go.Proofs.YtmdededhoibofaaGreat

namespace Go.Proofs.YtmdededhoibofaaGreat
open Go.RowKit Go.Sort
def keptB (c : Int → List (List UInt8)) : List (Int × Int) → List Int → List (Nat × List UInt8)
 | [], _ => []
 | p :: l, told => if (0 ≤ p.1 ∧ p.1 < 34) ∧ p.1 ∉ told then (match if 1 ≤ p.2 then (c p.1)[(p.2 - 1).toNat]? else none with
    | some r => [(p.1.toNat, r)]
    | none => []) ++ keptB c l (p.1 :: told) else keptB c l told
def durK (dur : Nat → List UInt8) (l : List (Nat × List UInt8)) : Nat → List UInt8 := l.foldl (fun d x j => if j = x.1 then x.2 else d j) dur
def DS.crash (S : DS) (plan : List (Int × Int)) : DS := ⟨durK S.dur (keptB S.cache plan []), fun _ => [], true⟩
theorem kept_plain (secs : List Sec) : ∀ (plan : List (Int × Int)) (told : List Int), (keptP secs plan told).map (fun x => (x.1, x.2.bs)) = keptB (cacheOf secs) plan told
 | [], _ => rfl
 | p :: l, told => by
   unfold keptP keptB
   split
   ·rw [List.map_append, kept_plain secs l]
    congr 1
    unfold keptAt cacheOf
    cases hs : secOf secs p.1 with
    | none => simp
    | some s =>
      simp only
      by_cases h1 : 1 ≤ p.2
      ·rw [if_pos h1, if_pos h1, List.getElem?_map]
       cases s.ws[(p.2 - 1).toNat]? <;> rfl
      ·rw [if_neg h1, if_neg h1]; rfl
   ·exact kept_plain secs l told
theorem keptP_mem {secs : List Sec} : ∀ {plan : List (Int × Int)} {told : List Int} {x : Nat × RB}, x ∈ keptP secs plan told → x.1 < 34 ∧ ∃ s ∈ secs, x.2 ∈ s.ws
 | [], _, x, h => by cases h
 | p :: l, told, x, h => by
   unfold keptP at h
   split at h
   ·rename_i hc
    rcases List.mem_append.1 h with h | h
    ·unfold keptAt at h
     cases hs : secOf secs p.1 with
     | none => rw [hs] at h; cases h
     | some s =>
       rw [hs] at h
       obtain ⟨P, Q, e, -⟩ := secOf_some hs
       simp only at h
       split at h
       ·rename_i r hr
        rw [List.mem_singleton] at h; subst h
        refine ⟨by have := hc.1; simp only; omega, s, by rw [e]; simp, ?_⟩
        split at hr
        ·exact List.mem_of_getElem? hr
        ·cases hr
       ·cases h
    ·exact keptP_mem h
   ·exact keptP_mem h
theorem kept_any (b : Nat) (pa : Option Addr) (pn pc : Nat) (w : World) : Calls Tryz.prog 43 #[.pointer (some ⟨b, 0, none⟩), .slice pa pn pc] w fun e w' => ∃ bp bd, e = .returned (.func (.func 72) #[] #[.pointer (some ⟨bp, 0, none⟩), .pointer (some ⟨bd, 0, none⟩)]) ∧ Mem w w' [.blk bp #[.slice pa pn pc] 57, .blk bd #[.pointer (some ⟨b, 0, none⟩)] 53] := by
 have M := Mem.start w
 refine calls_enter Tryz.func43 rfl 6 rfl rfl ?_; intro a S
 refine nxD (st_box S M rfl rfl rfl #[_] rfl ?_); clear S M a; intro a w1 bD S M hB
 refine st_box S M rfl rfl rfl #[_] rfl ?_; clear S M a; intro a w2 bP S M hB
 refine qG [1] S ?_; clear S a; intro a S
 refine nxA (qY S (y_makeFunc (fs := []) (cs := [.tmp 3, .tmp 2]) S rfl rfl) ?_); clear S a; intro a S
 refine qG [1] S ?_; clear S a; intro a S
 refine nxC (wp_ret (end_one S rfl (res_tmp rfl) ?_))
 exact ⟨bP, bD, rfl, M⟩
theorem durK_snoc (dur : Nat → List UInt8) (l : List (Nat × List UInt8)) (x : Nat × List UInt8) (j : Nat) : durK dur (l ++ [x]) j = if j = x.1 then x.2 else durK dur l j := by unfold durK; rw [List.foldl_append]; rfl
set_option maxHeartbeats 2000000 in
theorem crash_any {wc w : World} {A E : List Ent} {b : Nat} {S0 : DS} (pa : Option Addr) (pc : Nat) (plan : List (Int × Int)) (hE : DkE b S0 E) (M : Mem wc w (A ++ E)) (hp : ∀ W, Mem wc W A → Rd 0 W.heap.size W 2 (.slice pa plan.length pc) plan.length (kcells plan)) (hup : S0.down = false) (hw : ∀ k, (S0.cache k).length ≤ 1000000) :
 Calls Tryz.prog 22 #[.pointer (some ⟨b, 0, none⟩), .slice pa plan.length pc] w fun e w' => e = .returned (.int .i64 0) ∧ ∃ E', DkE b (S0.crash plan) E' ∧ Mem wc w' (A ++ E') := by
 obtain ⟨D, rfl, O, rfl, rfl⟩ := hE
 replace M := M.perm List.perm_append_comm
 have hd : D.down = false := hup
 have hsl : ∀ s ∈ D.secs, s.ws.length ≤ 1000000 := fun s hs => by
  have h1 := hw s.key
  obtain ⟨P, Q, e⟩ := List.append_of_mem hs
  have h2 := secOf_mid (by rw [← e]; exact O.nodup) (P := P) (Q := Q) (s := s) s.key
  rw [if_pos rfl, ← e] at h2
  unfold Dk.st cacheOf at h1
  simp only [h2, List.length_map] at h1
  exact h1
 replace M : Mem wc w (.blk D.b (dcells D.dur D.m D.down).toArray 95 :: mapX D.m D.ml D.cl :: (secsE D.secs ++ A)) := M
 refine calls_enterM Tryz.func22 rfl 33 rfl rfl ?_; intro a S
 refine wp_seq ?_
 skip
 refine wp_region_lit (st_box S M rfl rfl rfl #[_] rfl ?_); clear S M a; intro a w1 bB S M hB
 refine qG [1] S ?_; clear S a; intro a S
 refine nxC (wp_seq (nxD (qR [1] S M ?_))); clear S a; intro a S
 refine qY S (y_eqlPS (by kernel_rfl) S rfl) ?_; clear S a; intro a S
 refine nxC (st_condF S rfl (wp_skip (then_normal (wp_seq (nxD (qR [1] S M ?_)))))); clear S a; intro a S
 skip
 refine qY S (y_nilCheck S rfl) ?_; clear S a; intro a S
 refine qG [2178] S ?_; clear S a; intro a S
 refine qY S (y_load S (by kernel_rfl) rfl (M.cell 1 rfl ((dcells_down O.dur _ _).trans (by rw [hd])))) ?_; clear S a; intro a S
 refine nxC (st_if (t := 12) S rfl ?_ ?_)
 ·clear S; intro h12 S
  cases h12
 clear S; intro h12 S
 refine st_condF S rfl (wp_skip (then_normal (wp_seq (nxD (qR [1, 1] S M ?_))))); clear S a; intro a S
 refine qC (xs := [.tmp 13, .tmp 14]) S (qE Tryz.func43) rfl (kept_any D.b pa plan.length pc _) ?_
 rintro _ w2 ⟨bp, bd, rfl, M1⟩; refine ⟨_, rfl, ?_⟩; clear S a; intro a S; replace M := M.join M1; clear M1
 simp only [List.cons_append, List.nil_append] at M
 refine nxC (wp_block (wp_rangeB (encs := encK) (xs := keptP D.secs plan []) S M rfl (enters_of Tryz.func72 (by decide) rfl) (kept1_gen O bp bd pa pc plan) (fun _ => rfl) (by kernel_rfl) (fun pre Hs => ∃ dur, dur.length = 2176 ∧ (∀ j, durAt dur j = durK (durAt D.dur) (pre.map fun x => (x.1, x.2.bs)) j) ∧ Hs = .blk bp #[.slice pa plan.length pc] 57 :: .blk bd #[.pointer (some ⟨D.b, 0, none⟩)] 53 :: .blk bB #[.pointer (some ⟨D.b, 0, none⟩)] 53 :: .blk D.b (dcells dur D.m D.down).toArray 95 :: mapX D.m D.ml D.cl :: (secsE D.secs ++ A)) (fun _ _ _ => False) (⟨D.dur, O.dur, fun j => rfl, rfl⟩) (fun pre Hs W TT hI M => by obtain ⟨dur, hdl, -, rfl⟩ := hI; exact ⟨⟨dur, hdl, M.blk 3 rfl⟩, M.mapAt (pos := 4) rfl, fun s hs => M.secRow (by simp [secsE_ent hs]) (hsl s hs), M.blk 0 rfl, M.blk 1 rfl, hp _ (M.sub (by simp only [List.cons_append, List.append_assoc]; exact ((List.sublist_append_left _ _).trans (List.sublist_append_right _ _)).trans (List.sublist_append_right [_, _, _, _, _] _)))⟩) ?_ ?_ ?_))
 ·intro lY pre x tX Hs wr TT a hx hI M S
  simp only [putsL, encK] at S
  obtain ⟨dur, hdl, hdat, rfl⟩ := hI
  obtain ⟨xk, xr⟩ := x
  obtain ⟨hk34, s, hsm, hrm⟩ := keptP_mem (show (xk, xr) ∈ keptP D.secs plan [] by rw [hx]; simp)
  have hr64 := (O.sec s hsm).2.2 xr hrm
  simp only [List.cons_append] at M
  refine wpIn_seq ?_
  refine wpI_region (by kernel_rfl) (fun _ _ h => h) ?_
  refine qG [1] S ?_; clear S a; intro a S
  refine nxC (wpI_region (by kernel_rfl) (fun _ _ h => h) ?_)
  refine qG [1] S ?_; clear S a; intro a S
  refine nxC ?_
  refine ⟨_ :: _ :: _ :: _ :: _ :: (secsE D.secs ++ A), M, ?_⟩; clear M; intro wb TT M; simp only [List.cons_append, List.nil_append] at M
  refine wpIn_block ?_
  refine wpI_region (by kernel_rfl) (fun _ _ h => h) ?_
  refine qR [3] S M ?_; clear S a; intro a S
  skip
  refine qY S (y_move S rfl) ?_; clear S a; intro a S
  refine qG [1, 1] S ?_; clear S a; intro a S
  refine qY S (y_indexA (m := 34) (sz := 64) S (by kernel_rfl) rfl rfl (by first | omega | (simp; done) | (simp; omega))) ?_; clear S a; intro a S
  try simp only [Int.toNat_natCast, Nat.mul_one, Nat.zero_add] at S
  refine qY S (y_sliceA (m := 64) (sz := 1) S (by kernel_rfl) rfl) ?_; clear S a; intro a S
  refine qG [1] S ?_; clear S a; intro a S
  refine st_copy (e := 5) (us := bcells xr.bs) S M 3 rfl rfl (by kernel_rfl) rfl rfl rfl (M.readB (r := xr) (by simp [secsE_ws hsm hrm]) (by omega)) (List.take_of_length_le (by rw [bcells_length]; omega)) (allOne_bcells _) (by rw [dcells_len hdl, bcells_length]; omega) ?_; clear S M a; intro a w3 S M
  simp only [List.set_cons_zero, List.set_cons_succ] at M
  replace S := S.keep [0, 1, 2, 4, 8, 12, 15, 5, 6]
  refine wpList_nil (block_normal ?_)
  skip
  rw [dcells_put hdl hk34 hr64] at M
  refine ⟨_ :: _ :: _ :: _ :: _ :: _, M, _, dset_len hdl hk34 hr64, fun j => ?_, rfl⟩
  rw [dset_at hdl hk34 hr64, List.map_append, List.map_cons, List.map_nil, durK_snoc, hdat j]
 ·intro D1 wd Hs a hI M S
  obtain ⟨dur, hdl, hdat, rfl⟩ := hI
  refine block_normal (nxE (qR [4] S M ?_)); clear S a; intro a S
  skip
  refine qY S (y_nilCheck S rfl) ?_; clear S a; intro a S
  refine qG [2177] S ?_; clear S a; intro a S
  refine qY S (y_load S (by kernel_rfl) rfl (M.cell 4 rfl (dcells_map hdl _ _))) ?_; clear S a; intro a S
  refine st_clearM (pos := 5) S M Tryz.underlying91 rfl rfl rfl ?_; clear M; intro w4 M
  simp only [List.set_cons_zero, List.set_cons_succ] at M
  refine nxA (qR [4] S M ?_); clear S a; intro a S
  skip
  refine qY S (y_nilCheck S rfl) ?_; clear S a; intro a S
  refine qG [2178] S ?_; clear S a; intro a S
  refine st_store (us := [.bool true]) S M 4 rfl (by kernel_rfl) rfl rfl rfl rfl rfl rfl (by rw [dcells_len hdl]; decide) ?_; clear M; intro wS M
  simp only [List.set_cons_zero, List.set_cons_succ] at M
  rw [dcells_setDown hdl] at M
  refine nxA (qG [1] S ?_); clear S a; intro a S
  replace S := S.keep [0, 1, 2, 8, 12, 15, 4]
  refine nxC (wp_ret (end_mark S M 0 rfl ?_)); clear S M a; intro a wM S M
  simp only [List.eraseIdx_cons_succ, List.eraseIdx_cons_zero] at M
  refine end_plain ?_
  refine end_one S rfl (res_tmp rfl) ?_
  refine ⟨rfl, ?_⟩
  have hcr : D.st.crash plan = Dk.st ⟨D.b, D.m, D.cl, [], dur, true, []⟩ := by
   unfold DS.crash
   show DS.mk (durK (durAt D.dur) (keptB (cacheOf D.secs) plan [])) (fun _ => []) true = DS.mk (durAt dur) (cacheOf []) true
   rw [← kept_plain]
   congr 1
   funext j; exact (hdat j).symm
  rw [hcr]
  refine ⟨_, ⟨⟨D.b, D.m, D.cl, [], dur, true, []⟩, rfl, ⟨hdl, good_nil _, .nil, fun _ => rfl, fun s hs => (by cases hs)⟩, rfl, rfl⟩, ?_⟩
  exact (M.sub (H' := Dk.ents ⟨D.b, D.m, D.cl, [], dur, true, []⟩ ++ A) (.cons _ (.cons _ (.cons _ (.cons_cons _ (.cons_cons _ (List.sublist_append_right _ _))))))).perm List.perm_append_comm
 intro D1 wd Hs a cX pre x tX hx hX M S
 exact hX.elim
end Go.Proofs.YtmdededhoibofaaGreat

namespace Go.Proofs.YtmdededhoibofaaGreat
open Go.RowKit Go.Sort
def durS (S : DS) (t : Int) (j : Nat) : List UInt8 := S.dur (2 + (t + (j : Int)) % 24).toNat
def cacS (S : DS) (t : Int) (j : Nat) : List (List UInt8) := S.cache (2 + (t + (j : Int)) % 24)
theorem secAt_eq (S : DS) (t : Int) (j : Nat) : secAt S t j = match (cacS S t j).getLast? with
 | some b => b
 | none => durS S t j := by
 unfold secAt DS.get cacS durS
 rw [show (((2 + (t + (j : Int)) % 24).toNat : Nat) : Int) = 2 + (t + (j : Int)) % 24 by omega]
 rfl
theorem cacS_write (S : DS) (t : Int) (bs : List UInt8) {i j : Nat} (hi : i < 24) (hj : j < 24) : cacS (S.write (2 + (t + (i : Int)) % 24) bs) t j = if j = i then cacS S t j ++ [bs] else cacS S t j := by
 unfold cacS DS.write
 simp only
 by_cases h : j = i
 ·subst h; rw [if_pos rfl, if_pos rfl]
 ·rw [if_neg h, if_neg (by omega)]
theorem durS_flush (S : DS) (t : Int) (j : Nat) : durS S.flush t j = secAt S t j := rfl
def DS.still (S : DS) : Prop := ∀ k, S.cache k = []
theorem keptB_mem {c : Int → List (List UInt8)} : ∀ {plan : List (Int × Int)} {told : List Int} {x : Nat × List UInt8}, x ∈ keptB c plan told → x.2 ∈ c (x.1 : Int)
 | [], _, x, h => by cases h
 | p :: l, told, x, h => by
   unfold keptB at h
   split at h
   ·rename_i hc
    rcases List.mem_append.1 h with h | h
    ·split at h
     ·rename_i r hr
      rw [List.mem_singleton] at h; subst h
      split at hr
      ·have := List.mem_of_getElem? hr
       rw [show (((p.1.toNat : Nat)) : Int) = p.1 by have := hc.1; omega]
       exact this
      ·cases hr
     ·cases h
    ·exact keptB_mem h
   ·exact keptB_mem h
theorem snoc_rec {α : Type} {P : List α → Prop} (nil : P []) (snoc : ∀ l x, P l → P (l ++ [x])) (l : List α) : P l := by
 have : ∀ n (l : List α), l.length = n → P l := fun n => by
  induction n with
  | zero => intro l h; rw [List.eq_nil_of_length_eq_zero h]; exact nil
  | succ n ih =>
    intro l h
    have hne : l ≠ [] := fun e => by rw [e] at h; cases h
    rw [← List.dropLast_concat_getLast hne]
    exact snoc _ _ (ih _ (by rw [List.length_dropLast, h]; rfl))
 exact this _ l rfl
theorem durK_at (d : Nat → List UInt8) : ∀ (l : List (Nat × List UInt8)) (k : Nat), durK d l k = d k ∨ ∃ x ∈ l, x.1 = k ∧ durK d l k = x.2 := by
 intro l
 induction l using snoc_rec with
 | nil => exact fun k => .inl rfl
 | snoc l x ih =>
   intro k
   rw [durK_snoc]
   by_cases h : k = x.1
   ·rw [if_pos h]; exact .inr ⟨x, by simp, h.symm, rfl⟩
   ·rw [if_neg h]
    rcases ih k with h1 | ⟨y, h1, h2, h3⟩
    ·exact .inl h1
    ·exact .inr ⟨y, by simp [h1], h2, h3⟩
theorem crash_at (S : DS) (plan : List (Int × Int)) (t : Int) (j : Nat) : secAt (S.crash plan) t j = durS S t j ∨ secAt (S.crash plan) t j ∈ cacS S t j := by
 have e : secAt (S.crash plan) t j = durK S.dur (keptB S.cache plan []) (2 + (t + (j : Int)) % 24).toNat := rfl
 rw [e]
 rcases durK_at S.dur (keptB S.cache plan []) (2 + (t + (j : Int)) % 24).toNat with h | ⟨x, h1, h2, h3⟩
 ·exact .inl h
 ·right
  rw [h3]
  have := keptB_mem h1
  rw [h2, show (((2 + (t + (j : Int)) % 24).toNat : Nat) : Int) = 2 + (t + (j : Int)) % 24 by omega] at this
  exact this
theorem secsOf_get (S : DS) (t : Int) {j : Nat} (h : j < 24) : (secsOf S t)[j]? = some (secAt S t j) := by unfold secsOf; simp [h]
theorem secsOf_len (S : DS) (t : Int) : (secsOf S t).length = 24 := by simp [secsOf]
theorem secAt_new (t : Int) (j : Nat) : secAt DS.new t j = zero64 := by
 unfold secAt DS.get DS.new zero64 durAt
 simp only [List.getLast?_nil]
 rw [List.drop_replicate, List.take_replicate]
 congr 1
 omega
structure JInv (S : DS) (t : Int) (G : List FrB) (c : Nat) : Prop where
 len : G.length ≤ 24
 le : c ≤ G.length
 old : ∀ j x, j < c → G[j]? = some x → durS S t j = secB x ∧ cacS S t j = []
 new : ∀ j, c ≤ j → j < 24 → durS S t j = zero64 ∧ cacS S t j = (match G[j]? with
  | some x => [secB x]
  | none => [])
end Go.Proofs.YtmdededhoibofaaGreat

namespace Go.Proofs.YtmdededhoibofaaGreat
open Go.RowKit Go.Sort
abbrev RI := Rc × Int
def encR (r : Rc) : List UInt8 := r.enc []
def recOk (r : Rc) : Prop := r.may [] = true ∧ (r.kind = 4 ∨ r.kind = 5 ∨ r.kind = 6)
theorem encR_len {r : Rc} (h : recOk r) : 0 < (encR r).length ∧ (encR r).length ≤ 13 := by
 have h1 : (leB r.kind 1).length = 1 := leB_length _ _
 unfold encR Rc.enc Rc.body
 rw [List.length_append, h1]
 rcases h.2 with e | e | e <;> simp [e, nmB, leB_length]
theorem nOf_rec {r : Rc} (h : recOk r) : nOf (encR r).length = 1 := by have := encR_len h; unfold nOf; omega
def frR (q : Int) (p : RI) : FrB := frOf (encR p.1) q p.2 0
theorem cutF_rec {r : Rc} (h : recOk r) (q inc : Int) : cutF (encR r) q inc = [frR q (r, inc)] := by
 unfold cutF frR; rw [nOf_rec h]; rfl
theorem cutOk_rec {r : Rc} (h : recOk r) {q inc : Int} (hq : 1 ≤ q ∧ q ≤ 1099511627776) (hi : 0 ≤ inc ∧ inc ≤ 1048576) : cutOk (encR r) q inc := by
 have h1 := encR_len h
 refine ⟨fun e => by rw [e] at h1; simp at h1, hq, hi, by omega, by rw [nOf_rec h]; omega⟩
theorem frR_seq (q : Int) (p : RI) : (frR q p).1.seq = q := by simp [frR, frOf]
theorem frR_inc (q : Int) (p : RI) : (frR q p).1.inc = p.2 := rfl
theorem frR_read {p : RI} (h : recOk p.1) {q : Int} (hq : 1 ≤ q ∧ q ≤ 1099511627776) (hi : 0 ≤ p.2 ∧ p.2 ≤ 1048576) : readF (secB (frR q p)) = some (frR q p) :=
 frOf_read (cutOk_rec h hq hi) (by rw [nOf_rec h]; omega)
def Stale (x : List UInt8) (q K : Int) : Prop := ∀ f ld, readF x = some (f, ld) → f.seq = q → f.inc < K
theorem Stale.mono {x : List UInt8} {q K K2 : Int} (h : Stale x q K) (hk : K ≤ K2) : Stale x q K2 := fun f ld h1 h2 => Int.lt_of_lt_of_le (h f ld h1 h2) hk
theorem stale_zero (q : Int) : Stale zero64 q 0 := fun f ld h _ => by rw [readF_zero] at h; cases h
def lastI (L : List RI) : Nat → Int
 | 0 => 0
 | c + 1 => ((L[c]?).map (·.2)).getD 0
theorem lastI_succ (L : List RI) (c : Nat) : lastI L (c + 1) = ((L[c]?).map (·.2)).getD 0 := rfl
theorem lastI_app {L : List RI} {c : Nat} (h : c ≤ L.length) (X : List RI) : lastI (L ++ X) c = lastI L c := by
 cases c with
 | zero => rfl
 | succ c => rw [lastI_succ, lastI_succ, List.getElem?_append_left (by omega)]
theorem lastI_take {L : List RI} {c m : Nat} (h : c ≤ m) : lastI (L.take m) c = lastI L c := by
 cases c with
 | zero => rfl
 | succ c => rw [lastI_succ, lastI_succ, List.getElem?_take_of_lt (by omega)]
structure Phys (S : DS) (t : Int) (L : List RI) (c : Nat) (inc K : Int) (x : Nat) : Prop where
 len : L.length + x ≤ 24
 le : c ≤ L.length
 t1 : 1 ≤ t ∧ t ≤ 2147483648
 incs : 0 ≤ inc ∧ inc ≤ 1048576
 K0 : 0 ≤ K
 ok : ∀ p ∈ L, recOk p.1 ∧ 0 ≤ p.2 ∧ p.2 ≤ inc
 up : ∀ (i j : Nat) p q, i ≤ j → L[i]? = some p → L[j]? = some q → p.2 ≤ q.2
 old : ∀ (j : Nat) p, j < c → L[j]? = some p → durS S t j = secB (frR (t + (j : Int)) p) ∧ cacS S t j = []
 new : ∀ (j : Nat) p, c ≤ j → L[j]? = some p → cacS S t j = [secB (frR (t + (j : Int)) p)] ∧ p.2 = inc ∧ Stale (durS S t j) (t + (j : Int)) K
 rest : ∀ j : Nat, L.length ≤ j → j < 24 → cacS S t j = [] ∧ Stale (durS S t j) (t + (j : Int)) (if j < L.length + x then K else 0)
 stop : c < 24 → Stale (durS S t c) (t + (c : Int)) (lastI L c)
theorem Phys.lt {S : DS} {t : Int} {L : List RI} {c : Nat} {inc K : Int} {x : Nat} (h : Phys S t L c inc K x) : L.length ≤ 24 := by have := h.len; omega
theorem durS_new (t : Int) (j : Nat) : durS DS.new t j = zero64 := by
 have := secAt_new t j; rw [secAt_eq] at this; exact this
theorem Phys.start {S : DS} (hd : ∀ j, j < 24 → durS S 1 j = zero64 ∧ cacS S 1 j = []) (inc : Int) (hi : 0 ≤ inc ∧ inc ≤ 1048576) : Phys S 1 [] 0 inc 0 0 := by
 refine ⟨by simp, Nat.le_refl _, by omega, hi, Int.le_refl _, fun p hp => (by cases hp), fun i j p q _ h => (by simp at h), fun j p h => by omega, fun j p _ h => (by simp at h), fun j _ hj => ⟨(hd j hj).2, ?_⟩, fun _ => ?_⟩
 ·rw [(hd j hj).1]; split <;> exact stale_zero _
 ·rw [(hd 0 (by omega)).1]; exact stale_zero _
theorem Phys.congr {S S2 : DS} {t : Int} {L : List RI} {c : Nat} {inc K : Int} {x : Nat} (h : Phys S t L c inc K x) (hd : ∀ j, j < 24 → durS S2 t j = durS S t j ∧ cacS S2 t j = cacS S t j) : Phys S2 t L c inc K x := by
 have hl := h.len
 refine ⟨h.len, h.le, h.t1, h.incs, h.K0, h.ok, h.up, fun j p h1 h2 => ?_, fun j p h1 h2 => ?_, fun j h1 h2 => ?_, fun h1 => ?_⟩
 ·have := (List.getElem?_eq_some_iff.1 h2).1
  rw [(hd j (by omega)).1, (hd j (by omega)).2]; exact h.old j p h1 h2
 ·have := (List.getElem?_eq_some_iff.1 h2).1
  rw [(hd j (by omega)).1, (hd j (by omega)).2]; exact h.new j p h1 h2
 ·rw [(hd j h2).1, (hd j h2).2]; exact h.rest j h1 h2
 ·rw [(hd c h1).1]; exact h.stop h1
theorem Phys.more {S : DS} {t : Int} {L : List RI} {c : Nat} {inc K K2 : Int} {x x2 : Nat} (h : Phys S t L c inc K x) (hx : x ≤ x2) (hl : L.length + x2 ≤ 24) (hk : K ≤ K2) : Phys S t L c inc K2 x2 := by
 have h0 := h.K0
 refine ⟨hl, h.le, h.t1, h.incs, by omega, h.ok, h.up, h.old, fun j p h1 h2 => ?_, fun j h1 h2 => ?_, h.stop⟩
 ·obtain ⟨a, b, d⟩ := h.new j p h1 h2
  exact ⟨a, b, d.mono hk⟩
 ·obtain ⟨a, b⟩ := h.rest j h1 h2
  refine ⟨a, b.mono ?_⟩
  split <;> split <;> omega
theorem Phys.begin {S : DS} {t : Int} {L : List RI} {inc K inc2 : Int} {x : Nat} (h : Phys S t L L.length inc K x) (hi : inc ≤ inc2 ∧ inc2 ≤ 1048576) : Phys S t L L.length inc2 K x := by
 have h1 := h.incs
 refine ⟨h.len, h.le, h.t1, by omega, h.K0, fun p hp => ?_, h.up, h.old, fun j p h1 h2 => ?_, h.rest, h.stop⟩
 ·obtain ⟨a, b, d⟩ := h.ok p hp
  exact ⟨a, b, by omega⟩
 ·have := (List.getElem?_eq_some_iff.1 h2).1; omega
theorem Phys.app {S : DS} {t : Int} {L : List RI} {c : Nat} {inc K : Int} {x : Nat} (h : Phys S t L c inc K x) {r : Rc} (hr : recOk r) {x2 : Nat} (hx : x ≤ x2 + 1) (hl : L.length + 1 + x2 ≤ 24) (hk : K ≤ inc) :
 Phys (putF S (cutF (encR r) (t + (L.length : Int)) inc)) t (L ++ [(r, inc)]) c inc K x2 := by
 have hL := h.lt
 have h0 := h.K0
 have hi := h.incs
 have hc := h.le
 have hlt : L.length < 24 := by omega
 have e : putF S (cutF (encR r) (t + (L.length : Int)) inc) = S.write (2 + (t + (L.length : Int)) % 24) (secB (frR (t + (L.length : Int)) (r, inc))) := by
  rw [cutF_rec hr]; unfold putF; rw [List.foldl_cons, List.foldl_nil, frR_seq]
 have hd : ∀ j, durS (putF S (cutF (encR r) (t + (L.length : Int)) inc)) t j = durS S t j := fun j => by rw [e]; rfl
 have hcc : ∀ j, j < 24 → cacS (putF S (cutF (encR r) (t + (L.length : Int)) inc)) t j = if j = L.length then cacS S t j ++ [secB (frR (t + (L.length : Int)) (r, inc))] else cacS S t j := fun j hj => by
  rw [e]; exact cacS_write S t _ hlt hj
 have hl1 : (L ++ [(r, inc)]).length = L.length + 1 := by rw [List.length_append]; rfl
 refine ⟨by rw [hl1]; exact hl, by rw [hl1]; omega, h.t1, hi, h0, fun p hp => ?_, fun i j p q hij hp hq => ?_, fun j p hj hp => ?_, fun j p hj hp => ?_, fun j hj hj2 => ?_, fun hc24 => ?_⟩
 ·rcases List.mem_append.1 hp with hp | hp
  ·exact h.ok p hp
  ·rw [List.mem_singleton.1 hp]; exact ⟨hr, hi.1, Int.le_refl _⟩
 ·have hjl := (List.getElem?_eq_some_iff.1 hq).1
  rw [hl1] at hjl
  rcases Nat.lt_or_ge j L.length with h1 | h1
  ·rw [List.getElem?_append_left h1] at hq
   rw [List.getElem?_append_left (by omega)] at hp
   exact h.up i j p q hij hp hq
  ·obtain rfl : j = L.length := by omega
   rw [List.getElem?_append_right (Nat.le_refl _), Nat.sub_self] at hq
   cases hq
   rcases Nat.lt_or_ge i L.length with h2 | h2
   ·rw [List.getElem?_append_left h2] at hp
    exact (h.ok p (List.mem_of_getElem? hp)).2.2
   ·obtain rfl : i = L.length := by omega
    rw [List.getElem?_append_right (Nat.le_refl _), Nat.sub_self] at hp
    cases hp; exact Int.le_refl _
 ·rw [List.getElem?_append_left (by omega)] at hp
  rw [hd, hcc j (by omega), if_neg (by omega)]
  exact h.old j p hj hp
 ·have hjl := (List.getElem?_eq_some_iff.1 hp).1
  rw [hl1] at hjl
  rw [hd, hcc j (by omega)]
  rcases Nat.lt_or_ge j L.length with h1 | h1
  ·rw [List.getElem?_append_left h1] at hp
   rw [if_neg (by omega)]
   exact h.new j p hj hp
  ·obtain rfl : j = L.length := by omega
   rw [List.getElem?_append_right (Nat.le_refl _), Nat.sub_self] at hp
   cases hp
   obtain ⟨a, b⟩ := h.rest L.length (Nat.le_refl _) hlt
   rw [if_pos rfl, a]
   refine ⟨rfl, rfl, b.mono ?_⟩
   split <;> omega
 ·rw [hl1] at hj
  obtain ⟨a, b⟩ := h.rest j (by omega) hj2
  rw [hd, hcc j hj2, if_neg (by omega), hl1]
  refine ⟨a, b.mono ?_⟩
  split <;> split <;> omega
 ·rw [hd, lastI_app h.le]; exact h.stop hc24
theorem Phys.at {S : DS} {t : Int} {L : List RI} {c : Nat} {inc K : Int} {x : Nat} (h : Phys S t L c inc K x) {j : Nat} {p : RI} (hp : L[j]? = some p) : secAt S t j = secB (frR (t + (j : Int)) p) := by
 rw [secAt_eq]
 rcases Nat.lt_or_ge j c with h1 | h1
 ·obtain ⟨a, b⟩ := h.old j p h1 hp
  rw [b]; exact a
 ·obtain ⟨a, -, -⟩ := h.new j p h1 hp
  rw [a]; rfl
theorem Phys.beyond {S : DS} {t : Int} {L : List RI} {c : Nat} {inc K : Int} {x : Nat} (h : Phys S t L c inc K x) {j : Nat} (h1 : L.length ≤ j) (h2 : j < 24) : secAt S t j = durS S t j := by
 rw [secAt_eq, (h.rest j h1 h2).1]; rfl
theorem Phys.last {S : DS} {t : Int} {L : List RI} {c : Nat} {inc K : Int} {x m : Nat} (h : Phys S t L c inc K x) (hm : c < m) (hl : m ≤ L.length) : lastI L m = inc := by
 cases m with
 | zero => omega
 | succ m =>
   obtain ⟨p, hp⟩ : ∃ p, L[m]? = some p := ⟨_, List.getElem?_eq_getElem (by omega)⟩
   rw [lastI_succ, hp]
   exact (h.new m p (by omega) hp).2.1
theorem Phys.flush {S : DS} {t : Int} {L : List RI} {c : Nat} {inc K : Int} {x : Nat} (h : Phys S t L c inc K x) (hk : c = L.length ∨ K ≤ inc) : Phys S.flush t L L.length inc K x := by
 have hl := h.lt
 have h0 := h.K0
 have hi := h.incs
 refine ⟨h.len, Nat.le_refl _, h.t1, h.incs, h.K0, h.ok, h.up, fun j p h1 h2 => ⟨by rw [durS_flush]; exact h.at h2, rfl⟩, fun j p h1 h2 => ?_, fun j h1 h2 => ⟨rfl, ?_⟩, fun h1 => ?_⟩
 ·have := (List.getElem?_eq_some_iff.1 h2).1; omega
 ·rw [durS_flush, h.beyond h1 h2]; exact (h.rest j h1 h2).2
 ·rw [durS_flush, h.beyond (Nat.le_refl _) h1]
  rcases Nat.lt_or_ge c L.length with h2 | h2
  ·rw [h.last h2 (Nat.le_refl _)]
   refine (h.rest L.length (Nat.le_refl _) h1).2.mono ?_
   rcases hk with hk | hk
   ·omega
   ·split <;> omega
  ·have e : c = L.length := by have := h.le; omega
   subst e
   exact h.stop h1
theorem Phys.crash {S : DS} {t : Int} {L : List RI} {c : Nat} {inc K : Int} {x : Nat} (h : Phys S t L c inc K x) (hk : c = L.length ∨ K ≤ inc) (plan : List (Int × Int)) {S2 : DS} (hs : ∀ j, secAt S2 t j = secAt (S.crash plan) t j) (hc2 : ∀ k, S2.cache k = []) :
 ∃ m, c ≤ m ∧ m ≤ L.length ∧ Phys S2 t (L.take m) m inc (max K (inc + 1)) (x + (L.length - m)) := by
 have hl := h.lt
 have h0 := h.K0
 have hi := h.incs
 have hlen := h.len
 have hcac : ∀ j, cacS S2 t j = [] := fun j => hc2 _
 have hdur : ∀ j, durS S2 t j = secAt (S.crash plan) t j := fun j => by rw [← hs j, secAt_eq, hcac]; rfl
 have hone : ∀ j p, L[j]? = some p → j < c → durS S2 t j = secB (frR (t + (j : Int)) p) := fun j p hp hj => by
  rw [hdur]
  rcases crash_at S plan t j with e | e
  ·rw [e]; exact (h.old j p hj hp).1
  ·rw [(h.old j p hj hp).2] at e; cases e
 have htwo : ∀ j p, L[j]? = some p → c ≤ j → durS S2 t j = secB (frR (t + (j : Int)) p) ∨ durS S2 t j = durS S t j := fun j p hp hj => by
  rw [hdur]
  rcases crash_at S plan t j with e | e
  ·exact .inr e
  ·rw [(h.new j p hj hp).1] at e
   exact .inl (List.mem_singleton.1 e)
 have hbey : ∀ j, L.length ≤ j → j < 24 → durS S2 t j = durS S t j := fun j h1 h2 => by
  rw [hdur]
  rcases crash_at S plan t j with e | e
  ·exact e
  ·rw [(h.rest j h1 h2).1] at e; cases e
 obtain ⟨m, hcm, hml, hall, hno⟩ : ∃ m, c ≤ m ∧ m ≤ L.length ∧ (∀ j p, j < m → L[j]? = some p → durS S2 t j = secB (frR (t + (j : Int)) p)) ∧ (m < L.length → durS S2 t m = durS S t m) := by
  have key : ∀ d m, L.length - m = d → c ≤ m → m ≤ L.length → (∀ j p, j < m → L[j]? = some p → durS S2 t j = secB (frR (t + (j : Int)) p)) → ∃ m, c ≤ m ∧ m ≤ L.length ∧ (∀ j p, j < m → L[j]? = some p → durS S2 t j = secB (frR (t + (j : Int)) p)) ∧ (m < L.length → durS S2 t m = durS S t m) := by
   intro d
   induction d with
   | zero => exact fun m hd h1 h2 h3 => ⟨m, h1, h2, h3, fun h => by omega⟩
   | succ d ih =>
     intro m hd h1 h2 h3
     obtain ⟨p, hp⟩ : ∃ p, L[m]? = some p := ⟨_, List.getElem?_eq_getElem (by omega)⟩
     rcases htwo m p hp h1 with e | e
     ·refine ih (m + 1) (by omega) (by omega) (by omega) fun j q hj hq => ?_
      rcases Nat.lt_or_ge j m with h4 | h4
      ·exact h3 j q h4 hq
      ·obtain rfl : j = m := by omega
       rw [hp] at hq; cases hq; exact e
     ·exact ⟨m, h1, h2, h3, fun _ => e⟩
  exact key _ c rfl (Nat.le_refl _) h.le fun j p hj hp => hone j p hp hj
 have hlm : (L.take m).length = m := by rw [List.length_take, Nat.min_eq_left hml]
 have hget : ∀ {j p}, (L.take m)[j]? = some p → j < m ∧ L[j]? = some p := fun {j p} hp => by
  have h1 := (List.getElem?_eq_some_iff.1 hp).1
  rw [hlm] at h1
  rw [List.getElem?_take_of_lt h1] at hp
  exact ⟨h1, hp⟩
 refine ⟨m, hcm, hml, by omega, by omega, h.t1, h.incs, by omega, fun p hp => h.ok p (List.mem_of_mem_take hp), fun i j p q hij hp hq => h.up i j p q hij (hget hp).2 (hget hq).2, fun j p hj hp => ⟨hall j p (hget hp).1 (hget hp).2, hcac j⟩, fun j p hj hp => by have := (hget hp).1; omega, fun j hj hj2 => ⟨hcac j, ?_⟩, fun hm => ?_⟩
 ·rw [hlm] at hj ⊢
  rcases Nat.lt_or_ge j L.length with h1 | h1
  ·rw [if_pos (by omega)]
   obtain ⟨p, hp⟩ : ∃ p, L[j]? = some p := ⟨_, List.getElem?_eq_getElem h1⟩
   rcases htwo j p hp (by omega) with e | e
   ·rw [e]
    obtain ⟨a, b, d⟩ := h.ok p (List.mem_of_getElem? hp)
    have := h.t1
    intro f ld hf _
    rw [frR_read a (by omega) (by omega)] at hf
    obtain rfl : (frR (t + (j : Int)) p).1 = f := congrArg Prod.fst (Option.some.inj hf)
    rw [frR_inc]; omega
   ·rw [e]; exact (h.new j p (by omega) hp).2.2.mono (by omega)
  ·rw [hbey j h1 hj2]
   refine (h.rest j h1 hj2).2.mono ?_
   split <;> split <;> omega
 ·rw [lastI_take (Nat.le_refl _)]
  rcases Nat.lt_or_ge m L.length with h1 | h1
  ·rw [hno h1]
   rcases Nat.lt_or_ge c m with h2 | h2
   ·obtain ⟨p, hp⟩ : ∃ p, L[m]? = some p := ⟨_, List.getElem?_eq_getElem h1⟩
    rw [h.last h2 hml]
    exact (h.new m p (by omega) hp).2.2.mono (by omega)
   ·obtain rfl : c = m := by omega
    exact h.stop hm
  ·obtain rfl : m = L.length := by omega
   rw [hbey _ (Nat.le_refl _) hm]
   rcases Nat.lt_or_ge c L.length with h2 | h2
   ·rw [h.last h2 (Nat.le_refl _)]
    refine (h.rest L.length (Nat.le_refl _) hm).2.mono ?_
    split <;> omega
   ·have e : c = L.length := by omega
    subst e
    exact h.stop hm
theorem durS_shift (S : DS) (t : Int) {m j : Nat} : durS S (t + (m : Int)) j = durS S t (m + j) ∧ cacS S (t + (m : Int)) j = cacS S t (m + j) := by
 have e : t + (m : Int) + (j : Int) = t + ((m + j : Nat) : Int) := by omega
 unfold durS cacS
 rw [e]; exact ⟨rfl, rfl⟩
theorem durS_round (S : DS) (t : Int) {j : Nat} (h : 24 ≤ j) : durS S t j = durS S t (j - 24) ∧ cacS S t j = cacS S t (j - 24) := by
 have e : (t + (j : Int)) % 24 = (t + ((j - 24 : Nat) : Int)) % 24 := by omega
 unfold durS cacS
 rw [e]; exact ⟨rfl, rfl⟩
theorem Phys.tail {S : DS} {t : Int} {L X : List RI} {inc K : Int} (h : Phys S t (L ++ X) (L ++ X).length inc K 0) (ht : t + (L.length : Int) ≤ 2147483648) (hX : X.length < 24) : Phys S (t + (L.length : Int)) X X.length inc K 0 := by
 have hlen := h.len
 rw [List.length_append] at hlen
 have h1 := h.t1
 have hinc := h.incs
 have hgX : ∀ {j p}, X[j]? = some p → (L ++ X)[L.length + j]? = some p := fun {j p} hp => by
  rw [List.getElem?_append_right (by omega), show L.length + j - L.length = j by omega]; exact hp
 have hfar : ∀ j, X.length ≤ j → j < 24 → cacS S (t + (L.length : Int)) j = [] ∧ Stale (durS S (t + (L.length : Int)) j) (t + (L.length : Int) + (j : Int)) 0 := fun j hj hj2 => by
  rw [(durS_shift S t).1, (durS_shift S t).2]
  rcases Nat.lt_or_ge (L.length + j) 24 with h2 | h2
  ·obtain ⟨a, b⟩ := h.rest (L.length + j) (by rw [List.length_append]; omega) h2
   rw [if_neg (by rw [List.length_append]; omega)] at b
   refine ⟨a, ?_⟩
   rw [show t + (L.length : Int) + (j : Int) = t + ((L.length + j : Nat) : Int) by omega]
   exact b
  ·rw [(durS_round S t h2).1, (durS_round S t h2).2]
   have h3 : L.length + j - 24 < L.length := by omega
   obtain ⟨p, hp⟩ : ∃ p, L[L.length + j - 24]? = some p := ⟨_, List.getElem?_eq_getElem h3⟩
   have hp2 : (L ++ X)[L.length + j - 24]? = some p := by rw [List.getElem?_append_left h3]; exact hp
   obtain ⟨a, b⟩ := h.old _ p (by rw [List.length_append]; omega) hp2
   refine ⟨b, ?_⟩
   rw [a]
   obtain ⟨d, e, f⟩ := h.ok p (List.mem_of_getElem? hp2)
   intro g ld hg hs
   rw [frR_read d (by omega) (by omega)] at hg
   obtain rfl : (frR (t + ((L.length + j - 24 : Nat) : Int)) p).1 = g := congrArg Prod.fst (Option.some.inj hg)
   rw [frR_seq] at hs
   omega
 refine ⟨by omega, Nat.le_refl _, by omega, h.incs, h.K0, fun p hp => h.ok p (List.mem_append_right _ hp), fun i j p q hij hp hq => h.up _ _ p q (by omega) (hgX hp) (hgX hq), fun j p hj hp => ?_, fun j p hj hp => ?_, fun j hj hj2 => ?_, fun hc => ?_⟩
 ·obtain ⟨a, b⟩ := h.old (L.length + j) p (by rw [List.length_append]; omega) (hgX hp)
  rw [(durS_shift S t).1, (durS_shift S t).2]
  refine ⟨?_, b⟩
  rw [a, show t + (L.length : Int) + (j : Int) = t + ((L.length + j : Nat) : Int) by omega]
 ·have := (List.getElem?_eq_some_iff.1 hp).1; omega
 ·obtain ⟨a, b⟩ := hfar j hj hj2
  refine ⟨a, b.mono ?_⟩
  have := h.K0
  split <;> omega
 ·refine (hfar _ (Nat.le_refl _) hc).2.mono ?_
  cases e : X.length with
  | zero => exact Int.le_refl _
  | succ c =>
    obtain ⟨p, hp⟩ : ∃ p, X[c]? = some p := ⟨_, List.getElem?_eq_getElem (by omega)⟩
    rw [lastI_succ, hp]
    exact (h.ok p (List.mem_append_right _ (List.mem_of_getElem? hp))).2.1
def framesI : Int → List RI → List FrB
 | _, [] => []
 | q, p :: L => frR q p :: framesI (q + 1) L
theorem framesI_len : ∀ (q : Int) (L : List RI), (framesI q L).length = L.length
 | _, [] => rfl
 | q, p :: L => by simp [framesI, framesI_len (q + 1) L]
theorem framesI_get : ∀ (q : Int) (L : List RI) {j : Nat} {p : RI}, L[j]? = some p → (framesI q L)[j]? = some (frR (q + (j : Int)) p)
 | _, [], _, _, h => by simp at h
 | q, x :: L, 0, p, h => by simp at h; subst h; simp [framesI]
 | q, x :: L, j + 1, p, h => by
   have := framesI_get (q + 1) L (j := j) (p := p) (by simpa using h)
   simp only [framesI, List.getElem?_cons_succ]
   rw [this, show q + 1 + (j : Int) = q + ((j + 1 : Nat) : Int) by omega]
def beginsI : Int → List RI → List (Int × List UInt8)
 | _, [] => []
 | q, p :: L => (q, encR p.1) :: beginsI (q + 1) L
theorem beginsI_snd : ∀ (q : Int) (L : List RI), (beginsI q L).map (·.2) = L.map fun p => encR p.1
 | _, [] => rfl
 | q, p :: L => by simp [beginsI, beginsI_snd (q + 1) L]
def endI : Int → List RI → Int
 | i, [] => i
 | _, p :: L => endI p.2 L
theorem endI_snoc : ∀ (i : Int) (L : List RI) (p : RI), endI i (L ++ [p]) = p.2
 | _, [], _ => rfl
 | _, x :: L, p => endI_snoc x.2 L p
theorem endI_last (L : List RI) : endI 0 L = lastI L L.length := by
 induction L using snoc_rec with
 | nil => rfl
 | snoc L p ih =>
   rw [endI_snoc, List.length_append, List.length_singleton, lastI_succ]
   simp
theorem scan_allI : ∀ (L : List RI) {q i : Int} {l : List (Int × List UInt8)} (rest : List (List UInt8)), (∀ p ∈ L, recOk p.1 ∧ 0 ≤ p.2 ∧ p.2 ≤ 1048576) → 1 ≤ q → q + (L.length : Int) ≤ 1099511627776 → (∀ p ∈ L, i ≤ p.2) → (L.map (·.2)).Pairwise (· ≤ ·) →
 scanP ⟨q, i, [], l, q⟩ ((framesI q L).map secB ++ rest) = scanP ⟨q + (L.length : Int), endI i L, [], l ++ beginsI q L, q + (L.length : Int)⟩ rest
 | [], q, i, l, rest, _, _, _, _, _ => by simp [framesI, beginsI, endI]
 | p :: L, q, i, l, rest, hok, hq, hb, hi, hp => by
   obtain ⟨h1, h2, h3⟩ := hok p (List.mem_cons_self ..)
   rw [List.length_cons] at hb
   have e := scan_one (nx := q) (l := l) (cutOk_rec h1 (q := q) (inc := p.2) (by omega) ⟨h2, h3⟩) (hi p (List.mem_cons_self ..)) ((framesI (q + 1) L).map secB ++ rest)
   rw [cutF_rec h1, nOf_rec h1] at e
   rw [List.map_cons, List.pairwise_cons] at hp
   have ih := scan_allI L (q := q + 1) (i := p.2) (l := l ++ [(q, encR p.1)]) rest (fun r hr => hok r (List.mem_cons_of_mem _ hr)) (by omega) (by omega) (fun r hr => hp.1 r.2 (List.mem_map_of_mem hr)) hp.2
   rw [framesI, List.map_cons, List.cons_append]
   refine e.trans ?_
   refine ih.trans ?_
   rw [beginsI, endI, List.append_assoc, List.singleton_append, List.length_cons]
   rw [show q + 1 + (L.length : Int) = q + ((L.length + 1 : Nat) : Int) by omega]
theorem Phys.scan {S : DS} {t : Int} {L : List RI} {inc K : Int} {x : Nat} (h : Phys S t L L.length inc K x) : (scanG S t).l.map (·.2) = L.map (fun p => encR p.1) ∧ (scanG S t).next = t + (L.length : Int) := by
 have hl := h.lt
 have ht := h.t1
 have hinc := h.incs
 rw [scanG_eq S (by omega)]
 have hsec : secsOf S t = (framesI t L).map secB ++ (secsOf S t).drop L.length := by
  refine List.ext_getElem? fun j => ?_
  rcases Nat.lt_or_ge j L.length with h1 | h1
  ·obtain ⟨p, hp⟩ : ∃ p, L[j]? = some p := ⟨_, List.getElem?_eq_getElem h1⟩
   rw [List.getElem?_append_left (by rw [List.length_map, framesI_len]; exact h1), secsOf_get S t (by omega), h.at hp, List.getElem?_map, framesI_get t L hp]; rfl
  ·rw [List.getElem?_append_right (by rw [List.length_map, framesI_len]; exact h1), List.getElem?_drop, List.length_map, framesI_len]
   congr 1; omega
 have hpw : (L.map (·.2)).Pairwise (· ≤ ·) := by
  rw [List.pairwise_iff_getElem]
  intro i j hi hj hij
  rw [List.length_map] at hi hj
  rw [List.getElem_map, List.getElem_map]
  exact h.up i j _ _ (by omega) (List.getElem?_eq_getElem hi) (List.getElem?_eq_getElem hj)
 have e := scan_allI L (q := t) (i := 0) (l := []) ((secsOf S t).drop L.length) (fun p hp => by obtain ⟨a, b, d⟩ := h.ok p hp; exact ⟨a, b, by omega⟩) (by omega) (by omega) (fun p hp => (h.ok p hp).2.1) hpw
 rw [← hsec] at e
 have hend : Ends (t + (L.length : Int)) (endI 0 L) ((secsOf S t).drop L.length) := fun y r hy f ld hf hs hi _ => by
  have h1 : (secsOf S t)[L.length]? = some y := by
   have : ((secsOf S t).drop L.length)[0]? = some y := by rw [hy]; rfl
   rwa [List.getElem?_drop, Nat.add_zero] at this
  have h2 : L.length < 24 := by have := (List.getElem?_eq_some_iff.1 h1).1; rwa [secsOf_len] at this
  rw [secsOf_get S t h2] at h1
  cases h1
  rw [h.beyond (Nat.le_refl _) h2] at hf
  have := h.stop h2 f ld hf hs
  rw [endI_last] at hi
  omega
 obtain ⟨h1, h2⟩ := scan_end (nx := t + (L.length : Int)) (l := [] ++ beginsI t L) hend
 have e2 : scanOf S t = scanP ⟨t, 0, [], [], t⟩ (secsOf S t) := rfl
 rw [e2, e, h1, h2, List.nil_append, beginsI_snd]
 exact ⟨rfl, rfl⟩
end Go.Proofs.YtmdededhoibofaaGreat

namespace Go.Proofs.YtmdededhoibofaaGreat
open Go.RowKit Go.Sort
def curOf (su : Su) : Su := { su with gen := 0, tail := 0, owned := 0, inc := 0 }
def tkC (x : Su × List Rc) (r : Rc) : Su × List Rc :=
 if r.kind = 4 then (if 0 ≤ r.cs then x.1.mSet r.cs.toNat r.ct else x.1, commitL x.2 r)
 else if r.kind = 5 then (x.1, endL x.2 r.name) else ({ x.1 with bound := r.n }, x.2)
def runK (x : Su × List Rc) (l : List Rc) : Su × List Rc := l.foldl tkC x
theorem runK_append (x : Su × List Rc) (a b : List Rc) : runK x (a ++ b) = runK (runK x a) b := List.foldl_append ..
theorem take_eq (s : Ls) (r : Rc) : s.take r = { s with cu := (tkC (s.cu, s.op) r).1, op := (tkC (s.cu, s.op) r).2 } := by
 unfold Ls.take tkC Ls.commit Ls.end_ Ls.stamps
 split
 ·rfl
 ·split <;> rfl
structure CuOk (cu : Su) : Prop where
 zero : curOf cu = cu
 map : cu.mapOk
 bound : 1 ≤ cu.bound ∧ cu.bound ≤ 1048577
structure OpOk (op : List Rc) : Prop where
 ok : ∀ r ∈ op, recOk r ∧ r.kind = 4
 nodup : (op.map (·.name)).Nodup
theorem OpOk.nil : OpOk [] := ⟨fun r h => (by cases h), .nil⟩
theorem names_set {op : List Rc} {k : Nat} {r q : Rc} (hk : op[k]? = some q) (h : q.name = r.name) : (op.set k r).map (·.name) = op.map (·.name) := by
 rw [List.map_set, ← h]
 refine List.ext_getElem? fun i => ?_
 rw [List.getElem?_set]
 split
 ·subst_vars
  have hl := (List.getElem?_eq_some_iff.1 hk).1
  rw [if_pos (by rw [List.length_map]; exact hl), List.getElem?_map, hk]; rfl
 ·rfl
theorem commitL_names (op : List Rc) (r : Rc) : (commitL op r).map (·.name) = if (fd op r.name).isSome then op.map (·.name) else op.map (·.name) ++ [r.name] := by
 unfold commitL
 cases h : fd op r.name with
 | none => simp
 | some k =>
   obtain ⟨q, hq, hn⟩ := fd_some h
   exact names_set hq hn
theorem mSet_ok {cu : Su} (h : CuOk cu) {k : Nat} {v : Int} (hk : k < 8) (hv : 1 ≤ v ∧ v ≤ 4) : CuOk (cu.mSet k v) := by
 obtain ⟨h1, h2, h3⟩ := h
 refine ⟨?_, fun i hi => ?_, h3⟩
 ·unfold curOf Su.mSet at *
  rw [← h1]
 ·have := h2 i hi
  unfold Su.mSet
  rcases lt8 hi with rfl | rfl | rfl | rfl | rfl | rfl | rfl | rfl <;> simp only [Su.mAt] at this ⊢ <;> split <;> omega
theorem rec4 {r : Rc} (h : recOk r) (hk : r.kind = 4) : r.name.named = true ∧ ((r.cs = -1 ∧ r.ct = 0) ∨ (0 ≤ r.cs ∧ r.cs < 8 ∧ 1 ≤ r.ct ∧ r.ct ≤ 4)) ∧ r = { Rc.zero with kind := 4, name := r.name, shards := r.shards, cs := r.cs, ct := r.ct } ∧ shardsB r.shards = true := by
 rcases may_cases h.1 with ⟨a, -⟩ | ⟨a, -⟩ | ⟨a, -⟩ | ⟨a, b, -, d, e, f⟩ | ⟨a, -⟩ | ⟨a, -⟩ | ⟨a, -⟩
 all_goals first | omega | skip
 exact ⟨d, by simpa [changedB] using f, b, e⟩
theorem rec_cs {r : Rc} (h : recOk r) : r.cs < 8 := by
 rcases may_cases h.1 with ⟨a, b, -⟩ | ⟨a, b, -⟩ | ⟨a, b, -⟩ | ⟨a, b, -, d, e, f⟩ | ⟨a, b, -⟩ | ⟨a, b, -⟩ | ⟨a, b, -⟩
 all_goals first
  | (have f2 : (r.cs = -1 ∧ r.ct = 0) ∨ (0 ≤ r.cs ∧ r.cs < 8 ∧ 1 ≤ r.ct ∧ r.ct ≤ 4) := by simpa [changedB] using f
     omega)
  | (rw [b]; simp [Rc.zero])
theorem rec_shards {r : Rc} (h : recOk r) : r.shards ≤ 9223372036854775807 := by
 rcases may_cases h.1 with ⟨a, b, -⟩ | ⟨a, b, -⟩ | ⟨a, b, -⟩ | ⟨a, b, -, d, e, f⟩ | ⟨a, b, -⟩ | ⟨a, b, -⟩ | ⟨a, b, -⟩
 all_goals first
  | (have e2 : 0 < r.shards ∧ r.shards < 32 ∧ r.shards % 2 = 0 := by simpa [shardsB] using e
     omega)
  | (rw [b]; simp [Rc.zero])
theorem tkC_ok {x : Su × List Rc} {r : Rc} (h1 : CuOk x.1) (h2 : OpOk x.2) (hr : recOk r) : CuOk (tkC x r).1 ∧ OpOk (tkC x r).2 := by
 unfold tkC
 split
 ·rename_i hk
  obtain ⟨hn, hc, -, -⟩ := rec4 hr hk
  refine ⟨?_, fun q hq => ?_, ?_⟩
  ·show CuOk (if 0 ≤ r.cs then x.1.mSet r.cs.toNat r.ct else x.1)
   split
   ·exact mSet_ok h1 (by omega) (by omega)
   ·exact h1
  ·replace hq : q ∈ commitL x.2 r := hq
   unfold commitL at hq
   split at hq
   ·rcases List.mem_or_eq_of_mem_set hq with h | rfl
    ·exact h2.ok q h
    ·exact ⟨hr, hk⟩
   ·rcases List.mem_append.1 hq with h | h
    ·exact h2.ok q h
    ·rw [List.mem_singleton.1 h]; exact ⟨hr, hk⟩
  ·show ((commitL x.2 r).map (·.name)).Nodup
   rw [commitL_names]
   cases h : fd x.2 r.name with
   | some k => exact h2.nodup
   | none =>
     have hno := fd_none h
     simp only [Option.isSome_none, Bool.false_eq_true, if_false]
     rw [List.nodup_append]
     refine ⟨h2.nodup, by simp, fun a ha b hb => ?_⟩
     rw [List.mem_singleton.1 hb]
     obtain ⟨q, hq, rfl⟩ := List.mem_map.1 ha
     exact hno q hq
 ·split
  ·rename_i hk
   refine ⟨h1, fun q hq => ?_, ?_⟩
   ·replace hq : q ∈ endL x.2 r.name := hq
    unfold endL at hq
    split at hq
    ·exact h2.ok q (List.mem_of_mem_eraseIdx hq)
    ·exact h2.ok q hq
   ·show ((endL x.2 r.name).map (·.name)).Nodup
    unfold endL
    split
    ·exact h2.nodup.sublist ((List.eraseIdx_sublist _ _).map _)
    ·exact h2.nodup
  ·rename_i h4 h5
   have h6 : r.kind = 6 := by rcases hr.2 with h | h | h <;> first | exact h | exact absurd h (by assumption)
   refine ⟨⟨?_, h1.map, ?_⟩, h2⟩
   ·have := h1.zero
    unfold curOf at *
    show { { x.1 with bound := r.n } with gen := 0, tail := 0, owned := 0, inc := 0 } = { x.1 with bound := r.n }
    rw [← this]
   ·show 1 ≤ r.n ∧ r.n ≤ 1048577
    rcases may_cases hr.1 with ⟨a, -⟩ | ⟨a, -⟩ | ⟨a, -⟩ | ⟨a, -⟩ | ⟨a, -⟩ | ⟨a, -, -, d⟩ | ⟨a, -⟩
    all_goals first | omega | skip
    simpa [withinB] using d
theorem runK_ok : ∀ (l : List Rc) {x : Su × List Rc}, CuOk x.1 → OpOk x.2 → (∀ r ∈ l, recOk r) → CuOk (runK x l).1 ∧ OpOk (runK x l).2
 | [], _, h1, h2, _ => ⟨h1, h2⟩
 | r :: l, x, h1, h2, h => by
   obtain ⟨a, b⟩ := tkC_ok h1 h2 (h r (List.mem_cons_self ..))
   exact runK_ok l a b fun q hq => h q (List.mem_cons_of_mem _ hq)
theorem curOf_ok {su : Su} (h : su.may) : CuOk (curOf su) := ⟨rfl, fun k hk => by have := h.1 k hk; rcases lt8 hk with rfl | rfl | rfl | rfl | rfl | rfl | rfl | rfl <;> exact this, by have := h.2; show 1 ≤ su.bound ∧ su.bound ≤ _; omega⟩
def clrR (r : Rc) : Rc := { r with cs := -1, ct := 0 }
theorem clr_ok {r : Rc} (h : recOk r) (hk : r.kind = 4) : recOk (clrR r) ∧ (clrR r).kind = 4 := by
 obtain ⟨hn, -, he, hs⟩ := rec4 h hk
 refine ⟨⟨?_, .inl hk⟩, hk⟩
 rw [he]
 simp [clrR, Rc.may, Rc.ok, Rc.rest, Rc.zero, Rc.same, hn, hs, changedB, Nm.eqb, eqWs]
theorem runK_clr (cu : Su) : ∀ (l pre : List Rc), (∀ r ∈ l, r.kind = 4 ∧ r.cs = -1) → ((pre ++ l).map (·.name)).Nodup → runK (cu, pre) l = (cu, pre ++ l)
 | [], pre, _, _ => by simp [runK]
 | r :: l, pre, h, hn => by
   obtain ⟨h1, h2⟩ := h r (List.mem_cons_self ..)
   have hno : fd pre r.name = none := fd_no fun q hq e => by
    rw [List.map_append, List.nodup_append] at hn
    exact hn.2.2 q.name (List.mem_map_of_mem hq) r.name (by simp) e
   have e : tkC (cu, pre) r = (cu, pre ++ [r]) := by
    unfold tkC
    rw [if_pos h1]
    simp only [if_neg (show ¬ 0 ≤ r.cs by omega)]
    unfold commitL
    rw [hno]
   show runK (tkC (cu, pre) r) l = _
   rw [e, runK_clr cu l (pre ++ [r]) (fun q hq => h q (List.mem_cons_of_mem _ hq)) (by rw [List.append_assoc, List.singleton_append]; exact hn), List.append_assoc, List.singleton_append]
theorem map_clr (op : List Rc) : (op.map clrR).map (·.name) = op.map (·.name) := by rw [List.map_map]; rfl
structure LG (s : Ls) (L : List RI) (c : Nat) : Prop where
 run : runK (curOf s.su, []) (L.map (·.1)) = (s.cu, s.op)
 ends : ∀ (j : Nat) p, c ≤ j → L[j]? = some p → p.1.kind = 5
 cnt : ∀ m, c ≤ m → m ≤ L.length → (runK (curOf s.su, []) ((L.take m).map (·.1))).2.length = s.op.length + (L.length - m)
 few : s.op.length + (L.length - c) ≤ 8
theorem LG.ok {s : Ls} {L : List RI} {c : Nat} (h : LG s L c) (hm : s.su.may) (hL : ∀ p ∈ L, recOk p.1) : CuOk s.cu ∧ OpOk s.op := by
 have := runK_ok (L.map (·.1)) (x := (curOf s.su, [])) (curOf_ok hm) OpOk.nil (fun r hr => by obtain ⟨p, hp, rfl⟩ := List.mem_map.1 hr; exact hL p hp)
 rw [h.run] at this
 exact this
theorem LG.app {s : Ls} {L : List RI} {c : Nat} (h : LG s L c) (r : Rc) (inc : Int) (n : Int) (h8 : (s.take r).op.length ≤ 8) : LG ({ s with n := n }.take r) (L ++ [(r, inc)]) (L ++ [(r, inc)]).length := by
 have e : { s with n := n }.take r = { s with n := n, cu := (tkC (s.cu, s.op) r).1, op := (tkC (s.cu, s.op) r).2 } := take_eq _ r
 have e2 : (s.take r).op = (tkC (s.cu, s.op) r).2 := by rw [take_eq]
 have hrun : runK (curOf s.su, []) ((L ++ [(r, inc)]).map (·.1)) = ((tkC (s.cu, s.op) r).1, (tkC (s.cu, s.op) r).2) := by
  rw [List.map_append, runK_append, h.run]; rfl
 rw [e]
 refine ⟨hrun, fun j p hj hp => ?_, fun m h1 h2 => ?_, ?_⟩
 ·have := (List.getElem?_eq_some_iff.1 hp).1; omega
 ·obtain rfl : m = (L ++ [(r, inc)]).length := by omega
  rw [List.take_length]
  show (runK (curOf s.su, []) _).2.length = _
  rw [hrun, Nat.sub_self]; rfl
 ·rw [Nat.sub_self]; rw [e2] at h8; exact h8
theorem LG.fin {s : Ls} {L : List RI} {c : Nat} (h : LG s L c) (hc : c ≤ L.length) (r : Rc) (inc : Int) (n : Int) (hk : r.kind = 5) {k : Nat} (hf : fd s.op r.name = some k) : LG ({ s with n := n }.take r) (L ++ [(r, inc)]) c := by
 have e : { s with n := n }.take r = { s with n := n, cu := (tkC (s.cu, s.op) r).1, op := (tkC (s.cu, s.op) r).2 } := take_eq _ r
 have et : tkC (s.cu, s.op) r = (s.cu, s.op.eraseIdx k) := by
  unfold tkC endL
  rw [if_neg (by omega), if_pos hk]
  simp only [hf]
 have hrun : runK (curOf s.su, []) ((L ++ [(r, inc)]).map (·.1)) = (s.cu, s.op.eraseIdx k) := by
  rw [List.map_append, runK_append, h.run]
  exact et
 have hkl := fd_lt hf
 have hel : (s.op.eraseIdx k).length = s.op.length - 1 := by rw [List.length_eraseIdx, if_pos hkl]
 have hl1 : (L ++ [(r, inc)]).length = L.length + 1 := by rw [List.length_append]; rfl
 have hfew := h.few
 rw [e, et]
 refine ⟨hrun, fun j p hj hp => ?_, fun m h1 h2 => ?_, ?_⟩
 ·rcases Nat.lt_or_ge j L.length with h1 | h1
  ·rw [List.getElem?_append_left h1] at hp; exact h.ends j p hj hp
  ·have := (List.getElem?_eq_some_iff.1 hp).1
   obtain rfl : j = L.length := by omega
   rw [List.getElem?_append_right (Nat.le_refl _), Nat.sub_self] at hp
   cases hp; exact hk
 ·show (runK (curOf s.su, []) _).2.length = (s.op.eraseIdx k).length + _
  rw [hl1] at h2 ⊢
  rcases Nat.lt_or_ge L.length m with h3 | h3
  ·obtain rfl : m = L.length + 1 := by omega
   rw [← hl1, List.take_length, hrun, hl1]
   show (s.op.eraseIdx k).length = _
   omega
  ·rw [List.take_append_of_le_length h3, h.cnt m h1 h3]; omega
 ·show (s.op.eraseIdx k).length + _ ≤ 8
  rw [hl1]; omega
theorem runK_ends : ∀ (l : List Rc) {x : Su × List Rc}, (∀ r ∈ l, r.kind = 5) → (runK x l).1 = x.1 ∧ (∀ n, n ∈ (runK x l).2.map (·.name) → n ∈ x.2.map (·.name)) ∧ ∀ n, n ∈ x.2.map (·.name) → n ∈ (runK x l).2.map (·.name) ∨ n ∈ l.map (·.name)
 | [], x, _ => ⟨rfl, fun n h => h, fun n h => .inl h⟩
 | r :: l, x, h => by
   have h5 := h r (List.mem_cons_self ..)
   have et : tkC x r = (x.1, endL x.2 r.name) := by unfold tkC; rw [if_neg (by omega), if_pos h5]
   obtain ⟨a, b, d⟩ := runK_ends l (x := tkC x r) fun q hq => h q (List.mem_cons_of_mem _ hq)
   rw [et] at a b d
   have e2 : runK x (r :: l) = runK (x.1, endL x.2 r.name) l := by show runK (tkC x r) l = _; rw [et]
   rw [e2]
   refine ⟨a, fun n hn => ?_, fun n hn => ?_⟩
   ·have := b n hn
    unfold endL at this
    split at this
    ·exact ((List.eraseIdx_sublist _ _).map _).subset this
    ·exact this
   ·by_cases e : n = r.name
    ·right; rw [e]; simp
    ·have h3 : n ∈ (endL x.2 r.name).map (·.name) := by
      obtain ⟨q, hq, rfl⟩ := List.mem_map.1 hn
      refine List.mem_map_of_mem ?_
      unfold endL
      split
      ·rename_i k hk
       obtain ⟨i, hi⟩ := List.getElem?_of_mem hq
       obtain ⟨p, hp, hpn⟩ := fd_some hk
       have hik : i ≠ k := fun e2 => by rw [e2, hp] at hi; cases hi; exact e hpn
       rw [List.mem_eraseIdx_iff_getElem?]
       exact ⟨i, hik, hi⟩
      ·exact hq
     rcases d n h3 with h4 | h4
     ·exact .inl h4
     ·right; rw [List.map_cons]; exact List.mem_cons_of_mem _ h4
def Ls.back (s : Ls) (L : List RI) (m : Nat) : Ls := ⟨s.su, (runK (curOf s.su, []) ((L.take m).map (·.1))).1, s.su.tail + (m : Int), (runK (curOf s.su, []) ((L.take m).map (·.1))).2⟩
theorem LG.back {s : Ls} {L : List RI} {c m : Nat} (h : LG s L c) (h1 : c ≤ m) (h2 : m ≤ L.length) :
 LG (s.back L m) (L.take m) m ∧ (s.back L m).cu = s.cu ∧ (s.back L m).op.length = s.op.length + (L.length - m) ∧ (∀ n, n ∈ s.op.map (·.name) → n ∈ (s.back L m).op.map (·.name)) ∧ ∀ n, n ∈ (s.back L m).op.map (·.name) → n ∈ s.op.map (·.name) ∨ ∃ (j : Nat) (p : RI), c ≤ j ∧ L[j]? = some p ∧ p.1.name = n := by
 have hlm : (L.take m).length = m := by rw [List.length_take, Nat.min_eq_left h2]
 have hfew := h.few
 have hcnt := h.cnt m h1 h2
 have hD : ∀ r ∈ (L.drop m).map (·.1), r.kind = 5 := fun r hr => by
  obtain ⟨p, hp, rfl⟩ := List.mem_map.1 hr
  obtain ⟨j, hj⟩ := List.getElem?_of_mem hp
  rw [List.getElem?_drop] at hj
  exact h.ends _ p (by omega) hj
 obtain ⟨a, b, d⟩ := runK_ends ((L.drop m).map (·.1)) (x := runK (curOf s.su, []) ((L.take m).map (·.1))) hD
 have e : runK (runK (curOf s.su, []) ((L.take m).map (·.1))) ((L.drop m).map (·.1)) = (s.cu, s.op) := by
  rw [← runK_append, ← List.map_append, List.take_append_drop]; exact h.run
 rw [e] at a b d
 refine ⟨⟨rfl, fun j p hj hp => ?_, fun k h3 h4 => ?_, ?_⟩, a.symm, hcnt, b, fun n hn => ?_⟩
 ·have := (List.getElem?_eq_some_iff.1 hp).1; omega
 ·obtain rfl : k = m := by omega
  rw [List.take_take, Nat.min_self, hlm, Nat.sub_self]; rfl
 ·rw [hlm, Nat.sub_self]
  show (runK (curOf s.su, []) ((L.take m).map (·.1))).2.length + 0 ≤ 8
  rw [hcnt]; omega
 ·rcases d n hn with h3 | h3
  ·exact .inl h3
  ·right
   obtain ⟨r, hr, rfl⟩ := List.mem_map.1 h3
   obtain ⟨p, hp, rfl⟩ := List.mem_map.1 hr
   obtain ⟨j, hj⟩ := List.getElem?_of_mem hp
   rw [List.getElem?_drop] at hj
   exact ⟨m + j, p, by omega, hj, rfl⟩
end Go.Proofs.YtmdededhoibofaaGreat

namespace Go.Proofs.YtmdededhoibofaaGreat
open Go.RowKit Go.Sort
noncomputable def rdR (bs : List UInt8) (k : Nat) : Su × Bool := match supP bs k with
 | some x => (x, true)
 | none => (zSu, false)
theorem rdR_shut {bs : List UInt8} {k : Nat} (h : opnB bs 27 = false) : rdR bs k = (zSu, false) := by
 unfold rdR supP; rw [h]; simp
theorem rdR_no {bs : List UInt8} {k : Nat} (h : ¬ ((suOf (bs.take 27)).may ∧ (suOf (bs.take 27)).gen % 2 = (k : Int))) : rdR bs k = (zSu, false) := by
 unfold rdR supP; rw [if_neg (fun q => h q.2)]
theorem rdR_yes {bs : List UInt8} {k : Nat} (h : opnB bs 27 = true) (h1 : (suOf (bs.take 27)).may) (h2 : (suOf (bs.take 27)).gen % 2 = (k : Int)) : rdR bs k = (suOf (bs.take 27), true) := by
 unfold rdR supP; rw [if_pos ⟨h, h1, h2⟩]
def suHd (b : List UInt8) (j : Nat) : Su := ⟨if 0 < j then numB b 0 6 else 0, if 1 < j then numB b 6 6 else 0, if 2 < j then numB b 12 1 else 0, if 3 < j then numB b 13 3 else 0, if 4 < j then numB b 16 3 else 0, 0, 0, 0, 0, 0, 0, 0, 0⟩
noncomputable def opnL (bs : List UInt8) (n : Nat) : List UInt8 := if opnB bs n = true then bs.take n else []
theorem opn_uni {wo w w' : World} {H : List Ent} {bs : List UInt8} {n : Nat} {e : Ending} (M : Mem wo w H) (hn : n ≤ bs.length) (hP : OpnP bs n w e w') :
 ∃ v' lo hi, e = .returned (.tuple #[v', .bool (opnB bs n)]) ∧ Below w.heap.size w w' ∧ Mem wo w' (rowE lo hi 5 1 v' (opnL bs n).length (bcells (opnL bs n)) :: H) := by
 obtain ⟨v', rfl, hK, hF, hN⟩ := hP
 cases h : opnB bs n with
 | true =>
   obtain ⟨lo, hi, -, M1⟩ := M.pushFresh (hF h)
   refine ⟨v', lo, hi, rfl, hK, ?_⟩
   unfold opnL
   rw [if_pos h, List.length_take, Nat.min_eq_left hn]
   exact M1
 | false =>
   obtain rfl := hN h
   obtain ⟨lo, hi, M1⟩ := (M.grow hK).nilRow 5 1
   refine ⟨_, lo, hi, rfl, hK, ?_⟩
   unfold opnL
   rw [if_neg (by rw [h]; decide)]
   exact M1
theorem opnL_yes {bs : List UInt8} {n : Nat} (h : opnB bs n = true) : opnL bs n = bs.take n := if_pos h
set_option maxHeartbeats 1000000 in
theorem readH_any (v : Value) (bs : List UInt8) (k : Nat) (w : World) (hv : Bs 0 w.heap.size w v bs) (hb : bs.length = 64) :
 Calls Tryz.prog 51 #[v, .int .i64 (k : Int)] w fun e w' => e = .returned (.tuple #[.agg (rdR bs k).1.cellsL.toArray, .bool (rdR bs k).2]) ∧ Below w.heap.size w w' := by
 have M := Mem.start w
 have hl27 : (bs.take 27).length = 27 := by rw [List.length_take]; omega
 refine calls_enter Tryz.func51 rfl 57 rfl rfl ?_; intro a S
 refine nxD (st_alloc S M rfl rfl #[.int .i64 0, .int .i64 0, .int .i64 0, .int .i64 0, .int .i64 0, .int .i64 0, .int .i64 0, .int .i64 0, .int .i64 0, .int .i64 0, .int .i64 0, .int .i64 0, .int .i64 0] (by kernel_rfl) ?_); clear S M a; intro a w1 bZ S M hB
 refine qG [1] S ?_; clear S a; intro a S
 refine nxA (qG [1] S ?_); clear S a; intro a S
 refine qC (xs := [.tmp 13, .const (.int .i64 31)]) S (qE Tryz.func81) rfl (openH_any v bs 27 _ (M.argW hv) (by omega) (by omega)) ?_
 rintro _ w2 hP; obtain ⟨v2, lo, hi, rfl, hK, M1⟩ := opn_uni M (by omega) hP; refine ⟨_, rfl, ?_⟩; clear S a; intro a S; clear M hP; have M := M1; clear M1
 have hol : (opnL bs 27).length ≤ 64 := by unfold opnL; split <;> simp; omega
 obtain ⟨va, vc, rfl, -, -⟩ := (M.readAll 0 rfl (by unfold maxLen; omega)).form
 refine qG [1, 1, 1] S ?_; clear S a; intro a S
 refine st_alloc S M rfl rfl #[.slice none 0 0] (by kernel_rfl) ?_; clear S M a; intro a w3 bV S M hB
 refine qS (sz := 1) (us := [_]) S M 0 ?_; clear M; intro w4 M
 refine qG [1] S ?_; clear S a; intro a S
 refine nxC (wp_seq (nxD (qG [1, 1] S ?_))); clear S a; intro a S
 refine nxC (st_if (t := 18) S rfl ?_ ?_)
 ·clear S; intro h18 S
  refine st_condT S rfl (nxD (qY S (y_build (ps := []) (pl := [(0, 1), (1, 1), (2, 1), (3, 1), (4, 1), (5, 8)]) (z := [.int .i64 0, .int .i64 0, .int .i64 0, .int .i64 0, .int .i64 0, .int .i64 0, .int .i64 0, .int .i64 0, .int .i64 0, .int .i64 0, .int .i64 0, .int .i64 0, .int .i64 0]) (cs := [_, _, _, _, _, _, _, _, _, _, _, _, _]) S (by kernel_rfl) rfl (rfl)) ?_)); clear S a; intro a S
  refine qS (sz := 13) (us := [_, _, _, _, _, _, _, _, _, _, _, _, _]) S M 2 ?_; clear M; intro w5 M
  refine qG [1] S ?_; clear S a; intro a S
  refine nxC (wp_ret (then_ret (end_two S rfl (res_agg (cs := [_, _, _, _, _, _, _, _, _, _, _, _, _]) (by kernel_rfl) rfl rfl (M.cellsAt (k := 13) 2 rfl rfl)) (res_tmp rfl) ?_)))
  refine ⟨?_, M.below⟩
  rw [rdR_shut (by simp_all)]; rfl
 clear S; intro h18 S
 refine st_condF S rfl (wp_skip (then_normal (wp_seq ?_)))
 have hop : opnB bs 27 = true := by simp_all
 rw [opnL_yes hop] at M
 clear hol
 obtain ⟨b9, hb9⟩ : ∃ b9, bs.take 27 = b9 := ⟨_, rfl⟩
 rw [hb9] at M hl27
 obtain ⟨v2, hv2⟩ : ∃ v2, Value.slice va b9.length vc = v2 := ⟨_, rfl⟩
 rw [hv2] at M
 refine wp_region_lit (st_alloc S M rfl rfl #[.int .i64 0] (by kernel_rfl) ?_); clear S M a; intro a w6 bA S M hB
 refine qS (sz := 1) (us := [_]) S M 0 ?_; clear M; intro w7 M
 refine nxA (qY S (y_makeFunc (fs := []) (cs := [.tmp 6, .tmp 8]) S rfl rfl) ?_); clear S a; intro a S
 refine qG [1] S ?_; clear S a; intro a S
 refine nxA (st_alloc S M rfl rfl #[.int .i64 0, .int .i64 0, .int .i64 0, .int .i64 0, .int .i64 0, .int .i64 0, .int .i64 0, .int .i64 0, .int .i64 0, .int .i64 0, .int .i64 0, .int .i64 0, .int .i64 0] (by kernel_rfl) ?_); clear S M a; intro a w8 bX S M hB
 refine nxC (wp_seq ?_)
 obtain ⟨rest, hrest⟩ : ∃ rest, rest = [Ent.blk bZ zSu.cellsL.toArray 72] := ⟨_, rfl⟩
 have hbs : ∀ b c, RdH w (.blk bX b 72 :: rowE lo hi 5 1 v2 b9.length (bcells b9) :: c) v2 b9 := fun b c W M => M.readAll 1 rfl (by unfold maxLen; omega)
 replace M := M.ord [2, 2] (by simp only [ordO, oG, oS, oE, oZ, oB] <;> rfl)
 refine wp_region_lit (qG [1] S ?_); clear S a; intro a S
 refine st_callB (xs := [.const (.int .i64 6)]) (fi := []) (ca := [_, _]) S (enters_of Tryz.func82 (by decide) rfl) rfl rfl (rfl) rfl (take9_any 0 6 M (hbs _ _) (by omega) (by omega) (by omega)) ?_
 rintro _ w9 ⟨rfl, M1⟩; refine ⟨_, rfl, ?_⟩; clear S M a; intro a S; have M := M1; clear M1
 refine qG [1] S ?_; clear S a; intro a S
 refine qS (sz := 1) (us := [_]) S M 2 ?_; clear M; intro w10 M
 refine nxA (qG [1] S ?_); clear S a; intro a S
 refine st_callB (xs := [.const (.int .i64 6)]) (fi := []) (ca := [_, _]) S (enters_of Tryz.func82 (by decide) rfl) rfl rfl (rfl) rfl (take9_any 6 6 M (hbs _ _) (by omega) (by omega) (by omega)) ?_
 rintro _ w11 ⟨rfl, M1⟩; refine ⟨_, rfl, ?_⟩; clear S M a; intro a S; have M := M1; clear M1
 refine qG [2] S ?_; clear S a; intro a S
 refine qS (sz := 1) (us := [_]) S M 2 ?_; clear M; intro w12 M
 refine nxA (qG [1] S ?_); clear S a; intro a S
 refine st_callB (xs := [.const (.int .i64 1)]) (fi := []) (ca := [_, _]) S (enters_of Tryz.func82 (by decide) rfl) rfl rfl (rfl) rfl (take9_any 12 1 M (hbs _ _) (by omega) (by omega) (by omega)) ?_
 rintro _ w13 ⟨rfl, M1⟩; refine ⟨_, rfl, ?_⟩; clear S M a; intro a S; have M := M1; clear M1
 refine qG [3] S ?_; clear S a; intro a S
 refine qS (sz := 1) (us := [_]) S M 2 ?_; clear M; intro w14 M
 replace S := S.keep [0, 1, 4, 5, 6, 7, 18, 8, 9, 10]
 refine nxA (qG [1] S ?_); clear S a; intro a S
 refine st_callB (xs := [.const (.int .i64 3)]) (fi := []) (ca := [_, _]) S (enters_of Tryz.func82 (by decide) rfl) rfl rfl (rfl) rfl (take9_any 13 3 M (hbs _ _) (by omega) (by omega) (by omega)) ?_
 rintro _ w15 ⟨rfl, M1⟩; refine ⟨_, rfl, ?_⟩; clear S M a; intro a S; have M := M1; clear M1
 refine qG [4] S ?_; clear S a; intro a S
 refine qS (sz := 1) (us := [_]) S M 2 ?_; clear M; intro w16 M
 refine nxA (qG [1] S ?_); clear S a; intro a S
 refine st_callB (xs := [.const (.int .i64 3)]) (fi := []) (ca := [_, _]) S (enters_of Tryz.func82 (by decide) rfl) rfl rfl (rfl) rfl (take9_any 16 3 M (hbs _ _) (by omega) (by omega) (by omega)) ?_
 rintro _ w17 ⟨rfl, M1⟩; refine ⟨_, rfl, ?_⟩; clear S M a; intro a S; have M := M1; clear M1
 refine qG [5] S ?_; clear S a; intro a S
 refine qS (sz := 1) (us := [_]) S M 2 ?_; clear M; intro w18 M
 refine nxC (wp_seq (nxD (qG [1] S ?_))); clear S a; intro a S
 refine nxC (wp_block (wp_loop_g (fun m a w' => ∃ i : Nat, i ≤ 8 ∧ m = 8 - i ∧ Sees 57 a [(1, .int .i64 (k : Int)), (4, .pointer (some ⟨bZ, 0, none⟩)), (9, .func (.func 82) #[] #[.pointer (some ⟨bV, 0, none⟩), .pointer (some ⟨bA, 0, none⟩)]), (10, .pointer (some ⟨bX, 0, none⟩)), (36, .int .i64 (i : Int))] ∧ Mem w w' [.blk bA #[.int .i64 ((19 + i : Nat) : Int)] 3, .blk bV #[v2] 58, .blk bX (suPre b9 i).cellsL.toArray 72, rowE lo hi 5 1 v2 b9.length (bcells b9), .blk bZ zSu.cellsL.toArray 72]) (8) ?_ ?_))
 ·skip
  exact ⟨0, by omega, rfl, S.sub _ rfl, M⟩
 clear S M a; intro m a wl
 rintro ⟨i, hi8, rfl, S, M⟩
 refine nxD (qG [1] S ?_); clear S a; intro a S
 refine nxC (wp_seq (st_if (t := 37) S rfl ?_ ?_))
 ·clear S; intro h37 S
  refine st_condT S rfl (wp_skip (then_normal (wp_seq (wp_block (nxD (qG [1, 1] S ?_)))))); clear S a; intro a S
  refine nxB (qG [1, 1] S ?_); clear S a; intro a S
  refine st_callB (xs := [.const (.int .i64 1)]) (fi := []) (ca := [_, _]) S (enters_of Tryz.func82 (by decide) rfl) rfl rfl (rfl) rfl (take9_any (19 + i) 1 M (hbs _ _) (by omega) (by omega) (by omega)) ?_
  rintro _ w19 ⟨rfl, M1⟩; refine ⟨_, rfl, ?_⟩; clear S M a; intro a S; have M := M1; clear M1
  refine qG [6] S ?_; clear S a; intro a S
  refine qY S (y_indexA (m := 8) (sz := 1) S (by kernel_rfl) rfl rfl (by first | omega | (simp; done) | (simp; omega))) ?_; clear S a; intro a S
  try simp only [Int.toNat_natCast, Nat.mul_one, Nat.zero_add] at S
  refine st_store (sz := 1) (us := [_]) S M 2 rfl (by kernel_rfl) rfl rfl rfl rfl rfl rfl (by first | decide | (simp; done) | (simp; omega)) ?_; clear M; intro w20 M
  simp only [List.set_cons_zero, List.set_cons_succ] at M
  refine wpList_nil (block_normal (nxF ?_))
  (first | refine qY S (y_addN S rfl rfl (by omega)) ?_ | refine qY S (y_int S rfl rfl rfl) ?_); clear S a; intro a S
  refine qG [1] S ?_; clear S a; intro a S
  refine nxC ?_
  refine ⟨8 - (i + 1), by omega, i + 1, by omega, rfl, S.sub _ rfl, ?_⟩
  rw [Su.mSet_cell _ _ (show i < 8 by omega), suPre_next _ (show i < 8 by omega)] at M
  exact M
 clear S; intro h37 S
 refine st_condF S rfl (wp_exit (then_exit (then_exit (block_hit (then_normal (wp_seq (wp_seq ?_)))))))
 obtain rfl : i = 8 := by omega
 obtain ⟨s8, hs8⟩ : ∃ s, s = suOf b9 := ⟨_, rfl⟩
 have hnn : 0 ≤ s8.gen := by rw [hs8]; exact suOf_nn _
 rw [suPre_all, ← hs8] at M
 refine wp_region_lit (qY S (y_loadAgg (cs := [_, _, _, _, _, _, _, _, _, _, _, _, _]) S (by kernel_rfl) rfl rfl (M.cellsAt (k := 13) 2 rfl rfl)) ?_); clear S a; intro a S
 refine qQ (xs := [.tmp 45]) S (qE Tryz.func74) rfl (mayH_any s8 _) M ?_; clear S M a; intro a w21 S hK M
 refine qG [1, 1] S ?_; clear S a; intro a S
 refine st_if (t := 48) S rfl ?_ ?_
 ·clear S; intro h48 S
  refine qG [0, 0, 0, 0, 0, 1] S ?_; clear S a; intro a S
  refine nxC (st_condT S rfl (nxD (qY S (y_build (ps := []) (pl := [(0, 1), (1, 1), (2, 1), (3, 1), (4, 1), (5, 8)]) (z := [.int .i64 0, .int .i64 0, .int .i64 0, .int .i64 0, .int .i64 0, .int .i64 0, .int .i64 0, .int .i64 0, .int .i64 0, .int .i64 0, .int .i64 0, .int .i64 0, .int .i64 0]) (cs := [_, _, _, _, _, _, _, _, _, _, _, _, _]) S (by kernel_rfl) rfl (rfl)) ?_))); clear S a; intro a S
  refine qS (sz := 13) (us := [_, _, _, _, _, _, _, _, _, _, _, _, _]) S M 4 ?_; clear M; intro w22 M
  refine qG [1] S ?_; clear S a; intro a S
  refine nxC (wp_ret (then_ret (end_two S rfl (res_agg (cs := [_, _, _, _, _, _, _, _, _, _, _, _, _]) (by kernel_rfl) rfl rfl (M.cellsAt (k := 13) 4 rfl rfl)) (res_tmp rfl) ?_)))
  refine ⟨?_, M.below⟩
  rw [rdR_no (by rw [hb9, ← hs8]; rintro ⟨a1, a2⟩; first | omega | simp_all)]; rfl
 clear S; intro h48 S
 refine qR [1, 3] S M ?_; clear S a; intro a S
 (first | refine qY S (y_remN S rfl rfl (by omega)) ?_ | refine qY S (y_remZ S rfl rfl (by omega)) ?_); clear S a; intro a S
 refine qG [1, 1, 1] S ?_; clear S a; intro a S
 refine nxC (st_fi (t := 54) S rfl ?_ ?_)
 ·clear S; intro h54 S
  refine st_condF S rfl (wp_skip (nxE (qY S (y_loadAgg (cs := [_, _, _, _, _, _, _, _, _, _, _, _, _]) S (by kernel_rfl) rfl rfl (M.cellsAt (k := 13) 2 rfl rfl)) ?_))); clear S a; intro a S
  refine qS (sz := 13) (us := [_, _, _, _, _, _, _, _, _, _, _, _, _]) S M 4 ?_; clear M; intro w24 M
  refine qG [1] S ?_; clear S a; intro a S
  refine nxC (wp_ret (end_two S rfl (res_agg (cs := [_, _, _, _, _, _, _, _, _, _, _, _, _]) (by kernel_rfl) rfl rfl (M.cellsAt (k := 13) 4 rfl rfl)) (res_tmp rfl) ?_))
  refine ⟨?_, M.below⟩
  rw [rdR_yes hop (by rw [hb9, ← hs8]; simp_all) (by rw [hb9, ← hs8]; omega), hb9, ← hs8]
 clear S; intro h54 S
 refine st_condT S rfl (nxD (qY S (y_build (ps := []) (pl := [(0, 1), (1, 1), (2, 1), (3, 1), (4, 1), (5, 8)]) (z := [.int .i64 0, .int .i64 0, .int .i64 0, .int .i64 0, .int .i64 0, .int .i64 0, .int .i64 0, .int .i64 0, .int .i64 0, .int .i64 0, .int .i64 0, .int .i64 0, .int .i64 0]) (cs := [_, _, _, _, _, _, _, _, _, _, _, _, _]) S (by kernel_rfl) rfl (rfl)) ?_)); clear S a; intro a S
 refine qS (sz := 13) (us := [_, _, _, _, _, _, _, _, _, _, _, _, _]) S M 4 ?_; clear M; intro w23 M
 refine qG [1] S ?_; clear S a; intro a S
 refine nxC (wp_ret (then_ret (end_two S rfl (res_agg (cs := [_, _, _, _, _, _, _, _, _, _, _, _, _]) (by kernel_rfl) rfl rfl (M.cellsAt (k := 13) 4 rfl rfl)) (res_tmp rfl) ?_)))
 refine ⟨?_, M.below⟩
 rw [rdR_no (by rw [hb9, ← hs8]; rintro ⟨a1, a2⟩; first | omega | simp_all)]; rfl
theorem bestH_take {sec : Nat → List UInt8} {i : Nat} {x y : Su} {ok fd : Bool} (hx : rdR (sec i) i = (x, ok)) (hok : ok = true) (hf : fd = (bestN sec i).isSome) (hy : y = (bestN sec i).getD zSu) (h : fd = false ∨ y.gen < x.gen) : bestN sec (i + 1) = some x := by
 subst hok hf hy
 unfold rdR at hx
 rw [bestN]
 cases hs : supP (sec i) i with
 | none => rw [hs] at hx; cases hx
 | some z =>
   rw [hs] at hx
   obtain rfl : z = x := congrArg Prod.fst hx
   cases hb : bestN sec i with
   | none => rfl
   | some u =>
     rw [hb] at h
     rcases h with h | h
     ·cases h
     ·exact if_pos h
theorem bestH_keep {sec : Nat → List UInt8} {i : Nat} {x y : Su} {ok fd : Bool} (hx : rdR (sec i) i = (x, ok)) (hf : fd = (bestN sec i).isSome) (hy : y = (bestN sec i).getD zSu) (h : ok = false ∨ (fd = true ∧ ¬ y.gen < x.gen)) : bestN sec (i + 1) = bestN sec i := by
 subst hf hy
 unfold rdR at hx
 rw [bestN]
 cases hs : supP (sec i) i with
 | none => rfl
 | some z =>
   rw [hs] at hx
   obtain rfl : z = x := congrArg Prod.fst hx
   obtain rfl : true = ok := congrArg Prod.snd hx
   cases hb : bestN sec i with
   | none => rw [hb] at h; rcases h with h | ⟨h, -⟩ <;> cases h
   | some u =>
     rw [hb] at h
     rcases h with h | ⟨-, h⟩
     ·cases h
     ·exact if_neg h
theorem bestH_zero {sec : Nat → List UInt8} {i : Nat} (h : zerosB (sec i) = true) (hl : (sec i).length = 64) : bestN sec (i + 1) = bestN sec i := by
 rw [bestN, supP_zero h hl]
def empN (sec : Nat → List UInt8) : Nat → Nat
 | 0 => 0
 | n + 1 => empN sec n + if zerosB (sec n) = true then 1 else 0
theorem empN_le (sec : Nat → List UInt8) : ∀ n, empN sec n ≤ n
 | 0 => Nat.le_refl _
 | n + 1 => by have := empN_le sec n; unfold empN; split <;> omega
theorem empN_yes {sec : Nat → List UInt8} {n : Nat} (h : zerosB (sec n) = true) : empN sec (n + 1) = empN sec n + 1 := by rw [empN, if_pos h]
theorem empN_no {sec : Nat → List UInt8} {n : Nat} (h : zerosB (sec n) = false) : empN sec (n + 1) = empN sec n := by rw [empN, if_neg (by rw [h]; decide)]; rfl
theorem gsH_ok {sec : Nat → List UInt8} {y : Su} (h : (bestN sec 2).isSome = true) (hy : y = (bestN sec 2).getD zSu) : gsR sec = (y, 0) := by
 unfold gsR
 cases hb : bestN sec 2 with
 | none => rw [hb] at h; cases h
 | some x => rw [hb] at hy; rw [hy]; rfl
theorem gsH_first {sec : Nat → List UInt8} (h : (bestN sec 2).isSome = false) (he : empN sec 2 = 2) : gsR sec = (suFirst, 0) := by
 unfold gsR
 cases hb : bestN sec 2 with
 | some x => rw [hb] at h; cases h
 | none =>
   rw [empN, empN, empN] at he
   cases h0 : zerosB (sec 0) <;> cases h1 : zerosB (sec 1) <;> rw [h0, h1] at he <;> first | rfl | (simp at he; done)
theorem gsH_err {sec : Nat → List UInt8} (h : (bestN sec 2).isSome = false) (he : empN sec 2 ≠ 2) : gsR sec = (zSu, 40) := by
 unfold gsR
 cases hb : bestN sec 2 with
 | some x => rw [hb] at h; cases h
 | none =>
   rw [empN, empN, empN] at he
   cases h0 : zerosB (sec 0) <;> cases h1 : zerosB (sec 1) <;> rw [h0, h1] at he <;> first | rfl | (simp at he; done)
def secD (S0 : DS) (i : Nat) : List UInt8 := S0.get i
theorem getH_any {wc w : World} {A E : List Ent} {b : Nat} {S0 : DS} (hE : DkE b S0 E) (M : Mem wc w (A ++ E)) (hup : S0.down = false) (hw : ∀ k, (S0.cache k).length ≤ 1000000) :
 Calls Tryz.prog 33 #[.pointer (some ⟨b, 0, none⟩)] w fun e w' => e = .returned (.tuple #[.agg (gsR (secD S0)).1.cellsL.toArray, .int .i64 (gsR (secD S0)).2]) ∧ Mem wc w' (A ++ E) := by
 refine calls_enter Tryz.func33 rfl 58 rfl rfl ?_; intro a S
 refine nxD (st_alloc S M rfl rfl #[.int .i64 0, .int .i64 0, .int .i64 0, .int .i64 0, .int .i64 0, .int .i64 0, .int .i64 0, .int .i64 0, .int .i64 0, .int .i64 0, .int .i64 0, .int .i64 0, .int .i64 0] (by kernel_rfl) ?_); clear S M a; intro a w1 bZ S M hB
 refine qG [1] S ?_; clear S a; intro a S
 refine nxC (wp_seq (nxD (qG [1] S ?_))); clear S a; intro a S
 refine qY S (y_eqlPS (by kernel_rfl) S rfl) ?_; clear S a; intro a S
 refine nxC (st_condF S rfl (wp_skip (nxE (qG [1] S ?_)))); clear S a; intro a S
 refine nxA (st_alloc S M rfl rfl #[.int .i64 0, .int .i64 0, .int .i64 0, .int .i64 0, .int .i64 0, .int .i64 0, .int .i64 0, .int .i64 0, .int .i64 0, .int .i64 0, .int .i64 0, .int .i64 0, .int .i64 0] (by kernel_rfl) ?_); clear S M a; intro a w2 bB S M hB
 refine nxA (qG [1, 1] S ?_); clear S a; intro a S
 refine nxC (wp_seq (nxD (qG [1] S ?_))); clear S a; intro a S
 refine nxC (wp_block (wp_loop_g (fun m a w' => ∃ (i : Nat) (y : Su) (fd : Bool), i ≤ 2 ∧ m = 2 - i ∧ fd = (bestN (secD S0) i).isSome ∧ y = (bestN (secD S0) i).getD zSu ∧ Sees 58 a [(0, .pointer (some ⟨b, 0, none⟩)), (2, .pointer (some ⟨bZ, 0, none⟩)), (4, .func (.func 48) #[] #[]), (5, .pointer (some ⟨bB, 0, none⟩)), (6, .bool fd), (7, .int .i64 (empN (secD S0) i : Nat)), (16, .int .i64 (i : Int))] ∧ Mem wc w' (.blk bB y.cellsL.toArray 72 :: .blk bZ zSu.cellsL.toArray 72 :: (A ++ E))) (2) ?_ ?_))
 ·skip
  exact ⟨0, zSu, false, by omega, rfl, rfl, rfl, S.sub _ rfl, M⟩
 clear S M a; intro m a wl
 rintro ⟨i, y, fd, hi, rfl, hfd, hy, S, M⟩
 have hem := empN_le (secD S0) i
 refine nxD (qG [1] S ?_); clear S a; intro a S
 refine nxC (wp_seq (st_fi (t := 17) S rfl ?_ ?_))
 ·clear S; intro h17 S
  refine st_condF S rfl (wp_exit (then_exit (then_exit (block_hit (then_normal (wp_seq (nxD (qG [1] S ?_)))))))); clear S a; intro a S
  refine nxC (st_if (t := 52) S rfl ?_ ?_)
  ·clear S; intro h52 S
   refine st_condT S rfl (nxD (qY S (y_loadAgg (cs := [_, _, _, _, _, _, _, _, _, _, _, _, _]) S (by kernel_rfl) rfl rfl (M.cellsAt (k := 13) 0 rfl rfl)) ?_)); clear S a; intro a S
   refine qS (sz := 13) (us := [_, _, _, _, _, _, _, _, _, _, _, _, _]) S M 1 ?_; clear M; intro w11 M
   refine qG [1] S ?_; clear S a; intro a S
   refine nxC (wp_ret (then_ret (end_two S rfl (res_agg (cs := [_, _, _, _, _, _, _, _, _, _, _, _, _]) (by kernel_rfl) rfl rfl (M.cellsAt (k := 13) 1 rfl rfl)) (res_tmp rfl) ?_)))
   obtain rfl : i = 2 := by omega
   refine ⟨?_, M.sub (.cons _ (.cons _ (List.Sublist.refl _)))⟩
   first
    | (rw [gsH_ok (sec := secD S0) (by rw [← hfd]; assumption) hy]; first | done | rfl)
    | (rw [gsH_first (sec := secD S0) (by rw [← hfd]; first | assumption | simp_all) (by omega)]; first | done | rfl)
    | (rw [gsH_err (sec := secD S0) (by rw [← hfd]; first | assumption | simp_all) (by omega)]; first | done | rfl)
  clear S; intro h52 S
  refine st_condF S rfl (wp_skip (then_normal (wp_seq (nxD (qG [1, 1] S ?_))))); clear S a; intro a S
  refine nxC (st_if (t := 55) S rfl ?_ ?_)
  ·clear S; intro h55 S
   refine st_condT S rfl (nxD (qQ (xs := []) S (qE Tryz.func37) rfl (firstH_any _) M ?_)); clear S M a; intro a w12 S hK M
   refine qS (sz := 13) (us := [_, _, _, _, _, _, _, _, _, _, _, _, _]) S M 1 ?_; clear M; intro w13 M
   refine qG [1] S ?_; clear S a; intro a S
   refine nxC (wp_ret (then_ret (end_two S rfl (res_agg (cs := [_, _, _, _, _, _, _, _, _, _, _, _, _]) (by kernel_rfl) rfl rfl (M.cellsAt (k := 13) 1 rfl rfl)) (res_tmp rfl) ?_)))
   obtain rfl : i = 2 := by omega
   refine ⟨?_, M.sub (.cons _ (.cons _ (List.Sublist.refl _)))⟩
   first
    | (rw [gsH_ok (sec := secD S0) (by rw [← hfd]; assumption) hy]; first | done | rfl)
    | (rw [gsH_first (sec := secD S0) (by rw [← hfd]; first | assumption | simp_all) (by omega)]; first | done | rfl)
    | (rw [gsH_err (sec := secD S0) (by rw [← hfd]; first | assumption | simp_all) (by omega)]; first | done | rfl)
  clear S; intro h55 S
  refine st_condF S rfl (wp_skip (nxE (qY S (y_build (ps := []) (pl := [(0, 1), (1, 1), (2, 1), (3, 1), (4, 1), (5, 8)]) (z := [.int .i64 0, .int .i64 0, .int .i64 0, .int .i64 0, .int .i64 0, .int .i64 0, .int .i64 0, .int .i64 0, .int .i64 0, .int .i64 0, .int .i64 0, .int .i64 0, .int .i64 0]) (cs := [_, _, _, _, _, _, _, _, _, _, _, _, _]) S (by kernel_rfl) rfl (rfl)) ?_))); clear S a; intro a S
  refine qS (sz := 13) (us := [_, _, _, _, _, _, _, _, _, _, _, _, _]) S M 1 ?_; clear M; intro w14 M
  refine qG [1] S ?_; clear S a; intro a S
  refine nxC (wp_ret (end_two S rfl (res_agg (cs := [_, _, _, _, _, _, _, _, _, _, _, _, _]) (by kernel_rfl) rfl rfl (M.cellsAt (k := 13) 1 rfl rfl)) (res_tmp rfl) ?_))
  obtain rfl : i = 2 := by omega
  refine ⟨?_, M.sub (.cons _ (.cons _ (List.Sublist.refl _)))⟩
  first
   | (rw [gsH_ok (sec := secD S0) (by rw [← hfd]; assumption) hy]; first | done | rfl)
   | (rw [gsH_first (sec := secD S0) (by rw [← hfd]; first | assumption | simp_all) (by omega)]; first | done | rfl)
   | (rw [gsH_err (sec := secD S0) (by rw [← hfd]; first | assumption | simp_all) (by omega)]; first | done | rfl)
 clear S; intro h17 S
 refine st_condT S rfl (wp_skip (then_normal (wp_seq (wp_block (nxD (qG [1, 1] S ?_)))))); clear S a; intro a S
 refine nxA (qG [1, 1] S ?_); clear S a; intro a S
 refine qC (xs := [.tmp 20, .tmp 21]) S (qE Tryz.func49) rfl (dread_any (A := _ :: _ :: A) (k := i) hE M hup (by omega) (hw _)) ?_
 rintro _ w3 ⟨v1, rfl, hF, hq64⟩; refine ⟨_, rfl, ?_⟩; clear S a; intro a S
 obtain ⟨lo, hi2, -, M1⟩ := M.pushFresh hF
 obtain ⟨q, hqb⟩ : ∃ q, S0.get i = q := ⟨_, rfl⟩
 have hqx : secD S0 i = q := hqb
 rw [hqb] at M1 hq64
 clear M hF
 have M := M1
 clear M1
 refine qG [1, 1, 1, 1, 1] S ?_; clear S a; intro a S
 refine nxC (wp_seq (nxD (qG [1, 1] S ?_))); clear S a; intro a S
 refine nxC (st_if (t := 26) S rfl ?_ ?_)
 ·clear S; intro h26 S
  exact absurd rfl h26
 clear S; intro h26 S
 refine st_condF S rfl (wp_skip (then_normal (wp_seq (nxD (qG [1] S ?_))))); clear S a; intro a S
 refine qQ (xs := [.tmp 29]) S (qE Tryz.func50) rfl (zerosH_any v1 q _ (M.readAll 0 rfl (by unfold maxLen; omega))) M ?_; clear S M a; intro a w4 S hK M
 refine nxC (st_if (t := 30) S rfl ?_ ?_)
 ·clear S; intro h30 S
  refine st_condT S rfl (nxD (qG [1] S ?_)); clear S a; intro a S
  (first | refine qY S (y_addN S rfl rfl (by omega)) ?_ | refine qY S (y_int S rfl rfl rfl) ?_); clear S a; intro a S
  refine qG [1] S ?_; clear S a; intro a S
  refine nxC (wp_exit (then_exit (block_hit (nxF ?_))))
  (first | refine qY S (y_addN S rfl rfl (by omega)) ?_ | refine qY S (y_int S rfl rfl rfl) ?_); clear S a; intro a S
  refine qG [1] S ?_; clear S a; intro a S
  replace S := S.keep [0, 2, 4, 5, 6, 17, 8, 9, 10, 26, 30, 7, 16]
  refine nxC ?_
  first
   | (have hz : zerosB (secD S0 i) = true := by rw [hqx]; assumption
      have hk := bestH_zero hz (by rw [hqx]; exact hq64)
      have e7 : ((empN (secD S0) (i + 1) : Nat) : Int) = (empN (secD S0) i : Int) + 1 := by rw [empN_yes hz]; rfl
      exact ⟨2 - (i + 1), by omega, i + 1, y, fd, by omega, rfl, by rw [hk]; exact hfd, by rw [hk]; exact hy, by rw [e7]; exact S.sub _ rfl, M.sub (by first | exact .cons _ (List.Sublist.refl _) | exact (List.Sublist.refl _))⟩)
   | (have hz : zerosB (secD S0 i) = false := by rw [hqx]; first | assumption | simp_all
      have e7 := empN_no hz
      have hk := bestH_take hx (by assumption) hfd hy (by first | (left; assumption) | (left; simp_all; done) | (right; omega))
      exact ⟨2 - (i + 1), by omega, i + 1, x, true, by omega, rfl, by rw [hk]; rfl, by rw [hk]; rfl, by rw [e7]; exact S.sub _ rfl, (M.drop 0).drop 0⟩)
   | (have hz : zerosB (secD S0 i) = false := by rw [hqx]; first | assumption | simp_all
      have e7 := empN_no hz
      have hk := bestH_keep hx hfd hy (by first | (left; simp_all; done) | (right; exact ⟨by simp_all, by omega⟩))
      exact ⟨2 - (i + 1), by omega, i + 1, y, fd, by omega, rfl, by rw [hk]; exact hfd, by rw [hk]; exact hy, by rw [e7]; exact S.sub _ rfl, (M.drop 0).drop 0⟩)
 clear S; intro h30 S
 refine st_condF S rfl (wp_skip (nxE (qG [1, 1] S ?_))); clear S a; intro a S
 refine qQ (xs := [.tmp 34, .tmp 35]) S (qE Tryz.func51) rfl (readH_any v1 q i _ (M.readAll 0 rfl (by unfold maxLen; omega)) hq64) M ?_; clear S M a; intro a w5 S hK M
 obtain ⟨x, ok, hx⟩ : ∃ x ok, rdR q i = (x, ok) := ⟨_, _, rfl⟩
 rw [hx] at S
 rw [← hqx] at hx
 refine qG [1, 1, 1] S ?_; clear S a; intro a S
 refine st_alloc S M rfl rfl #[.int .i64 0, .int .i64 0, .int .i64 0, .int .i64 0, .int .i64 0, .int .i64 0, .int .i64 0, .int .i64 0, .int .i64 0, .int .i64 0, .int .i64 0, .int .i64 0, .int .i64 0] (by kernel_rfl) ?_; clear S M a; intro a w6 bX S M hB
 refine qS (sz := 13) (us := [_, _, _, _, _, _, _, _, _, _, _, _, _]) S M 0 ?_; clear M; intro w7 M
 refine qG [1] S ?_; clear S a; intro a S
 replace S := S.keep [0, 2, 4, 5, 6, 7, 16, 17, 8, 9, 10, 26, 30, 11, 12]
 refine nxA (qG [1, 1] S ?_); clear S a; intro a S
 refine st_fi (t := 40) S rfl ?_ ?_
 ·clear S; intro h40 S
  refine qG [0, 0, 0, 0, 0, 0, 0, 0, 1] S ?_; clear S a; intro a S
  refine nxC (st_condF S rfl (wp_skip (block_normal (nxF ?_))))
  (first | refine qY S (y_addN S rfl rfl (by omega)) ?_ | refine qY S (y_int S rfl rfl rfl) ?_); clear S a; intro a S
  refine qG [1] S ?_; clear S a; intro a S
  refine nxC ?_
  first
   | (have hz : zerosB (secD S0 i) = true := by rw [hqx]; assumption
      have hk := bestH_zero hz (by rw [hqx]; exact hq64)
      have e7 : ((empN (secD S0) (i + 1) : Nat) : Int) = (empN (secD S0) i : Int) + 1 := by rw [empN_yes hz]; rfl
      exact ⟨2 - (i + 1), by omega, i + 1, y, fd, by omega, rfl, by rw [hk]; exact hfd, by rw [hk]; exact hy, by rw [e7]; exact S.sub _ rfl, M.sub (by first | exact .cons _ (List.Sublist.refl _) | exact (List.Sublist.refl _))⟩)
   | (have hz : zerosB (secD S0 i) = false := by rw [hqx]; first | assumption | simp_all
      have e7 := empN_no hz
      have hk := bestH_take hx (by assumption) hfd hy (by first | (left; assumption) | (left; simp_all; done) | (right; omega))
      exact ⟨2 - (i + 1), by omega, i + 1, x, true, by omega, rfl, by rw [hk]; rfl, by rw [hk]; rfl, by rw [e7]; exact S.sub _ rfl, (M.drop 0).drop 0⟩)
   | (have hz : zerosB (secD S0 i) = false := by rw [hqx]; first | assumption | simp_all
      have e7 := empN_no hz
      have hk := bestH_keep hx hfd hy (by first | (left; simp_all; done) | (right; exact ⟨by simp_all, by omega⟩))
      exact ⟨2 - (i + 1), by omega, i + 1, y, fd, by omega, rfl, by rw [hk]; exact hfd, by rw [hk]; exact hy, by rw [e7]; exact S.sub _ rfl, (M.drop 0).drop 0⟩)
 clear S; intro h40 S
 refine qG [1, 1, 1] S ?_; clear S a; intro a S
 refine st_if (t := 43) S rfl ?_ ?_
 ·clear S; intro h43 S
  refine qG [0, 0, 0, 0, 1, 1] S ?_; clear S a; intro a S
  refine nxC (st_condT S rfl (wp_region_lit (qY S (y_loadAgg (cs := [_, _, _, _, _, _, _, _, _, _, _, _, _]) S (by kernel_rfl) rfl rfl (M.cellsAt (k := 13) 0 rfl rfl)) ?_))); clear S a; intro a S
  refine qS (sz := 13) (us := [_, _, _, _, _, _, _, _, _, _, _, _, _]) S M 2 ?_; clear M; intro w8 M
  refine qG [1] S ?_; clear S a; intro a S
  refine wpList_nil (block_normal (nxF ?_))
  (first | refine qY S (y_addN S rfl rfl (by omega)) ?_ | refine qY S (y_int S rfl rfl rfl) ?_); clear S a; intro a S
  refine qG [1] S ?_; clear S a; intro a S
  replace S := S.keep [0, 2, 4, 5, 7, 17, 8, 9, 10, 26, 30, 11, 12, 49, 6, 16]
  refine nxC ?_
  first
   | (have hz : zerosB (secD S0 i) = true := by rw [hqx]; assumption
      have hk := bestH_zero hz (by rw [hqx]; exact hq64)
      have e7 : ((empN (secD S0) (i + 1) : Nat) : Int) = (empN (secD S0) i : Int) + 1 := by rw [empN_yes hz]; rfl
      exact ⟨2 - (i + 1), by omega, i + 1, y, fd, by omega, rfl, by rw [hk]; exact hfd, by rw [hk]; exact hy, by rw [e7]; exact S.sub _ rfl, M.sub (by first | exact .cons _ (List.Sublist.refl _) | exact (List.Sublist.refl _))⟩)
   | (have hz : zerosB (secD S0 i) = false := by rw [hqx]; first | assumption | simp_all
      have e7 := empN_no hz
      have hk := bestH_take hx (by assumption) hfd hy (by first | (left; assumption) | (left; simp_all; done) | (right; omega))
      exact ⟨2 - (i + 1), by omega, i + 1, x, true, by omega, rfl, by rw [hk]; rfl, by rw [hk]; rfl, by rw [e7]; exact S.sub _ rfl, (M.drop 0).drop 0⟩)
   | (have hz : zerosB (secD S0 i) = false := by rw [hqx]; first | assumption | simp_all
      have e7 := empN_no hz
      have hk := bestH_keep hx hfd hy (by first | (left; simp_all; done) | (right; exact ⟨by simp_all, by omega⟩))
      exact ⟨2 - (i + 1), by omega, i + 1, y, fd, by omega, rfl, by rw [hk]; exact hfd, by rw [hk]; exact hy, by rw [e7]; exact S.sub _ rfl, (M.drop 0).drop 0⟩)
 clear S; intro h43 S
 refine qG [1] S ?_; clear S a; intro a S
 refine qY S (y_loadAgg (cs := [_, _, _, _, _, _, _, _, _, _, _, _, _]) S (by kernel_rfl) rfl rfl (M.cellsAt (k := 13) 0 rfl rfl)) ?_; clear S a; intro a S
 refine qY S (y_loadAgg (cs := [_, _, _, _, _, _, _, _, _, _, _, _, _]) S (by kernel_rfl) rfl rfl (M.cellsAt (k := 13) 2 rfl rfl)) ?_; clear S a; intro a S
 refine st_callV (xs := [.tmp 45, .tmp 46]) S (enters_of Tryz.func48 (by decide) rfl) rfl rfl rfl rfl (greater_any x y _) ?_
 rintro _ w9 ⟨rfl, hK⟩; refine ⟨_, rfl, ?_⟩; clear S a; intro a S; replace M := M.grow hK
 refine qG [1, 1] S ?_; clear S a; intro a S
 refine nxC (st_fi (t := 49) S rfl ?_ ?_)
 ·clear S; intro h49 S
  refine st_condF S rfl (wp_skip (block_normal (nxF ?_)))
  (first | refine qY S (y_addN S rfl rfl (by omega)) ?_ | refine qY S (y_int S rfl rfl rfl) ?_); clear S a; intro a S
  refine qG [1] S ?_; clear S a; intro a S
  refine nxC ?_
  first
   | (have hz : zerosB (secD S0 i) = true := by rw [hqx]; assumption
      have hk := bestH_zero hz (by rw [hqx]; exact hq64)
      have e7 : ((empN (secD S0) (i + 1) : Nat) : Int) = (empN (secD S0) i : Int) + 1 := by rw [empN_yes hz]; rfl
      exact ⟨2 - (i + 1), by omega, i + 1, y, fd, by omega, rfl, by rw [hk]; exact hfd, by rw [hk]; exact hy, by rw [e7]; exact S.sub _ rfl, M.sub (by first | exact .cons _ (List.Sublist.refl _) | exact (List.Sublist.refl _))⟩)
   | (have hz : zerosB (secD S0 i) = false := by rw [hqx]; first | assumption | simp_all
      have e7 := empN_no hz
      have hk := bestH_take hx (by assumption) hfd hy (by first | (left; assumption) | (left; simp_all; done) | (right; omega))
      exact ⟨2 - (i + 1), by omega, i + 1, x, true, by omega, rfl, by rw [hk]; rfl, by rw [hk]; rfl, by rw [e7]; exact S.sub _ rfl, (M.drop 0).drop 0⟩)
   | (have hz : zerosB (secD S0 i) = false := by rw [hqx]; first | assumption | simp_all
      have e7 := empN_no hz
      have hk := bestH_keep hx hfd hy (by first | (left; simp_all; done) | (right; exact ⟨by simp_all, by omega⟩))
      exact ⟨2 - (i + 1), by omega, i + 1, y, fd, by omega, rfl, by rw [hk]; exact hfd, by rw [hk]; exact hy, by rw [e7]; exact S.sub _ rfl, (M.drop 0).drop 0⟩)
 clear S; intro h49 S
 refine st_condT S rfl (wp_region_lit (qY S (y_loadAgg (cs := [_, _, _, _, _, _, _, _, _, _, _, _, _]) S (by kernel_rfl) rfl rfl (M.cellsAt (k := 13) 0 rfl rfl)) ?_)); clear S a; intro a S
 refine qS (sz := 13) (us := [_, _, _, _, _, _, _, _, _, _, _, _, _]) S M 2 ?_; clear M; intro w10 M
 refine qG [1] S ?_; clear S a; intro a S
 refine wpList_nil (block_normal (nxF ?_))
 (first | refine qY S (y_addN S rfl rfl (by omega)) ?_ | refine qY S (y_int S rfl rfl rfl) ?_); clear S a; intro a S
 refine qG [1] S ?_; clear S a; intro a S
 replace S := S.keep [0, 2, 4, 5, 7, 17, 8, 9, 10, 26, 30, 11, 12, 49, 6, 16]
 refine nxC ?_
 first
  | (have hz : zerosB (secD S0 i) = true := by rw [hqx]; assumption
     have hk := bestH_zero hz (by rw [hqx]; exact hq64)
     have e7 : ((empN (secD S0) (i + 1) : Nat) : Int) = (empN (secD S0) i : Int) + 1 := by rw [empN_yes hz]; rfl
     exact ⟨2 - (i + 1), by omega, i + 1, y, fd, by omega, rfl, by rw [hk]; exact hfd, by rw [hk]; exact hy, by rw [e7]; exact S.sub _ rfl, M.sub (by first | exact .cons _ (List.Sublist.refl _) | exact (List.Sublist.refl _))⟩)
  | (have hz : zerosB (secD S0 i) = false := by rw [hqx]; first | assumption | simp_all
     have e7 := empN_no hz
     have hk := bestH_take hx (by assumption) hfd hy (by first | (left; assumption) | (left; simp_all; done) | (right; omega))
     exact ⟨2 - (i + 1), by omega, i + 1, x, true, by omega, rfl, by rw [hk]; rfl, by rw [hk]; rfl, by rw [e7]; exact S.sub _ rfl, (M.drop 0).drop 0⟩)
  | (have hz : zerosB (secD S0 i) = false := by rw [hqx]; first | assumption | simp_all
     have e7 := empN_no hz
     have hk := bestH_keep hx hfd hy (by first | (left; simp_all; done) | (right; exact ⟨by simp_all, by omega⟩))
     exact ⟨2 - (i + 1), by omega, i + 1, y, fd, by omega, rfl, by rw [hk]; exact hfd, by rw [hk]; exact hy, by rw [e7]; exact S.sub _ rfl, (M.drop 0).drop 0⟩)
end Go.Proofs.YtmdededhoibofaaGreat

namespace Go.Proofs.YtmdededhoibofaaGreat
open Go.RowKit Go.Sort
structure Disk0 (S : DS) (su : Su) (L : List RI) (c : Nat) (K : Int) (x : Nat) : Prop where
 up : S.down = false
 quiet : ∀ k, ¬ (2 ≤ k ∧ k < 26) → S.cache k = []
 sup : SupI (secD S) su
 ph : Phys S su.tail L c su.inc K x
theorem Disk0.one {S : DS} {su : Su} {L : List RI} {c : Nat} {K : Int} {x : Nat} (h : Disk0 S su L c K x) (k : Int) : (S.cache k).length ≤ 1 := by
 by_cases hk : 2 ≤ k ∧ k < 26
 ·obtain ⟨j, hj, e⟩ : ∃ j : Nat, j < 24 ∧ 2 + (su.tail + (j : Int)) % 24 = k := ⟨((k - 2 - su.tail) % 24).toNat, by omega, by omega⟩
  have e2 : S.cache k = cacS S su.tail j := by unfold cacS; rw [e]
  rw [e2]
  rcases Nat.lt_or_ge j L.length with h1 | h1
  ·obtain ⟨p, hp⟩ : ∃ p, L[j]? = some p := ⟨_, List.getElem?_eq_getElem h1⟩
   rcases Nat.lt_or_ge j c with h2 | h2
   ·rw [(h.ph.old j p h2 hp).2]; exact Nat.zero_le _
   ·rw [(h.ph.new j p h2 hp).1]; exact Nat.le_refl _
  ·rw [(h.ph.rest j h1 hj).1]; exact Nat.zero_le _
 ·rw [h.quiet k hk]; exact Nat.zero_le _
theorem Disk0.cac {S : DS} {su : Su} {L : List RI} {K : Int} {x : Nat} (h : Disk0 S su L L.length K x) {j : Nat} (hj : j < 24) : cacS S su.tail j = [] := by
 rcases Nat.lt_or_ge j L.length with h1 | h1
 ·obtain ⟨p, hp⟩ : ∃ p, L[j]? = some p := ⟨_, List.getElem?_eq_getElem h1⟩
  exact (h.ph.old j p h1 hp).2
 ·exact (h.ph.rest j h1 hj).1
theorem Disk0.more {S : DS} {su : Su} {L : List RI} {c : Nat} {K : Int} {x x2 : Nat} (h : Disk0 S su L c K x) (hx : x ≤ x2) (hl : L.length + x2 ≤ 24) : Disk0 S su L c K x2 := ⟨h.up, h.quiet, h.sup, h.ph.more hx hl (Int.le_refl _)⟩
theorem SupI.congr {sec sec2 : Nat → List UInt8} {s : Su} (h : SupI sec s) (he : ∀ k, k < 2 → sec2 k = sec k) : SupI sec2 s :=
 ⟨h.may, (he _ (by omega)).trans h.here, fun k x hk hne hx => h.there k x hk hne (by rw [← he k hk]; exact hx)⟩
theorem get_flush (S : DS) (k : Nat) : S.flush.get k = S.get k := rfl
theorem get_same {S S2 : DS} {k : Nat} (h1 : S2.cache (k : Int) = S.cache (k : Int)) (h2 : S2.dur k = S.dur k) : S2.get k = S.get k := by unfold DS.get; rw [h1, h2]
theorem Disk0.app {S : DS} {su : Su} {L : List RI} {c : Nat} {K : Int} {x : Nat} (h : Disk0 S su L c K x) {r : Rc} (hr : recOk r) {x2 : Nat} (hx : x ≤ x2 + 1) (hl : L.length + 1 + x2 ≤ 24) (hk : K ≤ su.inc) :
 Disk0 (putF S (cutF (encR r) (su.tail + (L.length : Int)) su.inc)) su (L ++ [(r, su.inc)]) c K x2 := by
 have e : putF S (cutF (encR r) (su.tail + (L.length : Int)) su.inc) = S.write (2 + (su.tail + (L.length : Int)) % 24) (secB (frR (su.tail + (L.length : Int)) (r, su.inc))) := by
  rw [cutF_rec hr]; unfold putF; rw [List.foldl_cons, List.foldl_nil, frR_seq]
 refine ⟨by rw [putF_down]; exact h.up, fun k hk2 => ?_, h.sup.congr fun k hk2 => ?_, h.ph.app hr hx hl hk⟩
 ·rw [e]
  unfold DS.write
  simp only
  rw [if_neg (by omega)]; exact h.quiet k hk2
 ·rw [e]
  refine get_same ?_ rfl
  unfold DS.write
  simp only
  rw [if_neg (by omega)]
theorem Disk0.flush {S : DS} {su : Su} {L : List RI} {c : Nat} {K : Int} {x : Nat} (h : Disk0 S su L c K x) (hk : c = L.length ∨ K ≤ su.inc) : Disk0 S.flush su L L.length K x :=
 ⟨h.up, fun _ _ => rfl, h.sup.congr fun _ _ => rfl, h.ph.flush hk⟩
theorem Disk0.super {S : DS} {su t : Su} {L : List RI} {K : Int} {x : Nat} (h : Disk0 S su L L.length K x) (ht : t.may) (hg : t.gen = su.gen + 1) :
 SupI (secD (S.write (t.gen % 2) (supS t)).flush) t ∧ Phys (S.write (t.gen % 2) (supS t)).flush su.tail L L.length su.inc K x := by
 have hcw : ∀ k : Int, (S.write (t.gen % 2) (supS t)).cache k = if k = t.gen % 2 then S.cache (t.gen % 2) ++ [supS t] else S.cache k := fun k => rfl
 have hg2 : ∀ k : Nat, (k : Int) ≠ t.gen % 2 → (S.write (t.gen % 2) (supS t)).flush.get k = S.get k := fun k hk => by
  rw [get_flush]
  refine get_same ?_ rfl
  rw [hcw, if_neg hk]
 refine ⟨h.sup.put ht hg ?_ fun k hk hne => hg2 k (by omega), h.ph.congr fun j hj => ⟨?_, ?_⟩⟩
 ·show (S.write (t.gen % 2) (supS t)).flush.get (t.gen % 2).toNat = supS t
  rw [get_flush]
  unfold DS.get
  rw [show (((t.gen % 2).toNat : Nat) : Int) = t.gen % 2 by omega, hcw, if_pos rfl]
  simp
 ·have e : durS (S.write (t.gen % 2) (supS t)).flush su.tail j = S.get (2 + (su.tail + (j : Int)) % 24).toNat := hg2 _ (by omega)
  have e2 : S.get (2 + (su.tail + (j : Int)) % 24).toNat = secAt S su.tail j := rfl
  rw [e, e2, secAt_eq, h.cac hj]; rfl
 ·rw [h.cac hj]; rfl
theorem Disk0.begin {S : DS} {su t : Su} {L : List RI} {K : Int} {x : Nat} (h : Disk0 S su L L.length K x) (ht : t.may) (hg : t.gen = su.gen + 1) (htl : t.tail = su.tail) (hi : su.inc ≤ t.inc) : Disk0 (S.write (t.gen % 2) (supS t)).flush t L L.length K x := by
 obtain ⟨a, b⟩ := h.super ht hg
 refine ⟨h.up, fun _ _ => rfl, a, ?_⟩
 rw [htl]
 exact b.begin ⟨hi, ht.2.2.2.2.2.2.2.2.1⟩
theorem Disk0.tail {S : DS} {su t : Su} {L X : List RI} {K : Int} (h : Disk0 S su (L ++ X) (L ++ X).length K 0) (ht : t.may) (hg : t.gen = su.gen + 1) (htl : t.tail = su.tail + (L.length : Int)) (h31 : t.tail ≤ 2147483648) (hi : t.inc = su.inc) (hX : X.length < 24) : Disk0 (S.write (t.gen % 2) (supS t)).flush t X X.length K 0 := by
 obtain ⟨a, b⟩ := h.super ht hg
 refine ⟨h.up, fun _ _ => rfl, a, ?_⟩
 rw [htl, hi]
 exact b.tail (by omega) hX
theorem Disk0.crash {S : DS} {su : Su} {L : List RI} {c : Nat} {K : Int} {x : Nat} (h : Disk0 S su L c K x) (hk : c = L.length ∨ K ≤ su.inc) (plan : List (Int × Int)) :
 ∃ m, c ≤ m ∧ m ≤ L.length ∧ Disk0 { S.crash plan with down := false } su (L.take m) m (max K (su.inc + 1)) (x + (L.length - m)) := by
 obtain ⟨m, h1, h2, h3⟩ := h.ph.crash hk plan (S2 := { S.crash plan with down := false }) (fun j => rfl) (fun k => rfl)
 refine ⟨m, h1, h2, rfl, fun _ _ => rfl, h.sup.congr fun k hk2 => ?_, h3⟩
 have e : secD { S.crash plan with down := false } k = durK S.dur (keptB S.cache plan []) k := rfl
 have hq := h.quiet (k : Int) (by omega)
 have e0 : secD S k = S.dur k := by unfold secD DS.get; rw [hq]; rfl
 rw [e, e0]
 rcases durK_at S.dur (keptB S.cache plan []) k with h4 | ⟨y, h4, h5, -⟩
 ·exact h4
 ·have := keptB_mem h4
  rw [h5, hq] at this; cases this
def savedSu (s : Ls) : Su := { s.cu with gen := s.su.gen + 1, tail := s.n, owned := s.su.owned, inc := s.su.inc }
def savedS (s : Ls) : Ls := ⟨savedSu s, s.cu, s.n + (s.op.length : Int), s.op.map clrR⟩
def roomS (s : Ls) (r : Rc) : Prop := 1 + ((s.take r).op.length : Int) ≤ 24 - (s.n - s.su.tail)
instance (s : Ls) (r : Rc) : Decidable (roomS s r) := by unfold roomS; infer_instance
def madeS (s : Ls) (r : Rc) : Ls := if roomS s r then s else savedS s
def keepS (s : Ls) (r : Rc) : Ls := { madeS s r with n := (madeS s r).n + 1 }.take r
structure Lb (s : Ls) (N : Int) : Prop where
 gen : s.su.gen ≤ N
 inc : s.su.inc ≤ N
 nx : s.n ≤ 10 * N
 few : N ≤ 1000
def LInv (S : DS) (s : Ls) (T : List Nm) (K : Int) : Prop := ∃ (L : List RI) (c : Nat), Disk0 S s.su L c K s.op.length ∧ LG s L c ∧ s.n = s.su.tail + (L.length : Int) ∧ ∀ p ∈ L.drop c, p.1.name ∈ T
theorem LInv.up {S : DS} {s : Ls} {T : List Nm} {K : Int} (h : LInv S s T K) : S.down = false := by obtain ⟨L, c, D, -⟩ := h; exact D.up
theorem LInv.one {S : DS} {s : Ls} {T : List Nm} {K : Int} (h : LInv S s T K) (k : Int) : (S.cache k).length ≤ 1 := by obtain ⟨L, c, D, -⟩ := h; exact D.one k
theorem LInv.cache {S : DS} {s : Ls} {T : List Nm} {K : Int} (h : LInv S s T K) (k : Int) : (S.cache k).length ≤ 1000000 := by have := h.one k; omega
theorem LInv.may {S : DS} {s : Ls} {T : List Nm} {K : Int} (h : LInv S s T K) : s.su.may := by obtain ⟨L, c, D, -⟩ := h; exact D.sup.may
theorem LInv.oks {S : DS} {s : Ls} {T : List Nm} {K : Int} (h : LInv S s T K) : CuOk s.cu ∧ OpOk s.op := by obtain ⟨L, c, D, G, -⟩ := h; exact G.ok D.sup.may fun p hp => (D.ph.ok p hp).1
theorem LInv.few {S : DS} {s : Ls} {T : List Nm} {K : Int} (h : LInv S s T K) : s.op.length ≤ 8 := by obtain ⟨L, c, D, G, -⟩ := h; have := G.few; omega
theorem LInv.mayL {S : DS} {s : Ls} {T : List Nm} {K : Int} (h : LInv S s T K) : 1 ≤ s.su.tail ∧ s.su.tail ≤ s.n ∧ s.n + (s.op.length : Int) ≤ s.su.tail + 24 := by obtain ⟨L, c, D, G, hn, -⟩ := h; have := D.ph.len; have := D.ph.t1; omega
theorem LInv.mono {S : DS} {s : Ls} {T T2 : List Nm} {K : Int} (h : LInv S s T K) (ht : ∀ n ∈ T, n ∈ T2) : LInv S s T2 K := by
 obtain ⟨L, c, D, G, hn, hT⟩ := h
 exact ⟨L, c, D, G, hn, fun p hp => ht _ (hT p hp)⟩
theorem curOf_saved {s : Ls} (h : CuOk s.cu) : curOf (savedSu s) = s.cu := by
 have := h.zero
 unfold curOf savedSu at *
 simpa using this
def againL (s : Ls) : List RI := s.op.map fun r => (clrR r, s.su.inc)
theorem againL_len (s : Ls) : (againL s).length = s.op.length := by unfold againL; rw [List.length_map]
theorem clr_all {op : List Rc} (h : OpOk op) {r : Rc} (hr : r ∈ op) : recOk (clrR r) := (clr_ok (h.ok r hr).1 (h.ok r hr).2).1
structure Mid (S : DS) (s : Ls) (i : Nat) (L : List RI) (c : Nat) (K : Int) : Prop where
 dk : Disk0 S s.su (L ++ (againL s).take i) c K (s.op.length - i)
 lg : LG s L c
 nx : s.n = s.su.tail + (L.length : Int)
 le : i ≤ s.op.length
theorem Mid.start {S : DS} {s : Ls} {T : List Nm} {K : Int} (h : LInv S s T K) : ∃ L c, Mid S s 0 L c K := by
 obtain ⟨L, c, D, G, hn, -⟩ := h
 exact ⟨L, c, by rw [List.take_zero, List.append_nil]; exact D, G, hn, Nat.zero_le _⟩
theorem Mid.len {S : DS} {s : Ls} {i : Nat} {L : List RI} {c : Nat} {K : Int} (h : Mid S s i L c K) : (L ++ (againL s).take i).length = L.length + i := by
 have := h.le
 rw [List.length_append, List.length_take, againL_len, Nat.min_eq_left this]
theorem Mid.oks {S : DS} {s : Ls} {i : Nat} {L : List RI} {c : Nat} {K : Int} (h : Mid S s i L c K) : CuOk s.cu ∧ OpOk s.op := h.lg.ok h.dk.sup.may fun p hp => (h.dk.ph.ok p (List.mem_append_left _ hp)).1
theorem Mid.room {S : DS} {s : Ls} {i : Nat} {L : List RI} {c : Nat} {K : Int} (h : Mid S s i L c K) : 1 ≤ s.su.tail ∧ s.n + (i : Int) ≤ s.su.tail + 24 ∧ s.su.tail ≤ s.n ∧ (i < s.op.length → s.n + (i : Int) + 1 ≤ s.su.tail + 24) := by
 have h1 := h.dk.ph.len
 rw [h.len] at h1
 have := h.le; have := h.nx; have := h.dk.ph.t1
 omega
theorem Mid.step {S : DS} {s : Ls} {i : Nat} {L : List RI} {c : Nat} {K : Int} (h : Mid S s i L c K) {r : Rc} (hr : s.op[i]? = some r) (hk : K ≤ s.su.inc) : Mid (putF S (cutF (encR (clrR r)) (s.n + (i : Int)) s.su.inc)) s (i + 1) L c K := by
 have hi := (List.getElem?_eq_some_iff.1 hr).1
 have h1 := h.dk.ph.len
 rw [h.len] at h1
 have e : s.n + (i : Int) = s.su.tail + ((L ++ (againL s).take i).length : Int) := by rw [h.len, h.nx]; omega
 have D := h.dk.app (r := clrR r) (clr_all h.oks.2 (List.mem_of_getElem? hr)) (x2 := s.op.length - (i + 1)) (by omega) (by rw [h.len]; omega) hk
 rw [← e] at D
 refine ⟨?_, h.lg, h.nx, hi⟩
 have e2 : (againL s).take (i + 1) = (againL s).take i ++ [(clrR r, s.su.inc)] := by
  rw [List.take_add_one]; unfold againL; rw [List.getElem?_map, hr]; rfl
 rw [e2, ← List.append_assoc]; exact D
theorem Mid.saved {S : DS} {s : Ls} {L : List RI} {c : Nat} {K N : Int} (h : Mid S s s.op.length L c K) (hk : K ≤ s.su.inc) (hb : Lb s N) : (savedSu s).may ∧ LInv (S.flush.write ((savedSu s).gen % 2) (supS (savedSu s))).flush (savedS s) [] K := by
 have hfew := h.lg.few
 have D := h.dk.flush (.inr hk)
 rw [Nat.sub_self] at D
 have ht : (againL s).take s.op.length = againL s := List.take_of_length_le (by rw [againL_len]; exact Nat.le_refl _)
 rw [ht] at D
 obtain ⟨hc, ho⟩ := h.oks
 have hm : (savedSu s).may := by
  obtain ⟨hm, h1, h2, h3, h4, h5, h6, h7, h8, h9, h10⟩ := h.dk.sup.may
  have hr := h.room
  have := hb.gen; have := hb.nx; have := hb.few
  refine ⟨fun k hk => ?_, ?_⟩
  ·have := hc.map k hk
   rcases lt8 hk with rfl | rfl | rfl | rfl | rfl | rfl | rfl | rfl <;> exact this
  ·have := hc.bound
   simp only [savedSu]
   omega
 have h2 := hb.nx
 have h3 := hb.few
 have hX := againL_len s
 refine ⟨hm, againL s, (againL s).length, ?_, ⟨?_, fun j p hj hp => ?_, fun m h4 h5 => ?_, ?_⟩, ?_, fun p hp => ?_⟩
 ·have := D.tail hm rfl (show (savedSu s).tail = _ from h.nx) (by simp only [savedSu]; omega) rfl (by omega)
  exact this.more (Nat.zero_le _) (by show _ + (s.op.map clrR).length ≤ 24; rw [List.length_map]; omega)
 ·show runK (curOf (savedSu s), []) ((againL s).map (·.1)) = (s.cu, s.op.map clrR)
  rw [curOf_saved hc]
  have e : (againL s).map (·.1) = s.op.map clrR := by unfold againL; rw [List.map_map]; rfl
  rw [e, runK_clr s.cu (s.op.map clrR) [] (fun r hr => ?_) (by rw [List.nil_append, map_clr]; exact ho.nodup)]
  ·rfl
  ·obtain ⟨q, hq, rfl⟩ := List.mem_map.1 hr
   exact ⟨(ho.ok q hq).2, rfl⟩
 ·have := (List.getElem?_eq_some_iff.1 hp).1; omega
 ·obtain rfl : m = (againL s).length := by omega
  rw [List.take_length, Nat.sub_self]
  show (runK (curOf (savedSu s), []) ((againL s).map (·.1))).2.length = (s.op.map clrR).length + 0
  rw [curOf_saved hc]
  have e : (againL s).map (·.1) = s.op.map clrR := by unfold againL; rw [List.map_map]; rfl
  rw [e, runK_clr s.cu (s.op.map clrR) [] (fun r hr => ?_) (by rw [List.nil_append, map_clr]; exact ho.nodup)]
  ·rfl
  ·obtain ⟨q, hq, rfl⟩ := List.mem_map.1 hr
   exact ⟨(ho.ok q hq).2, rfl⟩
 ·rw [Nat.sub_self]
  show (s.op.map clrR).length + 0 ≤ 8
  rw [List.length_map]; omega
 ·show s.n + (s.op.length : Int) = (savedSu s).tail + _
  rw [hX]; rfl
 ·rw [List.drop_length] at hp; cases hp
theorem savedS_lb {s : Ls} {N : Int} (h : Lb s N) (h8 : s.op.length ≤ 8) (hN : N + 1 ≤ 1000) : s.n + (s.op.length : Int) ≤ 10 * N + 8 ∧ (savedS s).su.gen ≤ N + 1 ∧ (savedS s).su.inc ≤ N ∧ Lb (savedS s) (N + 1) := by
 obtain ⟨h1, h2, h3, h4⟩ := h
 refine ⟨by omega, by show s.su.gen + 1 ≤ _; omega, h2, by show s.su.gen + 1 ≤ _; omega, by show s.su.inc ≤ _; omega, by show s.n + (s.op.length : Int) ≤ _; omega, by omega⟩
theorem fd_names {op op2 : List Rc} (h : op.map (·.name) = op2.map (·.name)) (nm : Nm) : fd op nm = fd op2 nm := by
 have key : ∀ (l : List Rc), fd l nm = (l.map (·.name)).findIdx? fun x => x.eqb nm := fun l => by
  unfold fd; rw [List.findIdx?_map]; rfl
 rw [key, key, h]
theorem map_eraseIdx {α β : Type} (f : α → β) : ∀ (l : List α) (k : Nat), (l.eraseIdx k).map f = (l.map f).eraseIdx k
 | [], _ => rfl
 | _ :: _, 0 => rfl
 | x :: l, k + 1 => by simp [List.eraseIdx_cons_succ, map_eraseIdx f l k]
theorem take_names {s s2 : Ls} (h : s.op.map (·.name) = s2.op.map (·.name)) (r : Rc) : (s.take r).op.map (·.name) = (s2.take r).op.map (·.name) := by
 have hf := fd_names h
 unfold Ls.take
 split
 ·show (commitL s.op r).map _ = (commitL s2.op r).map _
  rw [commitL_names, commitL_names, hf, h]
 ·split
  ·show (endL s.op r.name).map _ = (endL s2.op r.name).map _
   unfold endL
   rw [hf]
   cases fd s2.op r.name with
   | none => exact h
   | some k =>
     simp only
     rw [map_eraseIdx, map_eraseIdx, h]
  ·exact h
theorem saved_names (s : Ls) : (savedS s).op.map (·.name) = s.op.map (·.name) := map_clr s.op
theorem made_names (s : Ls) (r : Rc) : (madeS s r).op.map (·.name) = s.op.map (·.name) := by
 unfold madeS; split
 ·rfl
 ·exact saved_names s
theorem made_len (s : Ls) (r : Rc) : (madeS s r).op.length = s.op.length := by
 have := congrArg List.length (made_names s r)
 rwa [List.length_map, List.length_map] at this
theorem made_cu (s : Ls) (r : Rc) : (madeS s r).cu = s.cu := by unfold madeS; split <;> rfl
theorem keep_names (s : Ls) (r : Rc) : (keepS s r).op.map (·.name) = (s.take r).op.map (·.name) := by
 unfold keepS
 exact take_names (by exact made_names s r) r
theorem keep_len (s : Ls) (r : Rc) : (keepS s r).op.length = (s.take r).op.length := by
 have := congrArg List.length (keep_names s r)
 rwa [List.length_map, List.length_map] at this
theorem take_cu {s s2 : Ls} (h : s.cu = s2.cu) (r : Rc) : (s.take r).cu = (s2.take r).cu := by
 unfold Ls.take
 split
 ·unfold Ls.commit; simp only [h]
 ·split
  ·exact h
  ·unfold Ls.stamps; simp only [h]
theorem keep_cu (s : Ls) (r : Rc) : (keepS s r).cu = (s.take r).cu := by
 unfold keepS
 exact take_cu (by exact made_cu s r) r
theorem take_su (s : Ls) (r : Rc) : (s.take r).su = s.su ∧ (s.take r).n = s.n := by
 unfold Ls.take; split
 ·exact ⟨rfl, rfl⟩
 ·split <;> exact ⟨rfl, rfl⟩
theorem keep_su (s : Ls) (r : Rc) : (keepS s r).su = (madeS s r).su ∧ (keepS s r).n = (madeS s r).n + 1 := take_su _ r
theorem made_inc (s : Ls) (r : Rc) : (madeS s r).su.inc = s.su.inc := by unfold madeS; split <;> rfl
theorem keep_lb {s : Ls} {r : Rc} {N : Int} (h : Lb s N) (h8 : s.op.length ≤ 8) (hN : N + 1 ≤ 1000) : Lb (keepS s r) (N + 1) := by
 obtain ⟨e1, e2⟩ := keep_su s r
 have e3 := made_inc s r
 obtain ⟨h1, h2, h3, h4⟩ := h
 refine ⟨?_, by rw [e1, e3]; omega, ?_, hN⟩
 ·rw [e1]; unfold madeS; split
  ·omega
  ·show s.su.gen + 1 ≤ _; omega
 ·rw [e2]; unfold madeS; split
  ·omega
  ·show s.n + (s.op.length : Int) + 1 ≤ _; omega
theorem made_room {S : DS} {s : Ls} {r : Rc} {T : List Nm} {K : Int} (h : LInv S (madeS s r) T K) (h8 : (s.take r).op.length ≤ 8) (h8s : s.op.length ≤ 8) : (madeS s r).n + 1 + ((s.take r).op.length : Int) ≤ (madeS s r).su.tail + 24 := by
 have hl := h.mayL
 unfold madeS at *
 split
 ·rename_i hr
  unfold roomS at hr
  omega
 ·show s.n + (s.op.length : Int) + 1 + _ ≤ s.n + 24
  omega
theorem LInv.made {S : DS} {s : Ls} {r : Rc} {T : List Nm} {K : Int} (h : LInv S (madeS s r) T K) (hk : K ≤ (madeS s r).su.inc) (hr : recOk r) (h8 : (s.take r).op.length ≤ 8) :
 (∃ k, r.kind = 5 ∧ fd s.op r.name = some k) → LInv (putF S (cutF (encR r) (madeS s r).n (madeS s r).su.inc)) (keepS s r) (r.name :: T) K := by
 rintro ⟨k, hk5, hf⟩
 have h8s : s.op.length ≤ 8 := by rw [← made_len s r]; exact h.few
 have hroom := made_room h h8 h8s
 obtain ⟨L, c, D, G, hn, hT⟩ := h
 have hf2 : fd (madeS s r).op r.name = some k := by rw [fd_names (made_names s r)]; exact hf
 have hkl := fd_lt hf2
 have hol : (keepS s r).op.length = (madeS s r).op.length - 1 := by
  rw [keep_len]
  have : (s.take r).op.length = s.op.length - 1 := by
   unfold Ls.take; rw [if_neg (by omega), if_pos hk5]
   show (endL _ _).length = _
   unfold endL
   rw [hf]
   have := fd_lt hf
   simp only
   rw [List.length_eraseIdx, if_pos this]
  rw [this, made_len]
 have hlen := D.ph.len
 rw [hn]
 refine ⟨L ++ [(r, (madeS s r).su.inc)], c, ?_, ?_, ?_, fun p hp => ?_⟩
 ·rw [hol, (keep_su s r).1]
  exact D.app hr (by omega) (by omega) hk
 ·exact G.fin D.ph.le r _ _ hk5 hf2
 ·rw [(keep_su s r).2, (keep_su s r).1, hn, List.length_append, List.length_singleton]; omega
 ·rw [List.drop_append_of_le_length D.ph.le] at hp
  rcases List.mem_append.1 hp with hp | hp
  ·exact List.mem_cons_of_mem _ (hT p hp)
  ·rw [List.mem_singleton.1 hp]; exact List.mem_cons_self ..
theorem LInv.madeF {S : DS} {s : Ls} {r : Rc} {T : List Nm} {K : Int} (h : LInv S (madeS s r) T K) (hk : K ≤ (madeS s r).su.inc) (hr : recOk r) (h8 : (s.take r).op.length ≤ 8) :
 (s.op.length ≤ (s.take r).op.length) → LInv (putF S (cutF (encR r) (madeS s r).n (madeS s r).su.inc)).flush (keepS s r) [] K := by
 intro hge
 have h8s : s.op.length ≤ 8 := by rw [← made_len s r]; exact h.few
 have hroom := made_room h h8 h8s
 obtain ⟨L, c, D, G, hn, hT⟩ := h
 have hlen := D.ph.len
 rw [hn] at hroom ⊢
 have D2 := D.app hr (x2 := (s.take r).op.length) (by rw [made_len]; omega) (by omega) hk
 refine ⟨L ++ [(r, (madeS s r).su.inc)], (L ++ [(r, (madeS s r).su.inc)]).length, ?_, ?_, ?_, fun p hp => ?_⟩
 ·rw [keep_len, (keep_su s r).1]
  exact D2.flush (.inr hk)
 ·refine G.app r _ _ ?_
  have := congrArg List.length (take_names (made_names s r) r)
  rw [List.length_map, List.length_map] at this
  omega
 ·rw [(keep_su s r).2, (keep_su s r).1, hn, List.length_append, List.length_singleton]; omega
 ·rw [List.drop_length] at hp; cases hp
theorem LInv.crash {S : DS} {s : Ls} {T : List Nm} {K : Int} (h : LInv S s T K) (hk : K ≤ s.su.inc) (plan : List (Int × Int)) :
 ∃ s2 : Ls, s2.su = s.su ∧ s2.cu = s.cu ∧ s2.n ≤ s.n ∧ LInv { S.crash plan with down := false } s2 [] (s.su.inc + 1) ∧ (∀ n, n ∈ s.op.map (·.name) → n ∈ s2.op.map (·.name)) ∧ ∀ n, n ∈ s2.op.map (·.name) → n ∈ s.op.map (·.name) ∨ n ∈ T := by
 obtain ⟨L, c, D, G, hn, hT⟩ := h
 obtain ⟨m, h1, h2, D2⟩ := D.crash (.inr hk) plan
 obtain ⟨G2, a, b, d, e⟩ := G.back h1 h2
 have hl := D.ph.len
 have hml : (L.take m).length = m := by rw [List.length_take, Nat.min_eq_left h2]
 rw [show max K (s.su.inc + 1) = s.su.inc + 1 by omega] at D2
 refine ⟨s.back L m, rfl, a, by show s.su.tail + (m : Int) ≤ s.n; omega, ⟨L.take m, m, by rw [b]; exact D2, G2, by rw [hml]; rfl, fun p hp => ?_⟩, d, fun n hq => ?_⟩
 ·rw [List.drop_of_length_le (by omega)] at hp; cases hp
 ·rcases e n hq with h3 | ⟨j, p, h3, h4, rfl⟩
  ·exact .inl h3
  ·right
   refine hT p (List.mem_of_getElem? (i := j - c) ?_)
   rw [List.getElem?_drop, show c + (j - c) = j by omega]; exact h4
def begunSu (su : Su) : Su := { su with gen := su.gen + 1, inc := su.inc + 1 }
theorem begunSu_may {su : Su} (h : su.may) (h1 : su.gen ≤ 1000000) (h2 : su.inc ≤ 1000000) : (begunSu su).may := by
 obtain ⟨hm, h⟩ := h
 refine ⟨fun k hk => ?_, by simp only [begunSu]; omega⟩
 have := hm k hk
 rcases lt8 hk with rfl | rfl | rfl | rfl | rfl | rfl | rfl | rfl <;> exact this
theorem LInv.begin {S : DS} {s : Ls} {K : Int} (h : LInv S s [] K) (hm : (begunSu s.su).may) : LInv (S.write ((begunSu s.su).gen % 2) (supS (begunSu s.su))).flush { s with su := begunSu s.su } [] K := by
 obtain ⟨L, c, D, G, hn, hT⟩ := h
 have hc : c = L.length := by
  rcases Nat.lt_or_ge c L.length with h1 | h1
  ·have := hT L[c] (List.mem_of_getElem? (i := 0) (by rw [List.getElem?_drop]; exact List.getElem?_eq_getElem h1)); cases this
  ·have := D.ph.le; omega
 subst hc
 exact ⟨L, L.length, D.begin hm rfl rfl (show s.su.inc ≤ s.su.inc + 1 by omega), ⟨G.run, G.ends, G.cnt, G.few⟩, hn, hT⟩
theorem LInv.all {S : DS} {s : Ls} {K : Int} (h : LInv S s [] K) : ∃ L, Disk0 S s.su L L.length K s.op.length ∧ LG s L L.length ∧ s.n = s.su.tail + (L.length : Int) := by
 obtain ⟨L, c, D, G, hn, hT⟩ := h
 have hc : c = L.length := by
  rcases Nat.lt_or_ge c L.length with h1 | h1
  ·have := hT L[c] (List.mem_of_getElem? (i := 0) (by rw [List.getElem?_drop]; exact List.getElem?_eq_getElem h1)); cases this
  ·have := D.ph.le; omega
 subst hc
 exact ⟨L, D, G, hn⟩
def su1 : Su := { suFirst with gen := 1 }
theorem su1_may : su1.may := by unfold Su.may; refine ⟨fun k hk => ?_, by decide⟩; rcases lt8 hk with rfl | rfl | rfl | rfl | rfl | rfl | rfl | rfl <;> decide
def s1 : Ls := ⟨su1, curOf su1, 1, []⟩
theorem durAt_zero (k : Nat) (h : k < 34) : durAt (List.replicate 2176 0) k = zero64 := by
 unfold durAt zero64
 rw [List.drop_replicate, List.take_replicate]
 congr 1
 omega
theorem LInv.start : LInv (DS.new.write (su1.gen % 2) (supS su1)).flush s1 [] 0 := by
 have hcw : ∀ k : Int, (DS.new.write (su1.gen % 2) (supS su1)).cache k = if k = 1 then [supS su1] else [] := fun k => rfl
 have hget : ∀ k : Nat, k ≠ 1 → (DS.new.write (su1.gen % 2) (supS su1)).flush.get k = durAt (List.replicate 2176 0) k := fun k hk => by
  rw [get_flush]
  unfold DS.get
  rw [hcw, if_neg (by omega)]; rfl
 refine ⟨[], 0, ⟨rfl, fun _ _ => rfl, ⟨su1_may, ?_, fun k x hk hne hx => ?_⟩, Phys.start (fun j hj => ⟨?_, rfl⟩) _ (by decide)⟩, ⟨rfl, fun j p _ hp => (by simp at hp), fun m h1 h2 => ?_, by decide⟩, rfl, fun p hp => (by simp at hp)⟩
 ·show (DS.new.write (su1.gen % 2) (supS su1)).flush.get 1 = supS su1
  rfl
 ·obtain rfl : k = 0 := by
   have : (s1.su.gen % 2).toNat = 1 := by decide
   rw [this] at hne; omega
  have e : secD (DS.new.write (su1.gen % 2) (supS su1)).flush 0 = durAt (List.replicate 2176 0) 0 := hget 0 (by omega)
  rw [e] at hx
  have e2 : durAt (List.replicate 2176 0) 0 = zero64 := durAt_zero 0 (by omega)
  rw [e2] at hx
  rw [supP_zero (by decide) (by decide)] at hx
  cases hx
 ·show (DS.new.write (su1.gen % 2) (supS su1)).flush.dur _ = zero64
  have e : (DS.new.write (su1.gen % 2) (supS su1)).flush.dur (2 + (1 + (j : Int)) % 24).toNat = (DS.new.write (su1.gen % 2) (supS su1)).flush.get (2 + (1 + (j : Int)) % 24).toNat := rfl
  rw [e, hget _ (by omega)]
  exact durS_new 1 j
 ·obtain rfl : m = 0 := by simpa using h2
  rfl
end Go.Proofs.YtmdededhoibofaaGreat

