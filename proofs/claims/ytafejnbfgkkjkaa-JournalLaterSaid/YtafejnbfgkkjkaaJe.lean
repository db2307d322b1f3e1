/-
  Package journal: take.
-/
import Derived.Test.YtafejnbfgkkjkaaJd
namespace Go.Proofs.Ytafejnbfgkkjkaa
open Go.RowKit Go.Sort

theorem frC_snoc (fs : List FrM) (x : FrM) : frC (fs ++ [x]) = frC fs ++ x.cellsL := by simp [frC]
theorem fdC_snoc (ls : List FdM) (x : FdM) : fdC (ls ++ [x]) = fdC ls ++ x.cellsL := by simp [fdC]
theorem perm_in {α : Type} (r : α) (X A : List α) : (r :: (X ++ A)).Perm ((X ++ [r]) ++ A) := by
  rw [List.append_assoc]; exact List.perm_middle.symm
set_option maxHeartbeats 2000000 in
theorem take_any {wc w : World} {A E : List Ent} {b : Nat} {s : Sc} (f : Fr) (r : RB) (hE : ScE b s E) (M : Mem wc w (r.ent :: (A ++ E))) (hb : s.begun.length ≤ 900) (hl : s.l.length ≤ 1000) (hs : -1099511627776 ≤ s.seq ∧ s.seq ≤ 1099511627776) (hm : f.may r.bs.length = true) :
    Calls Try.prog 39 #[.pointer (some ⟨b, 0, none⟩), .agg (f.cells r.val).toArray] w fun e w' => e = .returned (.bool (takeP s (f, r.bs)).2) ∧ ∃ E', ScE b (takeP s (f, r.bs)).1 E' ∧ Mem wc w' (A ++ E') := by
  obtain ⟨m, O, rfl⟩ := hE
  replace M : Mem wc w (.blk b (scC s m).toArray 63 :: rowE m.lo m.hi 59 6 m.bv m.fs.length (frC m.fs) :: rowE m.lo2 m.hi2 67 2 m.lv m.ls.length (fdC m.ls) :: (r.ent :: (m.rows ++ A))) := M.perm ((List.Perm.cons _ List.perm_append_comm).trans (List.perm_middle (l₁ := [_, _, _]) (l₂ := m.rows ++ A)).symm)
  have hlen : s.begun.length = m.fs.length := by rw [O.begun, List.length_map]
  have hlen2 : s.l.length = m.ls.length := by rw [O.l, List.length_map]
  rw [hlen] at hb
  rw [hlen2] at hl
  obtain ⟨fs2, hfs2⟩ : ∃ fs2, fs2 = m.fs ++ [(f, r)] := ⟨_, rfl⟩
  have hf2l : fs2.length = m.fs.length + 1 := by rw [hfs2, List.length_append]; rfl
  have hpl2 : fs2.map FrM.pl = s.begun ++ [(f, r.bs)] := by rw [hfs2, List.map_append, O.begun]; rfl
  have hmay2 : ∀ p ∈ fs2, p.1.may p.2.bs.length = true := fun p hp => by
    rw [hfs2] at hp
    rcases List.mem_append.1 hp with h | h
    · exact O.may p h
    · rw [List.mem_singleton.1 h]; exact hm
  have hin : ∀ p ∈ fs2, p.2.ent ∈ r.ent :: (m.rows ++ A) := fun p hp => by
    rw [hfs2] at hp
    rcases List.mem_append.1 hp with h | h
    · exact .tail _ (List.mem_append_left _ (by unfold ScM.rows; exact List.mem_append_left _ (List.mem_map_of_mem h)))
    · rw [List.mem_singleton.1 h]; exact .head _
  have hbig : ∀ x ∈ fs2.map FrM.pl, x.2.length ≤ 1000 := fun x hx => by
    obtain ⟨p, hp, rfl⟩ := List.mem_map.1 hx
    have := hmay2 p hp
    simp only [Fr.may, decide_eq_true_eq] at this
    show p.2.bs.length ≤ 1000
    omega
  have hsq : ∀ x ∈ fs2.map FrM.pl, -9223372036854775808 ≤ x.1.seq ∧ x.1.seq ≤ 9223372036854775807 := fun x hx => by
    obtain ⟨p, hp, rfl⟩ := List.mem_map.1 hx
    have := hmay2 p hp
    simp only [Fr.may, decide_eq_true_eq] at this
    show -9223372036854775808 ≤ p.1.seq ∧ p.1.seq ≤ 9223372036854775807
    omega
  have hlenT : ((s.begun ++ [((f, r.bs) : FrB)]).length : Int) = ((m.fs.length + 1 : Nat) : Int) := by rw [List.length_append, hlen]; rfl
  refine calls_enter Try.func39 rfl 75 rfl rfl ?_; intro a S
  refine wp_seq ?_
  skip
  refine wp_region_lit ?_
  refine st_box S M rfl rfl rfl #[_, _, _, _, _, _] rfl ?_; clear S M a; intro a w1 bF S M hB
  refine st_go [1] S rfl (by kernel_rfl) ?_; clear S a; intro a S
  refine nxA ?_
  refine st_run [1, 1, 1, 2] S M rfl (by kernel_rfl) ?_; clear S a; intro a S
  (first | refine st_y S rfl rfl rfl (y_addN S rfl rfl (by omega)) ?_ | refine st_y S rfl rfl rfl (y_int S rfl rfl rfl) ?_); clear S a; intro a S
  refine st_go [1, 1] S rfl (by kernel_rfl) ?_; clear S a; intro a S
  refine st_store (sz := 1) (us := [_]) S M 1 rfl (by kernel_rfl) rfl rfl rfl rfl rfl rfl (by first | decide | (simp; done) | (simp; omega)) ?_; clear M; intro w2 M
  simp only [putL, List.set_cons_zero, List.set_cons_succ, Nat.reduceAdd] at M
  refine nxA ?_
  refine st_run [1, 2, 1, 1, 2] S M rfl (by kernel_rfl) ?_; clear S a; intro a S
  refine st_store (sz := 1) (us := [_]) S M 1 rfl (by kernel_rfl) rfl rfl rfl rfl rfl rfl (by first | decide | (simp; done) | (simp; omega)) ?_; clear M; intro w3 M
  simp only [putL, List.set_cons_zero, List.set_cons_succ, Nat.reduceAdd] at M
  refine nxC ?_
  refine wp_seq ?_
  refine wp_regionK [7, 10] #[false, false, false, false, false, false, false, false, false, false, false] rfl M (by kernel_rfl) ?_; clear M; intro w4 M
  refine k_pure (listed' := #[true, false, false, false, false, false, false, false, false, false, false]) 0 S rfl rfl rfl rfl (by kernel_rfl) rfl (fun _ d _ _ _ h => by cases d <;> exact h) (fun w => y_move S rfl) ?_; clear S a; intro a S
  refine k_pure (listed' := #[true, true, false, false, false, false, false, false, false, false, false]) 1 S rfl rfl rfl rfl (by kernel_rfl) rfl (fun _ d _ _ _ h => by cases d <;> exact h) (fun w => y_move S rfl) ?_; clear S a; intro a S
  refine k_pure (listed' := #[true, true, true, false, false, false, false, false, false, false, false]) 2 S rfl rfl rfl rfl (by kernel_rfl) rfl (fun _ d _ _ _ h => by cases d <;> exact h) (fun w => y_nilCheck S rfl) ?_; clear S a; intro a S
  refine k_pure (listed' := #[true, true, true, true, false, false, false, false, false, false, false]) 3 S rfl rfl rfl rfl (by kernel_rfl) rfl (fun _ d _ _ _ h => by cases d <;> exact h) (fun w => y_fieldAddr (k := 2) S (by kernel_rfl) rfl) ?_; clear S a; intro a S
  refine k_read (listed' := #[true, true, true, true, true, false, false, false, false, false, false]) 4 S rfl rfl rfl rfl (by kernel_rfl) rfl (fun _ d _ _ _ h => by cases d <;> exact h) (fun w hW => have M := M.grow hW; y_load S (by kernel_rfl) rfl (M.cell 1 rfl rfl)) ?_; clear S a; intro a S
  refine k_read (listed' := #[true, true, true, true, true, true, false, false, false, false, false]) 5 S rfl rfl rfl rfl (by kernel_rfl) rfl (fun _ d _ _ _ h => by cases d <;> exact h) (fun w hW => have M := M.grow hW; y_loadAgg (cs := [_, _, _, _, _, _]) S (by kernel_rfl) rfl rfl (M.cellsAt (k := 6) 0 rfl rfl)) ?_; clear S a; intro a S
  refine k_one (listed' := #[true, true, true, true, true, true, true, false, false, false, false]) 6 rfl (by kernel_rfl) rfl ?_
  refine st_lit (ps := [(0, (Operand.tmp 24))]) (e := 59) (sz := 6) (zl := [.int .i64 0, .int .i64 0, .int .i64 0, .int .i64 0, .int .u32 0, .slice none 0 0]) (cs := [_, _, _, _, _, _]) S M rfl rfl (by kernel_rfl) rfl (rfl) ?_; clear S M a; intro a w5 bZ S M hB
  refine wpList_nil ?_; refine then_normal ?_; refine ⟨fun _ => hB, ?_⟩
  refine k_one (listed' := #[true, true, true, true, true, true, true, true, false, false, false]) 7 rfl (by kernel_rfl) rfl ?_
  refine st_append (e := 59) (sz := 6) (by_ := 64) (zc := [.int .i64 0, .int .i64 0, .int .i64 0, .int .i64 0, .int .u32 0, .slice none 0 0]) S M 3 rfl rfl (by kernel_rfl) rfl (by decide) rfl rfl rfl (show Rd _ _ _ 6 _ 1 (f.cells r.val) from M.sliceAt 0 rfl (M.cellsAt (k := 6) 0 rfl rfl) rfl (Nat.le_refl _) (by unfold maxLen; omega)) (rfl) (by omega) (by unfold maxLen; omega) ?_; clear S M a; intro a w6 vA loA hiA S M
  refine wpList_nil ?_; refine then_normal ?_; refine ⟨fun h => absurd h (by decide), ?_⟩
  refine k_pure (listed' := #[true, true, true, true, true, true, true, true, true, false, false]) 8 S rfl rfl rfl rfl (by kernel_rfl) rfl (fun _ d _ _ _ h => by cases d <;> exact h) (fun w => y_nilCheck S rfl) ?_; clear S a; intro a S
  refine k_pure (listed' := #[true, true, true, true, true, true, true, true, true, true, false]) 9 S rfl rfl rfl rfl (by kernel_rfl) rfl (fun _ d _ _ _ h => by cases d <;> exact h) (fun w => y_fieldAddr (k := 2) S (by kernel_rfl) rfl) ?_; clear S a; intro a S
  refine k_one (listed' := #[true, true, true, true, true, true, true, true, true, true, true]) 10 rfl (by kernel_rfl) rfl ?_
  obtain ⟨aA, cA, rfl, -, -⟩ := (M.readAll 0 rfl (by unfold maxLen; omega)).form
  refine st_store (sz := 1) (us := [_]) S M 3 rfl (by kernel_rfl) rfl rfl rfl rfl rfl rfl (by first | decide | (simp; done) | (simp; omega)) ?_; clear M; intro w7 M
  simp only [putL, List.set_cons_zero, List.set_cons_succ, Nat.reduceAdd] at M
  refine wpList_nil ?_; refine then_normal ?_; refine ⟨fun h => absurd h (by decide), ?_⟩
  refine k_end (by kernel_rfl) ?_
  replace S := S.sub [(0, _), (1, _), (3, _), (4, _)] rfl
  refine then_normal ?_
  refine wp_seq ?_
  refine wp_seq ?_
  skip
  replace M := M.drop 1
  simp only [List.eraseIdx_cons_succ, List.eraseIdx_cons_zero] at M
  replace M := M.front 3 rfl
  simp only [List.eraseIdx_cons_succ, List.eraseIdx_cons_zero] at M
  replace M := M.front 1 rfl
  simp only [List.eraseIdx_cons_succ, List.eraseIdx_cons_zero] at M
  replace M := M.front 3 rfl
  simp only [List.eraseIdx_cons_succ, List.eraseIdx_cons_zero] at M
  have hM2 : rowE loA hiA 59 6 (.slice aA (m.fs.length + 1) cA) (m.fs.length + 1) (frC m.fs ++ f.cells r.val) = rowE loA hiA 59 6 (.slice aA fs2.length cA) fs2.length (frC fs2) := by rw [hf2l, hfs2, frC_snoc]
  replace M : Mem wc w7 (.blk b #[.int .i64 (s.seq + 1), .int .i64 f.inc, .slice aA (m.fs.length + 1) cA, m.lv, .int .i64 s.next] 63 :: rowE loA hiA 59 6 (.slice aA (m.fs.length + 1) cA) (m.fs.length + 1) (frC m.fs ++ f.cells r.val) :: rowE m.lo2 m.hi2 67 2 m.lv m.ls.length (fdC m.ls) :: .blk bF (f.cells r.val).toArray 59 :: (r.ent :: (m.rows ++ A))) := M
  rw [hM2, ← hf2l] at M
  obtain ⟨m2, hm2⟩ : ∃ m2 : ScM, m2 = { m with fs := fs2, ba := aA, bc := cA, lo := loA, hi := hiA } := ⟨_, rfl⟩
  have hmid : ∀ {W : World} {X Y : Ent} {R : List Ent}, Mem wc W (X :: Y :: R ++ (r.ent :: (m.rows ++ A))) → Mem wc W ((X :: Y :: R) ++ (m2.rows ++ A)) := fun M => M.perm (List.Perm.append_left _ (by rw [hm2, hfs2]; unfold ScM.rows; simp only [List.map_append, List.map_cons, List.map_nil, List.append_assoc, List.cons_append, List.nil_append]; exact List.perm_middle.symm))
  refine wp_quiet M (by kernel_rfl) (by kernel_rfl) ?_
  refine qt_y S rfl rfl rfl (fun w M => y_move S rfl) ?_; clear S a; intro a S
  refine qt_y S rfl rfl rfl (fun w M => y_nilCheck S rfl) ?_; clear S a; intro a S
  refine qt_y S rfl rfl rfl (fun w M => y_fieldAddr (k := 2) S (by kernel_rfl) rfl) ?_; clear S a; intro a S
  refine qt_y S rfl rfl rfl (fun w M => y_load S (by kernel_rfl) rfl (M.cell 0 rfl rfl)) ?_; clear S a; intro a S
  refine qt_y S rfl rfl rfl (fun w M => y_lenR (E := 59) S rfl (M.readAll 1 rfl (by unfold maxLen; omega)) (by kernel_rfl)) ?_; clear S a; intro a S
  refine qt_y S rfl rfl rfl (fun w M => y_fieldAddr (k := 3) S (by kernel_rfl) rfl) ?_; clear S a; intro a S
  refine qt_y S rfl rfl rfl (fun w M => y_load S (by kernel_rfl) rfl (M.cell 3 rfl rfl)) ?_; clear S a; intro a S
  refine qt_y S rfl rfl rfl (fun w M => y_int S rfl rfl rfl) ?_; clear S a; intro a S
  refine wpQuiet_nil ?_; clear M; intro w8 M
  refine then_normal ?_
  refine st_if (t := 36) S rfl ?_ ?_
  · clear S; intro h36 S
    refine st_condT S rfl ?_
    refine nxD ?_
    refine st_go [1] S rfl (by kernel_rfl) ?_; clear S a; intro a S
    refine nxC ?_
    refine wp_ret ?_
    refine then_ret ?_
    refine end_one S rfl (res_tmp rfl) ?_
    have hlt : ((s.begun ++ [((f, r.bs) : FrB)]).length : Int) < f.of := by rw [hlenT]; omega
    unfold takeP
    rw [if_pos hlt]
    refine ⟨rfl, m2.ents b ⟨s.seq + 1, f.inc, s.begun ++ [(f, r.bs)], s.l, s.next⟩, ⟨m2, ⟨by rw [hm2]; exact hpl2.symm, by rw [hm2]; exact O.l, by rw [hm2]; exact hmay2, by rw [hm2]; exact O.short⟩, rfl⟩, ?_⟩
    replace M := M.drop 3
    simp only [List.eraseIdx_cons_succ, List.eraseIdx_cons_zero] at M
    refine Mem.backA ?_
    have M5 := hmid (R := [_]) M
    rw [hm2] at M5 ⊢
    exact M5
  clear S; intro h36 S
  refine st_condF S rfl ?_
  refine wp_skip ?_
  refine then_normal ?_
  refine wp_seq ?_
  have hnl : ¬ ((s.begun ++ [((f, r.bs) : FrB)]).length : Int) < f.of := by rw [hlenT]; omega
  refine wp_region_lit ?_
  refine st_run [1, 1, 3, 1] S M rfl (by kernel_rfl) ?_; clear S a; intro a S
  refine st_call (xs := [(Operand.tmp 41)]) S (enters_of Try.func52 (by decide) rfl) rfl rfl rfl (join_any (.slice aA fs2.length cA) (frC fs2) (fs2.map FrM.pl) _ (frs_of M (.tail _ (.head _)) (by omega) (fun p hp => .tail _ (.tail _ (.tail _ (.tail _ (hin p hp))))) hmay2) hbig hsq) ?_
  rintro _ w9 ⟨vj, rfl, hK, hJ1, hJ2⟩; refine ⟨_, rfl, ?_⟩; clear S a; intro a S
  rw [hpl2] at hJ1 hJ2 S
  refine st_go [1, 1, 1, 1, 1] S rfl (by kernel_rfl) ?_; clear S a; intro a S
  replace S := S.sub [(0, _), (1, _), (3, _), (4, _), (36, _), (5, _), (6, _)] rfl
  refine nxC ?_
  refine wp_seq ?_
  refine nxD ?_
  refine st_go [1, 1] S rfl (by kernel_rfl) ?_; clear S a; intro a S
  refine nxC ?_
  refine st_split (t := 46) S rfl ?_ ?_
  · clear S; intro h46 S
    refine st_condT S rfl ?_
    refine nxD ?_
    refine st_go [1] S rfl (by kernel_rfl) ?_; clear S a; intro a S
    refine nxC ?_
    refine wp_ret ?_
    refine then_ret ?_
    refine end_one S rfl (res_tmp rfl) ?_
    have hnj : ¬ joinOk (s.begun ++ [((f, r.bs) : FrB)]) := fun h => by unfold joinE at h46; rw [if_pos h] at h46; simp at h46
    unfold takeP
    rw [if_neg hnl, if_neg hnj]
    replace M := M.grow hK
    refine ⟨rfl, m2.ents b ⟨s.seq + 1, f.inc, s.begun ++ [(f, r.bs)], s.l, s.next⟩, ⟨m2, ⟨by rw [hm2]; exact hpl2.symm, by rw [hm2]; exact O.l, by rw [hm2]; exact hmay2, by rw [hm2]; exact O.short⟩, rfl⟩, ?_⟩
    replace M := M.drop 3
    simp only [List.eraseIdx_cons_succ, List.eraseIdx_cons_zero] at M
    refine Mem.backA ?_
    have M5 := hmid (R := [_]) M
    rw [hm2] at M5 ⊢
    exact M5
  clear S; intro h46 S
  refine st_condF S rfl ?_
  refine wp_skip ?_
  refine then_normal ?_
  refine wp_seq ?_
  have hjo : joinOk (s.begun ++ [((f, r.bs) : FrB)]) := by
    by_cases h : joinOk (s.begun ++ [((f, r.bs) : FrB)])
    · exact h
    · unfold joinE at h46; rw [if_neg h] at h46; simp at h46
  have ho90 : (outF (s.begun ++ [((f, r.bs) : FrB)])).length ≤ 90 := by obtain ⟨_, _, _, -, -, -, h, -⟩ := hjo; exact h.2.2.2.1
  obtain ⟨lj, hj, -, M2⟩ := M.pushFresh (hJ1 hjo); clear M; have M := M2; clear M2
  obtain ⟨ja, jc, rfl, -, -⟩ := ((hJ1 hjo).rd (by unfold maxLen; omega)).form
  obtain ⟨g, hg⟩ : ∃ g, fs2[0]? = some g := ⟨_, List.getElem?_eq_getElem (by omega)⟩
  refine wp_regionK [15, 18] #[false, false, false, false, false, false, false, false, false, false, false, false, false, false, false, false, false, false, false] rfl M (by kernel_rfl) ?_; clear M; intro w10 M
  refine k_pure (listed' := #[true, false, false, false, false, false, false, false, false, false, false, false, false, false, false, false, false, false, false]) 0 S rfl rfl rfl rfl (by kernel_rfl) rfl (fun _ d _ _ _ h => by cases d <;> exact h) (fun w => y_move S rfl) ?_; clear S a; intro a S
  refine k_pure (listed' := #[true, true, false, false, false, false, false, false, false, false, false, false, false, false, false, false, false, false, false]) 1 S rfl rfl rfl rfl (by kernel_rfl) rfl (fun _ d _ _ _ h => by cases d <;> exact h) (fun w => y_move S rfl) ?_; clear S a; intro a S
  refine k_pure (listed' := #[true, true, true, false, false, false, false, false, false, false, false, false, false, false, false, false, false, false, false]) 2 S rfl rfl rfl rfl (by kernel_rfl) rfl (fun _ d _ _ _ h => by cases d <;> exact h) (fun w => y_nilCheck S rfl) ?_; clear S a; intro a S
  refine k_pure (listed' := #[true, true, true, true, false, false, false, false, false, false, false, false, false, false, false, false, false, false, false]) 3 S rfl rfl rfl rfl (by kernel_rfl) rfl (fun _ d _ _ _ h => by cases d <;> exact h) (fun w => y_fieldAddr (k := 3) S (by kernel_rfl) rfl) ?_; clear S a; intro a S
  refine k_read (listed' := #[true, true, true, true, true, false, false, false, false, false, false, false, false, false, false, false, false, false, false]) 4 S rfl rfl rfl rfl (by kernel_rfl) rfl (fun _ d _ _ _ h => by cases d <;> exact h) (fun w hW => have M := M.grow hW; y_load S (by kernel_rfl) rfl (M.cell 1 rfl rfl)) ?_; clear S a; intro a S
  refine k_pure (listed' := #[true, true, true, true, true, true, false, false, false, false, false, false, false, false, false, false, false, false, false]) 5 S rfl rfl rfl rfl (by kernel_rfl) rfl (fun _ d _ _ _ h => by cases d <;> exact h) (fun w => y_move S rfl) ?_; clear S a; intro a S
  refine k_pure (listed' := #[true, true, true, true, true, true, true, false, false, false, false, false, false, false, false, false, false, false, false]) 6 S rfl rfl rfl rfl (by kernel_rfl) rfl (fun _ d _ _ _ h => by cases d <;> exact h) (fun w => y_nilCheck S rfl) ?_; clear S a; intro a S
  refine k_pure (listed' := #[true, true, true, true, true, true, true, true, false, false, false, false, false, false, false, false, false, false, false]) 7 S rfl rfl rfl rfl (by kernel_rfl) rfl (fun _ d _ _ _ h => by cases d <;> exact h) (fun w => y_fieldAddr (k := 2) S (by kernel_rfl) rfl) ?_; clear S a; intro a S
  refine k_read (listed' := #[true, true, true, true, true, true, true, true, true, false, false, false, false, false, false, false, false, false, false]) 8 S rfl rfl rfl rfl (by kernel_rfl) rfl (fun _ d _ _ _ h => by cases d <;> exact h) (fun w hW => have M := M.grow hW; y_load S (by kernel_rfl) rfl (M.cell 1 rfl rfl)) ?_; clear S a; intro a S
  refine k_read (listed' := #[true, true, true, true, true, true, true, true, true, true, false, false, false, false, false, false, false, false, false]) 9 S rfl rfl rfl rfl (by kernel_rfl) rfl (fun _ d _ _ _ h => by cases d <;> exact h) (fun w hW => have M := M.grow hW; y_indexR (e := 59) (sz := 6) S (by kernel_rfl) rfl (M.readAll 2 rfl (by unfold maxLen; omega)) rfl (by first | omega | (simp; done) | (simp; omega))) ?_; clear S a; intro a S
  refine k_pure (listed' := #[true, true, true, true, true, true, true, true, true, true, true, false, false, false, false, false, false, false, false]) 10 S rfl rfl rfl rfl (by kernel_rfl) rfl (fun _ d _ _ _ h => by cases d <;> exact h) (fun w => y_fieldAddr (k := 0) S (by kernel_rfl) rfl) ?_; clear S a; intro a S
  refine k_read (listed' := #[true, true, true, true, true, true, true, true, true, true, true, true, false, false, false, false, false, false, false]) 11 S rfl rfl rfl rfl (by kernel_rfl) rfl (fun _ d _ _ _ h => by cases d <;> exact h) (fun w hW => have M := M.grow hW; y_load S (by kernel_rfl) rfl ((M.readAll 2 rfl (by unfold maxLen; omega)).at_.row (i := 0) (frC_get hg) rfl 0 (by show 0 < 6; omega))) ?_; clear S a; intro a S
  refine k_pure (listed' := #[true, true, true, true, true, true, true, true, true, true, true, true, true, false, false, false, false, false, false]) 12 S rfl rfl rfl rfl (by kernel_rfl) rfl (fun _ d _ _ _ h => by cases d <;> exact h) (fun w => y_move S rfl) ?_; clear S a; intro a S
  refine k_pure (listed' := #[true, true, true, true, true, true, true, true, true, true, true, true, true, true, false, false, false, false, false]) 13 S rfl rfl rfl rfl (by kernel_rfl) rfl (fun _ d _ _ _ h => by cases d <;> exact h) (fun w => y_build (ps := [(0, (Operand.tmp 58)), (1, (Operand.tmp 59))]) (pl := [(0, 1), (1, 1)]) (z := [.int .i64 0, .slice none 0 0]) (cs := [_, _]) S (by kernel_rfl) rfl (rfl)) ?_; clear S a; intro a S
  refine k_one (listed' := #[true, true, true, true, true, true, true, true, true, true, true, true, true, true, true, false, false, false, false]) 14 rfl (by kernel_rfl) rfl ?_
  refine st_lit (ps := [(0, (Operand.tmp 60))]) (e := 67) (sz := 2) (zl := [.int .i64 0, .slice none 0 0]) (cs := [_, _]) S M rfl rfl (by kernel_rfl) rfl (rfl) ?_; clear S M a; intro a w11 bY S M hB
  refine wpList_nil ?_; refine then_normal ?_; refine ⟨fun _ => hB, ?_⟩
  refine k_one (listed' := #[true, true, true, true, true, true, true, true, true, true, true, true, true, true, true, true, false, false, false]) 15 rfl (by kernel_rfl) rfl ?_
  refine st_append (e := 67) (sz := 2) (by_ := 32) (zc := [.int .i64 0, .slice none 0 0]) S M 4 rfl rfl (by kernel_rfl) rfl (by decide) rfl rfl rfl (show Rd _ _ _ 2 _ 1 [Value.int .i64 g.1.seq, _] from M.sliceAt 0 rfl (M.cellsAt (k := 2) 0 rfl rfl) rfl (Nat.le_refl _) (by unfold maxLen; omega)) (rfl) (by omega) (by unfold maxLen; omega) ?_; clear S M a; intro a w12 vA loA hiA S M
  refine wpList_nil ?_; refine then_normal ?_; refine ⟨fun h => absurd h (by decide), ?_⟩
  refine k_pure (listed' := #[true, true, true, true, true, true, true, true, true, true, true, true, true, true, true, true, true, false, false]) 16 S rfl rfl rfl rfl (by kernel_rfl) rfl (fun _ d _ _ _ h => by cases d <;> exact h) (fun w => y_nilCheck S rfl) ?_; clear S a; intro a S
  refine k_pure (listed' := #[true, true, true, true, true, true, true, true, true, true, true, true, true, true, true, true, true, true, false]) 17 S rfl rfl rfl rfl (by kernel_rfl) rfl (fun _ d _ _ _ h => by cases d <;> exact h) (fun w => y_fieldAddr (k := 3) S (by kernel_rfl) rfl) ?_; clear S a; intro a S
  refine k_one (listed' := #[true, true, true, true, true, true, true, true, true, true, true, true, true, true, true, true, true, true, true]) 18 rfl (by kernel_rfl) rfl ?_
  obtain ⟨aD, cD, rfl, -, -⟩ := (M.readAll 0 rfl (by unfold maxLen; omega)).form
  refine st_store (sz := 1) (us := [_]) S M 3 rfl (by kernel_rfl) rfl rfl rfl rfl rfl rfl (by first | decide | (simp; done) | (simp; omega)) ?_; clear M; intro w13 M
  simp only [putL, List.set_cons_zero, List.set_cons_succ, Nat.reduceAdd] at M
  refine wpList_nil ?_; refine then_normal ?_; refine ⟨fun h => absurd h (by decide), ?_⟩
  refine k_end (by kernel_rfl) ?_
  replace S := S.sub [(0, _), (1, _), (3, _), (4, _), (36, _), (5, _), (6, _), (46, _)] rfl
  refine nxE ?_
  refine st_go [1, 1, 3] S rfl (by kernel_rfl) ?_; clear S a; intro a S
  refine st_store (sz := 1) (us := [_]) S M 3 rfl (by kernel_rfl) rfl rfl rfl rfl rfl rfl (by first | decide | (simp; done) | (simp; omega)) ?_; clear M; intro w14 M
  simp only [putL, List.set_cons_zero, List.set_cons_succ, Nat.reduceAdd] at M
  refine nxA ?_
  refine st_run [1, 1, 1, 1, 4, 1, 5] S M rfl (by kernel_rfl) ?_; clear S a; intro a S
  refine st_store (sz := 1) (us := [_]) S M 3 rfl (by kernel_rfl) rfl rfl rfl rfl rfl rfl (by first | decide | (simp; done) | (simp; omega)) ?_; clear M; intro w15 M
  simp only [putL, List.set_cons_zero, List.set_cons_succ, Nat.reduceAdd] at M
  refine nxA ?_
  refine st_go [1] S rfl (by kernel_rfl) ?_; clear S a; intro a S
  refine nxC ?_
  refine wp_ret ?_
  refine end_one S rfl (res_tmp rfl) ?_
  have hnl2 := hnl
  replace M := M.drop 1
  simp only [List.eraseIdx_cons_succ, List.eraseIdx_cons_zero] at M
  replace M := M.drop 3
  simp only [List.eraseIdx_cons_succ, List.eraseIdx_cons_zero] at M
  replace M := M.drop 3
  simp only [List.eraseIdx_cons_succ, List.eraseIdx_cons_zero] at M
  replace M := M.front 1 rfl
  simp only [List.eraseIdx_cons_succ, List.eraseIdx_cons_zero] at M
  replace M := M.front 1 rfl
  simp only [List.eraseIdx_cons_succ, List.eraseIdx_cons_zero] at M
  replace M := M.front 2 rfl
  simp only [List.eraseIdx_cons_succ, List.eraseIdx_cons_zero] at M
  have M3 := (M.rowNil 59 6).perm (List.Perm.swap _ _ _)
  clear M
  obtain ⟨r2, hr2⟩ : ∃ r2 : RB, r2 = ⟨lj, hj, ja, jc, outF (s.begun ++ [((f, r.bs) : FrB)])⟩ := ⟨_, rfl⟩
  obtain ⟨ls2, hls2⟩ : ∃ ls2, ls2 = m.ls ++ [(g.1.seq, r2)] := ⟨_, rfl⟩
  have hl2l : ls2.length = m.ls.length + 1 := by rw [hls2, List.length_append]; rfl
  unfold takeP
  rw [if_neg hnl, if_pos hjo]
  have hhd : (s.begun ++ [((f, r.bs) : FrB)]).head?.elim 0 (·.1.seq) = g.1.seq := by
    rw [← hpl2, List.head?_eq_getElem?, List.getElem?_map, hg]; rfl
  rw [hhd]
  obtain ⟨m3, hm3⟩ : ∃ m3 : ScM, m3 = ⟨[], ls2, none, 0, aD, cD, w15.heap.size, w15.heap.size, loA, hiA⟩ := ⟨_, rfl⟩
  refine ⟨rfl, m3.ents b ⟨s.seq + 1, f.inc, [], s.l ++ [(g.1.seq, outF (s.begun ++ [((f, r.bs) : FrB)]))], s.seq + 1⟩, ⟨m3, ⟨by rw [hm3]; rfl, ?_, ?_, ?_⟩, rfl⟩, ?_⟩
  · rw [hm3]
    show _ = ls2.map FdM.pl
    rw [hls2, List.map_append, O.l, hr2]; rfl
  · rw [hm3]; intro p hp; cases hp
  · rw [hm3]
    intro p hp
    replace hp : p ∈ ls2 := hp
    rw [hls2] at hp
    rcases List.mem_append.1 hp with h | h
    · exact O.short p h
    · rw [List.mem_singleton.1 h, hr2]; exact ho90
  · refine Mem.backA ?_
    have hr2e : r2.ent = rowE lj hj 5 1 (.slice ja (outF (s.begun ++ [((f, r.bs) : FrB)])).length jc) (outF (s.begun ++ [((f, r.bs) : FrB)])).length (bcells (outF (s.begun ++ [((f, r.bs) : FrB)]))) := by rw [hr2]; rfl
    have hrow : rowE loA hiA 67 2 (.slice aD (m.ls.length + 1) cD) (m.ls.length + 1) (fdC m.ls ++ [.int .i64 g.1.seq, r2.val]) = rowE loA hiA 67 2 (.slice aD ls2.length cD) ls2.length (fdC ls2) := by rw [hl2l, hls2, fdC_snoc]
    have M4 : Mem wc w15 (.blk b #[.int .i64 (s.seq + 1), .int .i64 f.inc, .slice none 0 0, .slice aD (m.ls.length + 1) cD, .int .i64 (s.seq + 1)] 63 :: rowE w15.heap.size w15.heap.size 59 6 (.slice none 0 0) 0 [] :: rowE loA hiA 67 2 (.slice aD (m.ls.length + 1) cD) (m.ls.length + 1) (fdC m.ls ++ [.int .i64 g.1.seq, r2.val]) :: r2.ent :: (m.ls.map (fun p => p.2.ent) ++ A)) := by
      rw [hr2e, show r2.val = .slice ja (outF (s.begun ++ [((f, r.bs) : FrB)])).length jc by rw [hr2]]
      exact M3.sub (.cons_cons _ (.cons_cons _ (.cons_cons _ (.cons_cons _ (.cons _ (by unfold ScM.rows; rw [List.append_assoc]; exact List.sublist_append_right _ _))))))
    rw [hrow, ← hl2l] at M4
    have hro : m3.rows = m.ls.map (fun p => p.2.ent) ++ [r2.ent] := by
      rw [hm3]; unfold ScM.rows
      show [] ++ ls2.map (fun p => p.2.ent) = _
      rw [hls2, List.map_append]; rfl
    have M6 : Mem wc w15 (_ :: _ :: _ :: (m3.rows ++ A)) := M4.perm (List.Perm.append_left [_, _, _] (by rw [hro]; exact perm_in _ _ _))
    rw [hm3] at M6 ⊢
    exact M6

end Go.Proofs.Ytafejnbfgkkjkaa
