/-
  Package journal: scan.
-/
import Derived.Test.YtafejnbfgkkjkaaJe
import Derived.Test.YtafejnbfgkkjkaaGX
namespace Go.Proofs.Ytafejnbfgkkjkaa
open Go.RowKit Go.Sort

theorem rd_zero {bs : List UInt8} (h : rdE bs = 0) : readF bs = some (rdF bs, rdL bs) := by
  unfold rdE at h; unfold rdF rdL
  cases hR : readF bs with
  | none => rw [hR] at h; simp at h
  | some x => rfl
theorem rd_none {bs : List UInt8} (h : ¬ rdE bs = 0) : readF bs = none := by
  unfold rdE at h
  cases hR : readF bs with
  | none => rfl
  | some x => rw [hR] at h; exact absurd rfl h
theorem rd_may {bs : List UInt8} (h : rdE bs = 0) : (rdF bs).may (rdL bs).length = true := (readF_spec (rd_zero h)).1
theorem stepP_none {s : Sc} {x : List UInt8} (h : ¬ rdE x = 0) : stepP s x = (s, false) := by unfold stepP; rw [rd_none h]
theorem stepP_bad {s : Sc} {x : List UInt8} (h : rdE x = 0) (hg : ¬ goodP s (rdF x) = true) : stepP s x = (s, false) := by unfold stepP; rw [rd_zero h]; exact if_neg hg
theorem stepP_take {s : Sc} {x : List UInt8} (h : rdE x = 0) (hg : goodP s (rdF x) = true) : stepP s x = takeP s (rdF x, rdL x) := by unfold stepP; rw [rd_zero h]; exact if_pos hg
theorem scanP_cons (s : Sc) (x : List UInt8) (t : List (List UInt8)) : scanP s (x :: t) = if (stepP s x).2 = true then scanP (stepP s x).1 t else (stepP s x).1 := by rw [scanP]
theorem takeP_len (s : Sc) (x : FrB) : (takeP s x).1.seq = s.seq + 1 ∧ (takeP s x).1.begun.length ≤ s.begun.length + 1 ∧ (takeP s x).1.l.length ≤ s.l.length + 1 := by
  unfold takeP
  split
  · exact ⟨rfl, by simp, Nat.le_succ _⟩
  · split
    · exact ⟨rfl, Nat.zero_le _, by simp⟩
    · exact ⟨rfl, by simp, Nat.le_succ _⟩
theorem perm_rt {α : Type} (P : List α) (t r : α) (B E : List α) : (P ++ t :: r :: (B ++ E)).Perm ((P ++ (E ++ B)) ++ [t, r]) := by
  rw [List.append_assoc]
  exact List.Perm.append_left _ ((List.perm_append_comm (l₁ := [t, r]) (l₂ := B ++ E)).trans (List.Perm.append_right _ List.perm_append_comm))
theorem perm_scan {α : Type} (x y f d t g s n r : α) (B : List α) : (x :: y :: f :: d :: t :: g :: s :: n :: r :: B).Perm (f :: d :: t :: g :: n :: r :: s :: x :: y :: B) :=
  ((List.perm_append_comm (l₁ := [x, y]) (l₂ := [f, d, t, g, s, n, r])).append_right B).trans ((((List.perm_append_comm (l₁ := [s]) (l₂ := [n, r])).append_right [x, y]).append_left [f, d, t, g]).append_right B)
/-- what the range of a scan keeps -/
def SfH (tail : Int) (bf bd bT bG bN bR bS b : Nat) (A E E1 : List Ent) : List Ent :=
  .blk bf #[.int .i64 tail] 3 :: .blk bd #[.pointer (some ⟨b, 0, none⟩)] 24 :: .blk bT #[.func (.func 39) #[.pointer (some ⟨bS, 0, none⟩)] #[]] 90 :: .blk bG #[.func (.func 38) #[.pointer (some ⟨bS, 0, none⟩)] #[]] 90 :: .blk bN #[.int .i64 0] 29 :: .blk bR #[.int .i64 0, .int .i64 0, .slice none 0 0, .slice none 0 0, .int .i64 0] 63 :: (E1 ++ (A ++ E))
noncomputable def sc0 (tail : Int) : Sc := ⟨tail, 0, [], [], tail⟩
noncomputable def scanOf (S : DS) (tail : Int) : Sc := scanP (sc0 tail) (secsOf S tail)
noncomputable def scanG (S : DS) (tail : Int) : Sc := scanP (sc0 tail) (secsG S tail)
theorem scanG_eq (S : DS) {tail : Int} (h : tail ≤ 4294967296) : scanG S tail = scanOf S tail := by unfold scanG scanOf; rw [secsG_eq S h]
def ScanP (wc : World) (A E : List Ent) (s : Sc) (e : Ending) (w' : World) : Prop := ∃ (sq ic : Int) (ba : Option Addr) (bn bc : Nat) (ls : List FdM) (la : Option Addr) (lc lo hi : Nat), e = .returned (.tuple #[.agg #[.int .i64 sq, .int .i64 ic, .slice ba bn bc, .slice la ls.length lc, .int .i64 s.next], .int .i64 0]) ∧ s.l = ls.map FdM.pl ∧ (∀ p ∈ ls, p.2.bs.length ≤ 90) ∧ ls.length ≤ 24 ∧ Mem wc w' (rowE lo hi 67 2 (.slice la ls.length lc) ls.length (fdC ls) :: (ls.map (fun p => p.2.ent) ++ (A ++ E)))
set_option maxHeartbeats 4000000 in
theorem scan_anyG {wc w : World} {A E : List Ent} {b : Nat} {S0 : DS} (tail : Int) (hE : DkE b S0 E) (M : Mem wc w (A ++ E)) (hup : S0.down = false) (hw : ∀ k, (S0.cache k).length ≤ 1000000) (ht : 1 ≤ tail ∧ tail ≤ 1099511627776) :
    Calls Try.prog 23 #[.pointer (some ⟨b, 0, none⟩), .int .i64 tail] w (ScanP wc A E (scanG S0 tail)) := by
  refine calls_enterM Try.func23 rfl 60 rfl rfl ?_; intro a S
  refine nxD ?_
  refine st_alloc S M rfl rfl #[.int .i64 0, .int .i64 0, .slice none 0 0, .slice none 0 0, .int .i64 0] (by kernel_rfl) ?_; clear S M a; intro a w1 bR S M hB
  refine st_alloc S M rfl rfl #[.int .i64 0] (by kernel_rfl) ?_; clear S M a; intro a w2 bN S M hB
  refine nxC ?_
  refine wp_scope_straight ?_
  refine wp_seq ?_
  refine nxD ?_
  refine st_go [1] S rfl (by kernel_rfl) ?_; clear S a; intro a S
  refine st_y S rfl rfl rfl (y_eqlPS (by kernel_rfl) S rfl) ?_; clear S a; intro a S
  refine nxC ?_
  refine st_condF S rfl ?_
  refine wp_skip ?_
  refine then_normal ?_
  refine wp_seq ?_
  refine nxD ?_
  refine st_go [1] S rfl (by kernel_rfl) ?_; clear S a; intro a S
  refine st_call (xs := [(Operand.tmp 19)]) S (enters_of Try.func35 (by decide) rfl) rfl rfl rfl (PlaceJ tail _) ?_
  rintro _ w3 ⟨rfl, hK⟩; refine ⟨_, rfl, ?_⟩; clear S a; intro a S; replace M := M.grow hK
  refine st_go [1, 1, 1, 1, 1] S rfl (by kernel_rfl) ?_; clear S a; intro a S
  refine nxC ?_
  refine wp_seq ?_
  have hpe : plE tail = 0 := by unfold plE; rw [if_pos (by omega)]
  rw [hpe] at S
  refine wp_region_lit ?_
  refine st_go [1, 1] S rfl (by kernel_rfl) ?_; clear S a; intro a S
  refine nxC ?_
  refine st_if (t := 24) S rfl ?_ ?_
  · clear S; intro h24 S
    exact absurd rfl h24
  clear S; intro h24 S
  refine st_condF S rfl ?_
  refine wp_skip ?_
  refine nxE ?_
  refine st_go [1, 1] S rfl (by kernel_rfl) ?_; clear S a; intro a S
  refine st_y S rfl rfl rfl (y_build (ps := [(0, (Operand.tmp 26)), (4, (Operand.tmp 27))]) (pl := [(0, 1), (1, 1), (2, 1), (3, 1), (4, 1)]) (z := [.int .i64 0, .int .i64 0, .slice none 0 0, .slice none 0 0, .int .i64 0]) (cs := [_, _, _, _, _]) S (by kernel_rfl) rfl (rfl)) ?_; clear S a; intro a S
  refine st_alloc S M rfl rfl #[.int .i64 0, .int .i64 0, .slice none 0 0, .slice none 0 0, .int .i64 0] (by kernel_rfl) ?_; clear S M a; intro a w4 bS S M hB
  refine st_store (sz := 5) (us := [_, _, _, _, _]) S M 0 rfl (by kernel_rfl) rfl rfl rfl rfl rfl rfl (by first | decide | (simp; done) | (simp; omega)) ?_; clear M; intro w5 M
  simp only [putL, List.set_cons_zero, List.set_cons_succ, Nat.reduceAdd] at M
  refine nxA ?_
  refine st_y S rfl rfl rfl (y_makeFunc (fs := [(Operand.tmp 8)]) (cs := []) S rfl rfl) ?_; clear S a; intro a S
  refine st_y S rfl rfl rfl (y_makeFunc (fs := [(Operand.tmp 8)]) (cs := []) S rfl rfl) ?_; clear S a; intro a S
  refine st_alloc S M rfl rfl #[.nilFunc] (by kernel_rfl) ?_; clear S M a; intro a w6 bG S M hB
  refine st_alloc S M rfl rfl #[.nilFunc] (by kernel_rfl) ?_; clear S M a; intro a w7 bT S M hB
  refine st_store (sz := 1) (us := [_]) S M 1 rfl (by kernel_rfl) rfl rfl rfl rfl rfl rfl (by first | decide | (simp; done) | (simp; omega)) ?_; clear M; intro w8 M
  simp only [putL, List.set_cons_zero, List.set_cons_succ, Nat.reduceAdd] at M
  refine st_store (sz := 1) (us := [_]) S M 0 rfl (by kernel_rfl) rfl rfl rfl rfl rfl rfl (by first | decide | (simp; done) | (simp; omega)) ?_; clear M; intro w9 M
  simp only [putL, List.set_cons_zero, List.set_cons_succ, Nat.reduceAdd] at M
  refine nxC ?_
  refine wp_seq ?_
  refine wp_label ?_
  refine then_normal ?_
  refine wp_seq ?_
  refine nxD ?_
  refine st_go [1, 1] S rfl (by kernel_rfl) ?_; clear S a; intro a S
  refine st_call (xs := [(Operand.tmp 31), (Operand.tmp 32)]) S (enters_of Try.func40 (by decide) rfl) rfl rfl rfl (sectors_any b tail _) ?_
  rintro _ w10 ⟨bf, bd, rfl, M1⟩; refine ⟨_, rfl, ?_⟩; clear S a; intro a S; replace M := M.join M1; clear M1
  simp only [List.cons_append, List.nil_append] at M
  replace S := S.sub [(0, _), (1, _), (4, _), (5, _), (16, _), (7, _), (24, _), (8, _), (9, _), (10, _), (33, _)] rfl
  refine nxC ?_
  refine wp_block ?_
  replace M : Mem wc w10 (SfH tail bf bd bT bG bN bR bS b A E (ScM.ents bS (sc0 tail) ⟨[], [], none, 0, none, 0, w10.heap.size, w10.heap.size, w10.heap.size, w10.heap.size⟩)) := by
    have M1 := (M.rowNil 67 2).rowNil 59 6
    exact M1.perm (perm_scan _ _ _ _ _ _ _ _ _ _)
  refine wp_rangeV (V := secV) (xs := secsG S0 tail) S M rfl (enters_of Try.func53 (by decide) rfl) (sectors1_gen b bf bd tail S0 hup hw ht) (fun x vs E hV => by obtain ⟨v, lo, hi, rfl, -, -⟩ := hV; rfl) (by kernel_rfl) (fun pre Hs => ∃ s E1, (∀ t, scanP (sc0 tail) (pre ++ t) = scanP s t) ∧ s.begun.length ≤ pre.length ∧ s.l.length ≤ pre.length ∧ s.seq = tail + (pre.length : Int) ∧ ScE bS s E1 ∧ Hs = SfH tail bf bd bT bG bN bR bS b A E E1) (fun c pre Hs => c = .exit 0 ∧ ∃ s E1, (∀ t, scanP (sc0 tail) (pre ++ t) = s) ∧ s.l.length ≤ pre.length ∧ ScE bS s E1 ∧ Hs = SfH tail bf bd bT bG bN bR bS b A E E1) (⟨sc0 tail, _, fun t => rfl, Nat.le_refl _, Nat.le_refl _, by simp [sc0], ⟨_, ⟨rfl, rfl, fun p hp => (by cases hp), fun p hp => (by cases hp)⟩, rfl⟩, rfl⟩) (fun pre Hs W TT hI M => by obtain ⟨s, E1, -, -, -, -, -, rfl⟩ := hI; exact ⟨⟨wc, [], E, hE, M.sub (((((List.sublist_append_right A E).trans (List.sublist_append_right E1 _)).trans (List.sublist_append_right [_, _, _, _, _, _] _))).trans (List.sublist_append_left _ _))⟩, M.blk 0 rfl, M.blk 1 rfl⟩) ?_ ?_ ?_
  · intro lY pre x tX Hs EY vs wr BT a hx hV hI M S
    obtain ⟨v, lo, hi, rfl, rfl, h64⟩ := hV
    obtain ⟨s, E1, hrun, hbl, hll, hsq, hE1, rfl⟩ := hI
    have hpl : pre.length < secN tail := by
      have e := congrArg List.length hx
      rw [secsG_len] at e
      simp at e
      omega
    have hpl24 : pre.length ≤ 24 ∧ tail + (pre.length : Int) ≤ 1099511627776 := by unfold secN at hpl; omega
    unfold SfH at M
    simp only [List.cons_append] at M
    simp only [putsL] at S
    refine wpIn_seq ?_
    refine wpI_region (by kernel_rfl) (fun _ _ h => h) ?_
    refine st_go [1] S rfl (by kernel_rfl) ?_; clear S a; intro a S
    refine nxC ?_
    refine wpI_region (by kernel_rfl) (fun _ _ h => h) ?_
    refine st_go [1] S rfl (by kernel_rfl) ?_; clear S a; intro a S
    refine nxC ?_
    refine ⟨_ :: _ :: _ :: _ :: _ :: _ :: (E1 ++ (A ++ E)), M, ?_⟩; clear M; intro wb TT M; simp only [List.cons_append, List.nil_append] at M
    refine wpIn_block ?_
    refine wpIn_seq ?_
    refine wpIn_seq ?_
    replace M := M.perm (perm_rt [_, _, _, _, _, _] _ _ _ _).symm
    simp only [List.cons_append, List.nil_append] at M
    refine wpI_region (by kernel_rfl) (fun _ _ h => h) ?_
    refine st_go [1, 1] S rfl (by kernel_rfl) ?_; clear S a; intro a S
    refine nxC ?_
    refine st_if (t := 37) S rfl ?_ ?_
    · clear S; intro h37 S
      exact absurd rfl h37
    clear S; intro h37 S
    refine stI_condF S rfl ?_
    refine wpIn_skip ?_
    refine then_normal ?_
    refine wpIn_seq ?_
    refine wpI_region (by kernel_rfl) (fun _ _ h => h) ?_
    refine st_go [1] S rfl (by kernel_rfl) ?_; clear S a; intro a S
    refine st_call (xs := [(Operand.tmp 41)]) S (enters_of Try.func41 (by decide) rfl) rfl rfl rfl (read_any v x _ (M.readAll 7 rfl (by unfold maxLen; omega)) (by omega)) ?_
    rintro _ w11 hP; obtain ⟨ad, cap, loX, hiX, rfl, hK, M2⟩ := read_uni M hP; refine ⟨_, rfl, ?_⟩; clear S M a; intro a S; have M := M2; clear M2 hP
    refine st_go [1, 1, 1] S rfl (by kernel_rfl) ?_; clear S a; intro a S
    refine st_alloc S M rfl rfl #[.int .i64 0, .int .i64 0, .int .i64 0, .int .i64 0, .int .u32 0, .slice none 0 0] (by kernel_rfl) ?_; clear S M a; intro a w12 bX S M hB
    refine st_store (sz := 6) (us := [_, _, _, _, _, _]) S M 0 rfl (by kernel_rfl) rfl rfl rfl rfl rfl rfl (by first | decide | (simp; done) | (simp; omega)) ?_; clear M; intro w13 M
    simp only [putL, List.set_cons_zero, List.set_cons_succ, Nat.reduceAdd] at M
    refine st_go [1] S rfl (by kernel_rfl) ?_; clear S a; intro a S
    refine nxC ?_
    refine wpIn_seq ?_
    refine wpI_region (by kernel_rfl) (fun _ _ h => h) ?_
    refine st_go [1, 1, 1] S rfl (by kernel_rfl) ?_; clear S a; intro a S
    refine st_if (t := 47) S rfl ?_ ?_
    · clear S; intro h47 S
      refine st_go [0, 0, 0, 0, 1, 1] S rfl (by kernel_rfl) ?_; clear S a; intro a S
      refine st_no S rfl rfl rfl ?_; clear S a; intro a S
      refine st_go [0, 0, 0, 1] S rfl (by kernel_rfl) ?_; clear S a; intro a S
      replace S := S.sub [(0, _), (1, _), (4, _), (5, _), (16, _), (7, _), (24, _), (8, _), (9, _), (10, _), (33, _), (11, _), (12, _), (37, _), (13, _), (14, _), (58, _)] rfl
      refine nxC ?_
      refine stI_condT S rfl ?_
      refine wpIn_exit ?_
      refine block_miss rfl ?_
      obtain ⟨s9, E9, hst, hl9, hE9, M5⟩ : ∃ s9 E9, stepP s x = (s9, false) ∧ s9.l.length ≤ s.l.length + 1 ∧ ScE bS s9 E9 ∧ Mem wc w13 (SfH tail bf bd bT bG bN bR bS b A E E9 ++ [TT, rowE lo hi 5 1 v x.length (bcells x)]) := by
        first
          | exact ⟨s, E1, stepP_none h47, by omega, hE1, by unfold SfH; exact ((M.drop 0).drop 0).perm (perm_rt [_, _, _, _, _, _] _ _ _ _)⟩
          | exact ⟨s, E1, stepP_bad h47 (by rw [h53]; simp), by omega, hE1, by unfold SfH; exact ((M.drop 0).drop 0).perm (perm_rt [_, _, _, _, _, _] _ _ _ _)⟩
          | exact ⟨_, E2, (stepP_take h47 h53).trans (Prod.ext rfl h58), (takeP_len _ _).2.2, hE2, by unfold SfH; exact (M.drop 0).perm (perm_rt [_, _, _, _, _, _] _ _ _ _)⟩
      refine ⟨_, M5, rfl, s9, E9, fun t => ?_, by rw [List.length_append]; simp; omega, hE9, rfl⟩
      rw [List.append_assoc, List.singleton_append, hrun, scanP_cons, hst]; rfl
    clear S; intro h47 S
    refine st_run [6] S M rfl (by kernel_rfl) ?_; clear S a; intro a S
    refine st_y S rfl rfl rfl (y_loadAgg (cs := [_, _, _, _, _, _]) S (by kernel_rfl) rfl rfl (M.cellsAt (k := 6) 0 rfl rfl)) ?_; clear S a; intro a S
    refine st_callB (xs := [(Operand.tmp 49)]) (fi := [_]) (ca := []) S (enters_of Try.func38 (by decide) rfl) rfl rfl (rfl) rfl (good_any (A := _ :: _ :: _ :: _ :: _ :: _ :: _ :: _ :: _ :: _ :: (A ++ E)) (rdF x) ad (rdL x).length cap hE1 M (by omega)) ?_
    rintro _ w14 ⟨rfl, M2⟩; refine ⟨_, rfl, ?_⟩; clear S M a; intro a S; have M := M2; clear M2
    simp only [List.cons_append, List.nil_append] at M
    refine st_go [1, 1, 1] S rfl (by kernel_rfl) ?_; clear S a; intro a S
    refine st_if (t := 53) S rfl ?_ ?_
    · clear S; intro h53 S
      refine st_no S rfl rfl rfl ?_; clear S a; intro a S
      refine st_go [0, 0, 0, 1] S rfl (by kernel_rfl) ?_; clear S a; intro a S
      replace S := S.sub [(0, _), (1, _), (4, _), (5, _), (16, _), (7, _), (24, _), (8, _), (9, _), (10, _), (33, _), (11, _), (12, _), (37, _), (13, _), (14, _), (58, _)] rfl
      refine nxC ?_
      refine stI_condT S rfl ?_
      refine wpIn_exit ?_
      refine block_miss rfl ?_
      obtain ⟨s9, E9, hst, hl9, hE9, M5⟩ : ∃ s9 E9, stepP s x = (s9, false) ∧ s9.l.length ≤ s.l.length + 1 ∧ ScE bS s9 E9 ∧ Mem wc w14 (SfH tail bf bd bT bG bN bR bS b A E E9 ++ [TT, rowE lo hi 5 1 v x.length (bcells x)]) := by
        first
          | exact ⟨s, E1, stepP_none h47, by omega, hE1, by unfold SfH; exact ((M.drop 0).drop 0).perm (perm_rt [_, _, _, _, _, _] _ _ _ _)⟩
          | exact ⟨s, E1, stepP_bad h47 (by rw [h53]; simp), by omega, hE1, by unfold SfH; exact ((M.drop 0).drop 0).perm (perm_rt [_, _, _, _, _, _] _ _ _ _)⟩
          | exact ⟨_, E2, (stepP_take h47 h53).trans (Prod.ext rfl h58), (takeP_len _ _).2.2, hE2, by unfold SfH; exact (M.drop 0).perm (perm_rt [_, _, _, _, _, _] _ _ _ _)⟩
      refine ⟨_, M5, rfl, s9, E9, fun t => ?_, by rw [List.length_append]; simp; omega, hE9, rfl⟩
      rw [List.append_assoc, List.singleton_append, hrun, scanP_cons, hst]; rfl
    clear S; intro h53 S
    skip
    replace M := M.front 1 rfl
    simp only [List.eraseIdx_cons_succ, List.eraseIdx_cons_zero] at M
    refine st_y S rfl rfl rfl (y_load S (by kernel_rfl) rfl (M.cell 4 rfl rfl)) ?_; clear S a; intro a S
    refine st_y S rfl rfl rfl (y_loadAgg (cs := [_, _, _, _, _, _]) S (by kernel_rfl) rfl rfl (M.cellsAt (k := 6) 1 rfl rfl)) ?_; clear S a; intro a S
    refine st_callB (xs := [(Operand.tmp 55)]) (fi := [_]) (ca := []) S (enters_of Try.func39 (by decide) rfl) rfl rfl (rfl) rfl (take_any (A := _ :: _ :: _ :: _ :: _ :: _ :: _ :: _ :: _ :: (A ++ E)) (rdF x) ⟨loX, hiX, ad, cap, rdL x⟩ hE1 M (by omega) (by omega) (by omega) (rd_may h47)) ?_
    rintro _ w15 ⟨rfl, E2, hE2, M2⟩; refine ⟨_, rfl, ?_⟩; clear S M a; intro a S; have M := M2; clear M2
    simp only [List.cons_append, List.nil_append] at M
    refine st_go [1, 1] S rfl (by kernel_rfl) ?_; clear S a; intro a S
    replace S := S.sub [(0, _), (1, _), (4, _), (5, _), (16, _), (7, _), (24, _), (8, _), (9, _), (10, _), (33, _), (11, _), (12, _), (37, _), (13, _), (14, _), (58, _)] rfl
    refine nxC ?_
    refine st_fi (t := 58) S rfl ?_ ?_
    · clear S; intro h58 S
      refine stI_condF S rfl ?_
      refine wpIn_skip ?_
      refine block_normal ?_
      have hst := (stepP_take h47 h53).trans (show takeP s (rdF x, rdL x) = ((takeP s (rdF x, rdL x)).1, true) from Prod.ext rfl h58)
      have hln := takeP_len s (rdF x, rdL x)
      have M5 : Mem wc w15 (SfH tail bf bd bT bG bN bR bS b A E E2 ++ [TT, rowE lo hi 5 1 v x.length (bcells x)]) := by unfold SfH; exact (M.drop 0).perm (perm_rt [_, _, _, _, _, _] _ _ _ _)
      refine ⟨_, M5, _, E2, fun t => ?_, ?_, ?_, ?_, hE2, rfl⟩
      · rw [List.append_assoc, List.singleton_append, hrun, scanP_cons, hst]; rfl
      · rw [List.length_append]; exact Nat.le_trans hln.2.1 (by simp; omega)
      · rw [List.length_append]; exact Nat.le_trans hln.2.2 (by simp; omega)
      · rw [List.length_append]; refine hln.1.trans ?_; simp; omega
    clear S; intro h58 S
    refine stI_condT S rfl ?_
    refine wpIn_exit ?_
    refine block_miss rfl ?_
    obtain ⟨s9, E9, hst, hl9, hE9, M5⟩ : ∃ s9 E9, stepP s x = (s9, false) ∧ s9.l.length ≤ s.l.length + 1 ∧ ScE bS s9 E9 ∧ Mem wc w15 (SfH tail bf bd bT bG bN bR bS b A E E9 ++ [TT, rowE lo hi 5 1 v x.length (bcells x)]) := by
      first
        | exact ⟨s, E1, stepP_none h47, by omega, hE1, by unfold SfH; exact ((M.drop 0).drop 0).perm (perm_rt [_, _, _, _, _, _] _ _ _ _)⟩
        | exact ⟨s, E1, stepP_bad h47 (by rw [h53]; simp), by omega, hE1, by unfold SfH; exact ((M.drop 0).drop 0).perm (perm_rt [_, _, _, _, _, _] _ _ _ _)⟩
        | exact ⟨_, E2, (stepP_take h47 h53).trans (Prod.ext rfl h58), (takeP_len _ _).2.2, hE2, by unfold SfH; exact (M.drop 0).perm (perm_rt [_, _, _, _, _, _] _ _ _ _)⟩
    refine ⟨_, M5, rfl, s9, E9, fun t => ?_, by rw [List.length_append]; simp; omega, hE9, rfl⟩
    rw [List.append_assoc, List.singleton_append, hrun, scanP_cons, hst]; rfl
  · intro D1 wd Hs a hI M S
    obtain ⟨s, E1, hrun, hbl, hll, hsq, hE1, rfl⟩ := hI
    have hfin : scanG S0 tail = s := by
      have := hrun []
      rw [List.append_nil] at this
      exact this
    have hll2 : s.l.length ≤ 24 := by
      rw [secsG_len] at hll; unfold secN at hll; omega
    obtain ⟨m, O, rfl⟩ := hE1
    simp only [SfH, ScM.ents, List.cons_append] at M
    refine block_normal ?_
    refine nxE ?_
    refine st_y S rfl rfl rfl (y_loadAgg (cs := [_, _, _, _, _]) S (by kernel_rfl) rfl rfl (M.cellsAt (k := 5) 7 rfl rfl)) ?_; clear S a; intro a S
    refine st_store (sz := 5) (us := [_, _, _, _, _]) S M 6 rfl (by kernel_rfl) rfl rfl rfl rfl rfl rfl (by first | decide | (simp; done) | (simp; omega)) ?_; clear M; intro w16 M
    simp only [putL, List.set_cons_zero, List.set_cons_succ, Nat.reduceAdd] at M
    refine st_store (sz := 1) (us := [_]) S M 5 rfl (by kernel_rfl) rfl rfl rfl rfl rfl rfl (by first | decide | (simp; done) | (simp; omega)) ?_; clear M; intro w17 M
    simp only [putL, List.set_cons_zero, List.set_cons_succ, Nat.reduceAdd] at M
    refine nxC ?_
    refine wp_ret ?_
    refine sc_ret ?_
    refine end_mark S M 0 rfl ?_; clear S M a; intro a wM S M
    simp only [List.eraseIdx_cons_succ, List.eraseIdx_cons_zero] at M
    refine end_plain ?_
    refine end_two S rfl (res_agg (cs := [_, _, _, _, _]) (by kernel_rfl) rfl rfl (M.cellsAt (k := 5) 5 rfl rfl)) (res_cell (by kernel_rfl) rfl (M.cell 4 rfl rfl)) ?_
    rw [hfin]
    have hlsl : s.l.length = m.ls.length := by rw [O.l, List.length_map]
    replace M := M.drop 0
    simp only [List.eraseIdx_cons_succ, List.eraseIdx_cons_zero] at M
    replace M := M.drop 0
    simp only [List.eraseIdx_cons_succ, List.eraseIdx_cons_zero] at M
    replace M := M.drop 0
    simp only [List.eraseIdx_cons_succ, List.eraseIdx_cons_zero] at M
    replace M := M.drop 0
    simp only [List.eraseIdx_cons_succ, List.eraseIdx_cons_zero] at M
    replace M := M.drop 0
    simp only [List.eraseIdx_cons_succ, List.eraseIdx_cons_zero] at M
    replace M := M.drop 0
    simp only [List.eraseIdx_cons_succ, List.eraseIdx_cons_zero] at M
    replace M := M.drop 0
    simp only [List.eraseIdx_cons_succ, List.eraseIdx_cons_zero] at M
    replace M := M.drop 0
    simp only [List.eraseIdx_cons_succ, List.eraseIdx_cons_zero] at M
    exact ⟨_, _, _, _, _, m.ls, m.la, m.lc, m.lo2, m.hi2, rfl, O.l, O.short, by omega, M.sub (.cons_cons _ (by unfold ScM.rows; rw [List.append_assoc]; exact List.sublist_append_right _ _))⟩
  intro D1 wd Hs a cX pre x tX hx hX M S
  obtain ⟨rfl, s, E1, hrun, hll, hE1, rfl⟩ := hX
  have hfin : scanG S0 tail = s := by
    have := hrun tX
    rw [List.append_assoc, List.singleton_append, ← hx] at this
    exact this
  have hll2 : s.l.length ≤ 24 := by
    have e := congrArg List.length hx
    rw [secsG_len] at e
    simp at e hll
    unfold secN at e
    omega
  obtain ⟨m, O, rfl⟩ := hE1
  simp only [SfH, ScM.ents, List.cons_append] at M
  refine wp_exit ?_
  refine block_hit ?_
  refine nxE ?_
  refine st_y S rfl rfl rfl (y_loadAgg (cs := [_, _, _, _, _]) S (by kernel_rfl) rfl rfl (M.cellsAt (k := 5) 7 rfl rfl)) ?_; clear S a; intro a S
  refine st_store (sz := 5) (us := [_, _, _, _, _]) S M 6 rfl (by kernel_rfl) rfl rfl rfl rfl rfl rfl (by first | decide | (simp; done) | (simp; omega)) ?_; clear M; intro w18 M
  simp only [putL, List.set_cons_zero, List.set_cons_succ, Nat.reduceAdd] at M
  refine st_store (sz := 1) (us := [_]) S M 5 rfl (by kernel_rfl) rfl rfl rfl rfl rfl rfl (by first | decide | (simp; done) | (simp; omega)) ?_; clear M; intro w19 M
  simp only [putL, List.set_cons_zero, List.set_cons_succ, Nat.reduceAdd] at M
  refine nxC ?_
  refine wp_ret ?_
  refine sc_ret ?_
  refine end_mark S M 0 rfl ?_; clear S M a; intro a wM S M
  simp only [List.eraseIdx_cons_succ, List.eraseIdx_cons_zero] at M
  refine end_plain ?_
  refine end_two S rfl (res_agg (cs := [_, _, _, _, _]) (by kernel_rfl) rfl rfl (M.cellsAt (k := 5) 5 rfl rfl)) (res_cell (by kernel_rfl) rfl (M.cell 4 rfl rfl)) ?_
  rw [hfin]
  have hlsl : s.l.length = m.ls.length := by rw [O.l, List.length_map]
  replace M := M.drop 0
  simp only [List.eraseIdx_cons_succ, List.eraseIdx_cons_zero] at M
  replace M := M.drop 0
  simp only [List.eraseIdx_cons_succ, List.eraseIdx_cons_zero] at M
  replace M := M.drop 0
  simp only [List.eraseIdx_cons_succ, List.eraseIdx_cons_zero] at M
  replace M := M.drop 0
  simp only [List.eraseIdx_cons_succ, List.eraseIdx_cons_zero] at M
  replace M := M.drop 0
  simp only [List.eraseIdx_cons_succ, List.eraseIdx_cons_zero] at M
  replace M := M.drop 0
  simp only [List.eraseIdx_cons_succ, List.eraseIdx_cons_zero] at M
  replace M := M.drop 0
  simp only [List.eraseIdx_cons_succ, List.eraseIdx_cons_zero] at M
  replace M := M.drop 0
  simp only [List.eraseIdx_cons_succ, List.eraseIdx_cons_zero] at M
  exact ⟨_, _, _, _, _, m.ls, m.la, m.lc, m.lo2, m.hi2, rfl, O.l, O.short, by omega, M.sub (.cons_cons _ (by unfold ScM.rows; rw [List.append_assoc]; exact List.sublist_append_right _ _))⟩
theorem scan_any {wc w : World} {A E : List Ent} {b : Nat} {S0 : DS} (tail : Int) (hE : DkE b S0 E) (M : Mem wc w (A ++ E)) (hup : S0.down = false) (hw : ∀ k, (S0.cache k).length ≤ 1000000) (ht : 1 ≤ tail ∧ tail ≤ 4294967296) :
    Calls Try.prog 23 #[.pointer (some ⟨b, 0, none⟩), .int .i64 tail] w (ScanP wc A E (scanOf S0 tail)) := by
  have h := scan_anyG tail hE M hup hw (by omega)
  rwa [scanG_eq S0 ht.2] at h

end Go.Proofs.Ytafejnbfgkkjkaa
