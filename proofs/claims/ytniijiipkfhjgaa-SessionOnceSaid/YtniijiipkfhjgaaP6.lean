/-
  What SessionOnce rests on, part 6.
-/
import Derived.Test.YtniijiipkfhjgaaP5
namespace Go.Proofs.Ytniijiipkfhjgaa
open Go.RowKit Go.Sort
/-- where one alone is open: it waits not for this answer to its exec -/
def Ses.NoHear (s : Ses) (m : Msg) : Prop := ∀ o, s.l = [o] → o.nm = m.name → m.kind = 3 → o.ph = 1 → m.frm = o.at_ → m.n ≠ o.ex.n
/-- what comes of a message -/
def HearR (s : Ses) (of : Of8) (m : Msg) (s' : Ses) (t' : Tol) : Prop :=
  (s' = s ∧ t' = Tol.none ∧ s.NoHear m) ∨ ∃ (i : Nat) (o : Ope) (D' : Dsk), s.l[i]? = some o ∧ o.nm = m.name ∧ s' = D'.s ∧ t' = D'.t ∧
    ((m.kind = 3 ∧ o.ph = 1 ∧ m.frm = o.at_ ∧ m.n = o.ex.n ∧ D' = Dsk.did ⟨s, Tol.none, of⟩ i o m) ∨ (m.kind = 10 ∧ o.ph = 2 ∧ m.frm = o.at_ ∧ D' = Dsk.ended ⟨s, Tol.none, of⟩ i o 3 m.e m.e true))
theorem FirstP.get {α : Type} {l : List α} {p : α → Bool} {j : Int} (h : FirstP l p j) (h0 : 0 ≤ j) : ∃ (k : Nat) (q : α), j = (k : Int) ∧ l[k]? = some q ∧ p q = true := by
  rcases h with ⟨k, q, h1, h2, h3, -⟩ | ⟨h1, -⟩
  · exact ⟨k, q, h1, h2, h3⟩
  · omega
set_option maxHeartbeats 4000000 in
theorem hear_any {wo w : World} {A : List Ent} (s : Ses) (va oa : Option Addr) (vc oc : Nat) (m : Msg) (wa : Option Addr) (wc : Nat) (x : List Wr) (of : Of8) (hR : RdS wo A s va vc oa oc) (M : Mem wo w A) (hov : s.over.length ≤ 500) (hsh : ∀ o ∈ s.l, ShOk o.sh) (hW : ∀ w, Mem wo w A → Ws 0 w.heap.size w (.slice wa x.length wc) x) :
    Calls Try.prog 10 #[.agg #[.slice va s.l.length vc, .int .i64 s.last, .int .i64 s.inc, .slice oa s.over.length oc], .agg (msgW m (.slice wa x.length wc)).toArray, .agg of.cellsL.toArray] w fun e w' => StepN wo A e w' (¬ (s.May ∧ m.may x = true)) fun s' t' => s.May ∧ m.may x = true ∧ HearR s of m s' t' := by
  refine calls_enter Try.func10 rfl 104 rfl rfl ?_; intro a S
  refine nxD ?_
  refine st_box S M rfl rfl rfl #[_, _, _, _] rfl ?_; clear S M a; intro a w1 bS0 S M hB
  refine st_box S M rfl rfl rfl #[_, _, _, _, _, _, _, _, _, _, _, _, _, _, _, _, _, _, _, _, _, _, _, _] rfl ?_; clear S M a; intro a w2 bC0 S M hB
  refine st_box S M rfl rfl rfl #[_, _, _, _, _, _, _, _] rfl ?_; clear S M a; intro a w3 bF0 S M hB
  refine st_alloc S M rfl rfl #[.slice none 0 0, .int .i64 0, .int .i64 0, .slice none 0 0] (by kernel_rfl) ?_; clear S M a; intro a w4 bR0 S M hB
  refine st_alloc S M rfl rfl #[.slice none 0 0, .slice none 0 0, .slice none 0 0, .slice none 0 0, .slice none 0 0] (by kernel_rfl) ?_; clear S M a; intro a w5 bT0 S M hB
  refine st_go [1] S rfl (by kernel_rfl) ?_; clear S a; intro a S
  refine nxC ?_
  refine wp_seq ?_
  refine nxD ?_
  refine st_y S rfl rfl rfl (y_loadAgg (cs := [_, _, _, _]) S (by kernel_rfl) rfl rfl (M.cellsAt (k := 4) 4 rfl rfl)) ?_; clear S a; intro a S
  refine st_call (xs := [(Operand.tmp 12)]) S (enters_of Try.func16 (by decide) rfl) rfl rfl rfl (check_any s va oa vc oc _ (hR _ (M.sub (.cons _ (.cons _ (.cons _ (.cons _ (.cons _ (List.Sublist.refl _)))))))).1 (hR _ (M.sub (.cons _ (.cons _ (.cons _ (.cons _ (.cons _ (List.Sublist.refl _)))))))).2 hsh) ?_
  rintro _ w6 ⟨r, rfl, hK, hr⟩; refine ⟨_, rfl, ?_⟩; clear S a; intro a S; replace M := M.grow hK
  refine st_go [1, 1] S rfl (by kernel_rfl) ?_; clear S a; intro a S
  refine st_if (t := 15) S rfl ?_ ?_
  · clear S; intro h15 S
    refine st_go [0, 0, 0, 1] S rfl (by kernel_rfl) ?_; clear S a; intro a S
    refine nxC ?_
    refine st_condT S rfl ?_
    refine nxD ?_
    refine st_y S rfl rfl rfl (y_build (ps := []) (pl := [(0, 1), (1, 1), (2, 1), (3, 1)]) (z := [.slice none 0 0, .int .i64 0, .int .i64 0, .slice none 0 0]) (cs := [_, _, _, _]) S (by kernel_rfl) rfl (rfl)) ?_; clear S a; intro a S
    refine st_y S rfl rfl rfl (y_build (ps := []) (pl := [(0, 1), (1, 1), (2, 1), (3, 1), (4, 1)]) (z := [.slice none 0 0, .slice none 0 0, .slice none 0 0, .slice none 0 0, .slice none 0 0]) (cs := [_, _, _, _, _]) S (by kernel_rfl) rfl (rfl)) ?_; clear S a; intro a S
    refine st_store (sz := 4) (us := [_, _, _, _]) S M 1 rfl (by kernel_rfl) rfl rfl rfl rfl rfl rfl (by first | decide | (simp; done) | (simp; omega)) ?_; clear M; intro w7 M
    simp only [putL, List.set_cons_zero, List.set_cons_succ, Nat.reduceAdd] at M
    refine st_store (sz := 5) (us := [_, _, _, _, _]) S M 0 rfl (by kernel_rfl) rfl rfl rfl rfl rfl rfl (by first | decide | (simp; done) | (simp; omega)) ?_; clear M; intro w8 M
    simp only [putL, List.set_cons_zero, List.set_cons_succ, Nat.reduceAdd] at M
    refine st_go [1] S rfl (by kernel_rfl) ?_; clear S a; intro a S
    refine nxC ?_
    refine wp_ret ?_
    refine then_ret ?_
    refine end_three S rfl (res_agg (cs := [_, _, _, _]) (by kernel_rfl) rfl rfl (M.cellsAt (k := 4) 1 rfl rfl)) (res_agg (cs := [_, _, _, _, _]) (by kernel_rfl) rfl rfl (M.cellsAt (k := 5) 0 rfl rfl)) (res_tmp rfl) ?_
    obtain ⟨lo, hi, M2⟩ := nilSes (M.drop 0 |>.drop 0 |>.drop 0 |>.drop 0 |>.drop 0)
    have hNo : ¬ (s.May ∧ m.may x = true) := by
      rintro ⟨h5, h6⟩
      rcases hr with ⟨h1, h2⟩ | ⟨h1, h2⟩
      · first | omega | simp_all
      · exact h2 h5
    exact ⟨Ses.none, Tol.none, 2, _, _, _, _, _, _, _, rfl, M2, fun h => absurd h (by decide), fun _ => hNo⟩
  clear S; intro h15 S
  refine st_y S rfl rfl rfl (y_loadAgg (cs := [_, _, _, _, _, _, _, _, _, _, _, _, _, _, _, _, _, _, _, _, _, _, _, _]) S (by kernel_rfl) rfl rfl (M.cellsAt (k := 24) 3 rfl rfl)) ?_; clear S a; intro a S
  refine st_call (xs := [(Operand.tmp 16)]) S (enters_of Try.func21 (by decide) rfl) rfl rfl rfl (mayM_any m wa x.length wc x _ (hW _ (M.sub (.cons _ (.cons _ (.cons _ (.cons _ (.cons _ (List.Sublist.refl _))))))))) ?_
  rintro _ w9 ⟨rfl, hK⟩; refine ⟨_, rfl, ?_⟩; clear S a; intro a S; replace M := M.grow hK
  refine st_go [1, 1] S rfl (by kernel_rfl) ?_; clear S a; intro a S
  refine nxC ?_
  refine st_if (t := 19) S rfl ?_ ?_
  · clear S; intro h19 S
    refine st_condT S rfl ?_
    refine nxD ?_
    refine st_y S rfl rfl rfl (y_build (ps := []) (pl := [(0, 1), (1, 1), (2, 1), (3, 1)]) (z := [.slice none 0 0, .int .i64 0, .int .i64 0, .slice none 0 0]) (cs := [_, _, _, _]) S (by kernel_rfl) rfl (rfl)) ?_; clear S a; intro a S
    refine st_y S rfl rfl rfl (y_build (ps := []) (pl := [(0, 1), (1, 1), (2, 1), (3, 1), (4, 1)]) (z := [.slice none 0 0, .slice none 0 0, .slice none 0 0, .slice none 0 0, .slice none 0 0]) (cs := [_, _, _, _, _]) S (by kernel_rfl) rfl (rfl)) ?_; clear S a; intro a S
    refine st_store (sz := 4) (us := [_, _, _, _]) S M 1 rfl (by kernel_rfl) rfl rfl rfl rfl rfl rfl (by first | decide | (simp; done) | (simp; omega)) ?_; clear M; intro w10 M
    simp only [putL, List.set_cons_zero, List.set_cons_succ, Nat.reduceAdd] at M
    refine st_store (sz := 5) (us := [_, _, _, _, _]) S M 0 rfl (by kernel_rfl) rfl rfl rfl rfl rfl rfl (by first | decide | (simp; done) | (simp; omega)) ?_; clear M; intro w11 M
    simp only [putL, List.set_cons_zero, List.set_cons_succ, Nat.reduceAdd] at M
    refine st_go [1] S rfl (by kernel_rfl) ?_; clear S a; intro a S
    refine nxC ?_
    refine wp_ret ?_
    refine then_ret ?_
    refine end_three S rfl (res_agg (cs := [_, _, _, _]) (by kernel_rfl) rfl rfl (M.cellsAt (k := 4) 1 rfl rfl)) (res_agg (cs := [_, _, _, _, _]) (by kernel_rfl) rfl rfl (M.cellsAt (k := 5) 0 rfl rfl)) (res_tmp rfl) ?_
    obtain ⟨lo, hi, M2⟩ := nilSes (M.drop 0 |>.drop 0 |>.drop 0 |>.drop 0 |>.drop 0)
    have hNo : ¬ (s.May ∧ m.may x = true) := by
      rintro ⟨h5, h6⟩
      rcases hr with ⟨h1, h2⟩ | ⟨h1, h2⟩
      · first | omega | simp_all
      · exact h2 h5
    exact ⟨Ses.none, Tol.none, 2, _, _, _, _, _, _, _, rfl, M2, fun h => absurd h (by decide), fun _ => hNo⟩
  clear S; intro h19 S
  refine st_condF S rfl ?_
  refine wp_skip ?_
  refine then_normal ?_
  refine wp_seq ?_
  have hm : s.May := by
    rcases hr with ⟨-, h⟩ | ⟨h, -⟩
    · exact h
    · omega
  have hml := hm.len
  refine wp_regionKC (C := fun W => CellsAt W bF0 0 of.cellsL) [1] #[false, false, false, false, false, false] rfl M (by kernel_rfl) ?_; clear M; intro w12 M; have hC := M.cellsAt (o := 0) (k := 8) 2 rfl rfl
  refine kc_read 0 S rfl hC (fun w hW => have M := M.grow hW; y_loadAgg (cs := [_, _, _, _]) S (by kernel_rfl) rfl rfl (M.cellsAt (k := 4) 4 rfl rfl)) ?_; clear S a; intro a S
  refine kc_readC 2 S rfl hC (fun w hC => y_loadAgg (cs := [_, _, _, _, _, _, _, _]) S (by kernel_rfl) rfl rfl (hC)) ?_; clear S a; intro a S
  refine kc_one 1 rfl (by kernel_rfl) ?_
  refine st_call (xs := [(Operand.tmp 22)]) S (enters_of Try.func18 (by decide) rfl) rfl rfl rfl (copied_any (A := _ :: _ :: _ :: _ :: _ :: A) s va oa vc oc (fun W M9 => hR W (M9.sub (.cons _ (.cons _ (.cons _ (.cons _ (.cons _ (List.Sublist.refl _)))))))) M (by omega) hov) ?_
  rintro _ w13 ⟨rl, ro, rfl, M1⟩; refine ⟨_, rfl, ?_⟩; clear S M a; intro a S; have M := M1; clear M1
  replace hC := M.cellsAt (o := 0) (k := 8) 4 rfl rfl
  refine wpList_nil ?_; refine then_normal ?_; refine ⟨fun h => absurd h (by decide), hC, ?_⟩
  refine kc_readC 3 S rfl hC (fun w _ => y_build (ps := [(0, (Operand.tmp 23)), (2, (Operand.tmp 24))]) (pl := [(0, 4), (4, 5), (9, 8)]) (z := [.slice none 0 0, .int .i64 0, .int .i64 0, .slice none 0 0, .slice none 0 0, .slice none 0 0, .slice none 0 0, .slice none 0 0, .slice none 0 0, .int .i64 0, .int .i64 0, .int .i64 0, .int .i64 0, .int .i64 0, .int .i64 0, .int .i64 0, .int .i64 0]) (cs := [_, _, _, _, _, _, _, _, _, _, _, _, _, _, _, _, _]) S (by kernel_rfl) rfl (rfl)) ?_; clear S a; intro a S
  refine kc_one 4 rfl (by kernel_rfl) ?_
  refine st_box S M rfl rfl rfl #[_, _, _, _, _, _, _, _, _, _, _, _, _, _, _, _, _] rfl ?_; clear S M a; intro a w14 bB S M hB
  replace hC := M.cellsAt (o := 0) (k := 8) 5 rfl rfl
  refine wpList_nil ?_; refine then_normal ?_; refine ⟨fun _ => hB, hC, ?_⟩
  refine kc_readC 5 S rfl hC (fun w _ => y_assign S rfl) ?_; clear S a; intro a S
  refine kc_end (by kernel_rfl) ?_
  refine then_normal ?_
  refine wp_cut (fun a w' => ∃ (D' : Dsk) (E2 : List Ent), HearR s of m D'.s D'.t ∧ DeskE bB D' E2 ∧ Sees 104 a [(6, .pointer (some ⟨bR0, 0, none⟩)), (7, .pointer (some ⟨bT0, 0, none⟩)), (9, .pointer (some ⟨bB, 0, none⟩))] ∧ Mem wo w' (.blk bT0 (tolL Tol.none ⟨none, 0, 0, 0⟩ ⟨none, 0, 0, 0⟩ ⟨none, 0, 0, 0⟩ ⟨none, 0, 0, 0⟩ ⟨none, 0, 0, 0⟩).toArray 54 :: .blk bR0 (sesL Ses.none ⟨none, 0, 0, 0⟩ ⟨none, 0, 0, 0⟩).toArray 29 :: (A ++ E2))) ?_ ?_
  · skip
    refine wp_seq ?_
    skip
    refine wp_regionK [] #[false, false, false, false, false, false, false, false] rfl M (by kernel_rfl) ?_; clear M; intro w15 M
    refine k_pure 0 S rfl (fun w => y_move S rfl) ?_; clear S a; intro a S
    refine k_pure 1 S rfl (fun w => y_nilCheck S rfl) ?_; clear S a; intro a S
    refine k_pure 2 S rfl (fun w => y_fieldAddr (k := 0) S (by kernel_rfl) rfl) ?_; clear S a; intro a S
    refine k_read 3 S rfl (fun w hW => have M := M.grow hW; y_loadAgg (cs := [_, _, _, _]) S (by kernel_rfl) rfl rfl (M.cellsAt (k := 4) 0 rfl rfl)) ?_; clear S a; intro a S
    refine k_pure 4 S rfl (fun w => y_fieldAddr (k := 5) S (by kernel_rfl) rfl) ?_; clear S a; intro a S
    refine k_read 5 S rfl (fun w hW => have M := M.grow hW; y_loadAgg (cs := [_, _, _]) S (by kernel_rfl) rfl rfl (M.cellsAt (k := 3) 6 rfl rfl)) ?_; clear S a; intro a S
    refine k_one 6 rfl (by kernel_rfl) ?_
    refine st_call (xs := [(Operand.tmp 30), (Operand.tmp 32)]) S (enters_of Try.func22 (by decide) rfl) rfl rfl rfl (place_any rl.a rl.c s.l s.last s.inc (ro.v s.over.length) m.name _ (M.readAll 1 rfl (by unfold maxLen; omega))) ?_
    rintro _ w16 ⟨j, rfl, hK, hF⟩; refine ⟨_, rfl, ?_⟩; clear S a; intro a S; replace M := M.grow hK
    refine wpList_nil ?_; refine then_normal ?_; refine ⟨fun _ => hK, ?_⟩
    refine k_pure 7 S rfl (fun w => y_assign S rfl) ?_; clear S a; intro a S
    refine k_end (by kernel_rfl) ?_
    replace S := S.sub [(0, _), (1, _), (2, _), (3, _), (4, _), (5, _), (6, _), (7, _), (8, _), (19, _), (9, _), (10, _)] rfl
    refine nxE ?_
    refine st_go [1, 1] S rfl (by kernel_rfl) ?_; clear S a; intro a S
    refine nxC ?_
    refine st_fi (t := 35) S rfl ?_ ?_
    · clear S; intro h35 S
      refine st_condF S rfl ?_
      refine wp_skip ?_
      refine then_normal ?_
      first
        | exact ⟨_, E2, .inr ⟨i, o, _, hio, Nm.eqb_iff.1 hnm, rfl, rfl, .inl ⟨by omega, by omega, by omega, by omega, rfl⟩⟩, hEd, S.sub _ rfl, (((M.drop 0).drop 2).drop 2).drop 2⟩
        | exact ⟨_, E2, .inr ⟨i, o, _, hio, Nm.eqb_iff.1 hnm, rfl, rfl, .inr ⟨by omega, by omega, by omega, rfl⟩⟩, hEe, S.sub _ rfl, (((M.drop 0).drop 2).drop 2).drop 2⟩
        | (have hNo : s.NoHear m := fun o9 h9 e1 e2 e3 e4 e5 => by
             have ho9 := hio
             rw [h9, show i = 0 by rw [h9] at hil; simpa using hil] at ho9
             obtain rfl := Option.some.inj ho9
             omega
           obtain ⟨lo, hi, M2⟩ := nilTol ((((M.drop 0).drop 5).drop 5).drop 5)
           obtain ⟨E1, hE1, M3⟩ := Dsk.close (b := bB) (D := ⟨s, Tol.none, of⟩) rl ro ⟨none, 0, lo, hi⟩ ⟨none, 0, lo, hi⟩ ⟨none, 0, lo, hi⟩ ⟨none, 0, lo, hi⟩ ⟨none, 0, lo, hi⟩ (M2.perm (List.perm_append_comm_assoc (tolE Tol.none _ _ _ _ _) [_, _, _] _))
           exact ⟨_, E1, .inl ⟨rfl, rfl, hNo⟩, hE1, S.sub _ rfl, M3⟩)
        | (have hNo : s.NoHear m := fun o9 h9 e1 e2 e3 e4 e5 => by
             rcases hF with ⟨k, q, h1, -⟩ | ⟨-, h2⟩
             · omega
             · have this : o9.nm.eqb m.name = false := h2 o9 (by rw [h9]; simp)
               rw [Nm.eqb_iff.2 e1] at this; exact absurd this (by decide)
           obtain ⟨lo, hi, M2⟩ := nilTol (((M.drop 5).drop 5).drop 5)
           obtain ⟨E1, hE1, M3⟩ := Dsk.close (b := bB) (D := ⟨s, Tol.none, of⟩) rl ro ⟨none, 0, lo, hi⟩ ⟨none, 0, lo, hi⟩ ⟨none, 0, lo, hi⟩ ⟨none, 0, lo, hi⟩ ⟨none, 0, lo, hi⟩ (M2.perm (List.perm_append_comm_assoc (tolE Tol.none _ _ _ _ _) [_, _, _] _))
           exact ⟨_, E1, .inl ⟨rfl, rfl, hNo⟩, hE1, S.sub _ rfl, M3⟩)
    clear S; intro h35 S
    refine st_condT S rfl ?_
    refine wp_seq ?_
    obtain ⟨i, o, rfl, hio, hnm⟩ := hF.get (by omega)
    obtain ⟨hil, -⟩ := List.getElem?_eq_some_iff.1 hio
    refine wp_region_lit ?_
    refine st_run [1, 1, 1, 1, 1, 1] S M rfl (by kernel_rfl) ?_; clear S a; intro a S
    refine st_y S rfl rfl rfl (y_indexR (e := 65) (sz := 37) S (by kernel_rfl) rfl (M.readAll 1 rfl (by unfold maxLen; omega)) rfl (by first | omega | (simp; done) | (simp; omega))) ?_; clear S a; intro a S
    try simp only [Int.toNat_natCast, Nat.mul_one, Nat.zero_add] at S
    refine st_y S rfl rfl rfl (y_loadAgg S (by kernel_rfl) rfl rfl ((M.readAll 1 rfl (by unfold maxLen; omega)).at_.row (i := i) (fm_get len_ope hio) rfl)) ?_; clear S a; intro a S
    refine st_alloc S M rfl rfl #[.int .i64 0, .int .i64 0, .int .i64 0, .int .i64 0, .int .i64 0, .int .i8 0, .int .i64 0, .int .i64 0, .int .i64 0, .int .i64 0, .int .i64 0, .int .i64 0, .int .i64 0, .int .i8 0, .int .i64 0, .int .i64 0, .int .i64 0, .int .i64 0, .int .i64 0, .int .i64 0, .int .i64 0, .int .i64 0, .int .i8 0, .int .i64 0, .int .u8 0, .int .u8 0, .int .u8 0, .int .u8 0, .int .u8 0, .int .u8 0, .int .u8 0, .int .u8 0, .int .i64 0, .bool false, .int .i64 0, .int .i64 0, .slice none 0 0] (by kernel_rfl) ?_; clear S M a; intro a w17 bX S M hB
    refine st_store (sz := 37) (us := [_, _, _, _, _, _, _, _, _, _, _, _, _, _, _, _, _, _, _, _, _, _, _, _, _, _, _, _, _, _, _, _, _, _, _, _, _]) S M 0 rfl (by kernel_rfl) rfl rfl rfl rfl rfl rfl (by first | decide | (simp; done) | (simp; omega)) ?_; clear M; intro w18 M
    simp only [putL, List.set_cons_zero, List.set_cons_succ, Nat.reduceAdd] at M
    refine nxC ?_
    refine wp_block ?_
    refine nxD ?_
    refine st_run [1, 8, 1, 1] S M rfl (by kernel_rfl) ?_; clear S a; intro a S
    refine st_fi (t := 48) S rfl ?_ ?_
    · clear S; intro h48 S
      refine st_go [0, 0, 0, 1, 1, 0, 0, 0, 0, 0, 1, 1, 0, 0, 0, 0, 0, 0, 1, 1] S rfl (by kernel_rfl) ?_; clear S a; intro a S
      replace S := S.sub [(0, _), (1, _), (2, _), (3, _), (4, _), (5, _), (6, _), (7, _), (8, _), (19, _), (9, _), (10, _), (35, _), (11, _), (44, _)] rfl
      refine nxC ?_
      refine st_condF S rfl ?_
      refine nxD ?_
      refine st_run [1, 8, 1, 1] S M rfl (by kernel_rfl) ?_; clear S a; intro a S
      refine st_fi (t := 76) S rfl ?_ ?_
      · clear S; intro h76 S
        refine st_go [0, 0, 0, 1, 1, 0, 0, 0, 0, 0, 1, 1] S rfl (by kernel_rfl) ?_; clear S a; intro a S
        replace S := S.sub [(0, _), (1, _), (2, _), (3, _), (4, _), (5, _), (6, _), (7, _), (8, _), (19, _), (9, _), (10, _), (35, _), (11, _), (44, _), (72, _)] rfl
        refine nxC ?_
        refine st_condF S rfl ?_
        refine wp_skip ?_
        refine block_normal ?_
        refine then_normal ?_
        first
          | exact ⟨_, E2, .inr ⟨i, o, _, hio, Nm.eqb_iff.1 hnm, rfl, rfl, .inl ⟨by omega, by omega, by omega, by omega, rfl⟩⟩, hEd, S.sub _ rfl, (((M.drop 0).drop 2).drop 2).drop 2⟩
          | exact ⟨_, E2, .inr ⟨i, o, _, hio, Nm.eqb_iff.1 hnm, rfl, rfl, .inr ⟨by omega, by omega, by omega, rfl⟩⟩, hEe, S.sub _ rfl, (((M.drop 0).drop 2).drop 2).drop 2⟩
          | (have hNo : s.NoHear m := fun o9 h9 e1 e2 e3 e4 e5 => by
               have ho9 := hio
               rw [h9, show i = 0 by rw [h9] at hil; simpa using hil] at ho9
               obtain rfl := Option.some.inj ho9
               omega
             obtain ⟨lo, hi, M2⟩ := nilTol ((((M.drop 0).drop 5).drop 5).drop 5)
             obtain ⟨E1, hE1, M3⟩ := Dsk.close (b := bB) (D := ⟨s, Tol.none, of⟩) rl ro ⟨none, 0, lo, hi⟩ ⟨none, 0, lo, hi⟩ ⟨none, 0, lo, hi⟩ ⟨none, 0, lo, hi⟩ ⟨none, 0, lo, hi⟩ (M2.perm (List.perm_append_comm_assoc (tolE Tol.none _ _ _ _ _) [_, _, _] _))
             exact ⟨_, E1, .inl ⟨rfl, rfl, hNo⟩, hE1, S.sub _ rfl, M3⟩)
          | (have hNo : s.NoHear m := fun o9 h9 e1 e2 e3 e4 e5 => by
               rcases hF with ⟨k, q, h1, -⟩ | ⟨-, h2⟩
               · omega
               · have this : o9.nm.eqb m.name = false := h2 o9 (by rw [h9]; simp)
                 rw [Nm.eqb_iff.2 e1] at this; exact absurd this (by decide)
             obtain ⟨lo, hi, M2⟩ := nilTol (((M.drop 5).drop 5).drop 5)
             obtain ⟨E1, hE1, M3⟩ := Dsk.close (b := bB) (D := ⟨s, Tol.none, of⟩) rl ro ⟨none, 0, lo, hi⟩ ⟨none, 0, lo, hi⟩ ⟨none, 0, lo, hi⟩ ⟨none, 0, lo, hi⟩ ⟨none, 0, lo, hi⟩ (M2.perm (List.perm_append_comm_assoc (tolE Tol.none _ _ _ _ _) [_, _, _] _))
             exact ⟨_, E1, .inl ⟨rfl, rfl, hNo⟩, hE1, S.sub _ rfl, M3⟩)
      clear S; intro h76 S
      refine st_run [6, 1, 1, 1, 1] S M rfl (by kernel_rfl) ?_; clear S a; intro a S
      refine st_fi (t := 81) S rfl ?_ ?_
      · clear S; intro h81 S
        refine st_go [0, 0, 0, 0, 0, 1, 1] S rfl (by kernel_rfl) ?_; clear S a; intro a S
        replace S := S.sub [(0, _), (1, _), (2, _), (3, _), (4, _), (5, _), (6, _), (7, _), (8, _), (19, _), (9, _), (10, _), (35, _), (11, _), (44, _), (72, _)] rfl
        refine nxC ?_
        refine st_condF S rfl ?_
        refine wp_skip ?_
        refine block_normal ?_
        refine then_normal ?_
        first
          | exact ⟨_, E2, .inr ⟨i, o, _, hio, Nm.eqb_iff.1 hnm, rfl, rfl, .inl ⟨by omega, by omega, by omega, by omega, rfl⟩⟩, hEd, S.sub _ rfl, (((M.drop 0).drop 2).drop 2).drop 2⟩
          | exact ⟨_, E2, .inr ⟨i, o, _, hio, Nm.eqb_iff.1 hnm, rfl, rfl, .inr ⟨by omega, by omega, by omega, rfl⟩⟩, hEe, S.sub _ rfl, (((M.drop 0).drop 2).drop 2).drop 2⟩
          | (have hNo : s.NoHear m := fun o9 h9 e1 e2 e3 e4 e5 => by
               have ho9 := hio
               rw [h9, show i = 0 by rw [h9] at hil; simpa using hil] at ho9
               obtain rfl := Option.some.inj ho9
               omega
             obtain ⟨lo, hi, M2⟩ := nilTol ((((M.drop 0).drop 5).drop 5).drop 5)
             obtain ⟨E1, hE1, M3⟩ := Dsk.close (b := bB) (D := ⟨s, Tol.none, of⟩) rl ro ⟨none, 0, lo, hi⟩ ⟨none, 0, lo, hi⟩ ⟨none, 0, lo, hi⟩ ⟨none, 0, lo, hi⟩ ⟨none, 0, lo, hi⟩ (M2.perm (List.perm_append_comm_assoc (tolE Tol.none _ _ _ _ _) [_, _, _] _))
             exact ⟨_, E1, .inl ⟨rfl, rfl, hNo⟩, hE1, S.sub _ rfl, M3⟩)
          | (have hNo : s.NoHear m := fun o9 h9 e1 e2 e3 e4 e5 => by
               rcases hF with ⟨k, q, h1, -⟩ | ⟨-, h2⟩
               · omega
               · have this : o9.nm.eqb m.name = false := h2 o9 (by rw [h9]; simp)
                 rw [Nm.eqb_iff.2 e1] at this; exact absurd this (by decide)
             obtain ⟨lo, hi, M2⟩ := nilTol (((M.drop 5).drop 5).drop 5)
             obtain ⟨E1, hE1, M3⟩ := Dsk.close (b := bB) (D := ⟨s, Tol.none, of⟩) rl ro ⟨none, 0, lo, hi⟩ ⟨none, 0, lo, hi⟩ ⟨none, 0, lo, hi⟩ ⟨none, 0, lo, hi⟩ ⟨none, 0, lo, hi⟩ (M2.perm (List.perm_append_comm_assoc (tolE Tol.none _ _ _ _ _) [_, _, _] _))
             exact ⟨_, E1, .inl ⟨rfl, rfl, hNo⟩, hE1, S.sub _ rfl, M3⟩)
      clear S; intro h81 S
      refine st_run [2, 8, 13, 1, 1, 1, 1] S M rfl (by kernel_rfl) ?_; clear S a; intro a S
      replace S := S.sub [(0, _), (1, _), (2, _), (3, _), (4, _), (5, _), (6, _), (7, _), (8, _), (19, _), (9, _), (10, _), (35, _), (11, _), (44, _), (72, _)] rfl
      refine nxC ?_
      refine st_fi (t := 72) S rfl ?_ ?_
      · clear S; intro h72 S
        refine st_condF S rfl ?_
        refine wp_skip ?_
        refine block_normal ?_
        refine then_normal ?_
        first
          | exact ⟨_, E2, .inr ⟨i, o, _, hio, Nm.eqb_iff.1 hnm, rfl, rfl, .inl ⟨by omega, by omega, by omega, by omega, rfl⟩⟩, hEd, S.sub _ rfl, (((M.drop 0).drop 2).drop 2).drop 2⟩
          | exact ⟨_, E2, .inr ⟨i, o, _, hio, Nm.eqb_iff.1 hnm, rfl, rfl, .inr ⟨by omega, by omega, by omega, rfl⟩⟩, hEe, S.sub _ rfl, (((M.drop 0).drop 2).drop 2).drop 2⟩
          | (have hNo : s.NoHear m := fun o9 h9 e1 e2 e3 e4 e5 => by
               have ho9 := hio
               rw [h9, show i = 0 by rw [h9] at hil; simpa using hil] at ho9
               obtain rfl := Option.some.inj ho9
               omega
             obtain ⟨lo, hi, M2⟩ := nilTol ((((M.drop 0).drop 5).drop 5).drop 5)
             obtain ⟨E1, hE1, M3⟩ := Dsk.close (b := bB) (D := ⟨s, Tol.none, of⟩) rl ro ⟨none, 0, lo, hi⟩ ⟨none, 0, lo, hi⟩ ⟨none, 0, lo, hi⟩ ⟨none, 0, lo, hi⟩ ⟨none, 0, lo, hi⟩ (M2.perm (List.perm_append_comm_assoc (tolE Tol.none _ _ _ _ _) [_, _, _] _))
             exact ⟨_, E1, .inl ⟨rfl, rfl, hNo⟩, hE1, S.sub _ rfl, M3⟩)
          | (have hNo : s.NoHear m := fun o9 h9 e1 e2 e3 e4 e5 => by
               rcases hF with ⟨k, q, h1, -⟩ | ⟨-, h2⟩
               · omega
               · have this : o9.nm.eqb m.name = false := h2 o9 (by rw [h9]; simp)
                 rw [Nm.eqb_iff.2 e1] at this; exact absurd this (by decide)
             obtain ⟨lo, hi, M2⟩ := nilTol (((M.drop 5).drop 5).drop 5)
             obtain ⟨E1, hE1, M3⟩ := Dsk.close (b := bB) (D := ⟨s, Tol.none, of⟩) rl ro ⟨none, 0, lo, hi⟩ ⟨none, 0, lo, hi⟩ ⟨none, 0, lo, hi⟩ ⟨none, 0, lo, hi⟩ ⟨none, 0, lo, hi⟩ (M2.perm (List.perm_append_comm_assoc (tolE Tol.none _ _ _ _ _) [_, _, _] _))
             exact ⟨_, E1, .inl ⟨rfl, rfl, hNo⟩, hE1, S.sub _ rfl, M3⟩)
      clear S; intro h72 S
      refine st_condT S rfl ?_
      have hty : (⟨s, Tol.none, of⟩ : Dsk).tiny := ⟨by show s.l.length ≤ 500; omega, hov, Nat.zero_le _, Nat.zero_le _, Nat.zero_le _, Nat.zero_le _, Nat.zero_le _⟩
      replace M := M.ord [3, 3, 3] (by simp only [ordO, oG, oS, oE, oZ, oB] <;> rfl)
      obtain ⟨lo, hi, M2⟩ := nilTol M
      obtain ⟨E1, hE1, M3⟩ := Dsk.close (b := bB) (D := ⟨s, Tol.none, of⟩) rl ro ⟨none, 0, lo, hi⟩ ⟨none, 0, lo, hi⟩ ⟨none, 0, lo, hi⟩ ⟨none, 0, lo, hi⟩ ⟨none, 0, lo, hi⟩ (M2.perm (List.perm_append_comm_assoc (tolE Tol.none _ _ _ _ _) [_, _, _] _))
      clear M; have M := M3; clear M2 M3
      refine wp_regionKC (C := fun W => Blk W bC0 (msgW m (.slice wa x.length wc)).toArray 45) [2, 7] #[false, false, false, false, false, false, false, false] rfl M (by kernel_rfl) ?_; clear M; intro w29 M; have hC := M.blk 4 rfl
      refine kc_readC 0 S rfl hC (fun w _ => y_move S rfl) ?_; clear S a; intro a S
      refine kc_readC 1 S rfl hC (fun w _ => y_move S rfl) ?_; clear S a; intro a S
      refine kc_readC 3 S rfl hC (fun w _ => y_fieldAddr (k := 19) S (by kernel_rfl) rfl) ?_; clear S a; intro a S
      refine kc_readC 4 S rfl hC (fun w hC => y_load S (by kernel_rfl) rfl (hC.cells 19)) ?_; clear S a; intro a S
      refine kc_readC 5 S rfl hC (fun w _ => y_fieldAddr (k := 19) S (by kernel_rfl) rfl) ?_; clear S a; intro a S
      refine kc_readC 6 S rfl hC (fun w hC => y_load S (by kernel_rfl) rfl (hC.cells 19)) ?_; clear S a; intro a S
      refine kc_one 2 rfl (by kernel_rfl) ?_
      refine st_call (xs := [(Operand.tmp 88), (Operand.tmp 89), (Operand.const (Value.int IntKind.i8 3))]) S (enters_of Try.func24 (by decide) rfl) rfl rfl rfl (ending_any (A := _ :: _ :: _ :: _ :: _ :: _ :: A) i o 3 hE1 M hty.mid hio) ?_
      rintro _ w30 ⟨b3, b4, b5, b7, rfl, E5, hE5, M1⟩; refine ⟨_, rfl, ?_⟩; clear S M a; intro a S; have M := M1; clear M1
      replace hC := M.blk 8 rfl
      refine wpList_nil ?_; refine then_normal ?_; refine ⟨fun h => absurd h (by decide), hC, ?_⟩
      refine kc_one 7 rfl (by kernel_rfl) ?_
      refine st_callB (xs := [(Operand.tmp 92), (Operand.tmp 94), (Operand.const (Value.bool true))]) (fi := []) (ca := [.pointer (some ⟨b3, 0, none⟩), .pointer (some ⟨b7, 0, none⟩), .pointer (some ⟨b4, 0, none⟩), .pointer (some ⟨b5, 0, none⟩)]) S (enters_of Try.func48 (by decide) rfl) rfl rfl (rfl) rfl (ending1_any (A := _ :: _ :: _ :: _ :: _ :: _ :: A) i o 3 m.e m.e true hE5 M hty.mid hil) ?_
      rintro _ w31 ⟨rfl, E2, hEe, M1⟩; refine ⟨_, rfl, ?_⟩; clear S M a; intro a S; have M := M1; clear M1
      replace hC := M.blk 4 rfl
      refine wpList_nil ?_; refine then_normal ?_; refine ⟨fun h => absurd h (by decide), hC, ?_⟩
      refine kc_end (by kernel_rfl) ?_
      refine block_normal ?_
      refine then_normal ?_
      first
        | exact ⟨_, E2, .inr ⟨i, o, _, hio, Nm.eqb_iff.1 hnm, rfl, rfl, .inl ⟨by omega, by omega, by omega, by omega, rfl⟩⟩, hEd, S.sub _ rfl, (((M.drop 0).drop 2).drop 2).drop 2⟩
        | exact ⟨_, E2, .inr ⟨i, o, _, hio, Nm.eqb_iff.1 hnm, rfl, rfl, .inr ⟨by omega, by omega, by omega, rfl⟩⟩, hEe, S.sub _ rfl, (((M.drop 0).drop 2).drop 2).drop 2⟩
        | (have hNo : s.NoHear m := fun o9 h9 e1 e2 e3 e4 e5 => by
             have ho9 := hio
             rw [h9, show i = 0 by rw [h9] at hil; simpa using hil] at ho9
             obtain rfl := Option.some.inj ho9
             omega
           obtain ⟨lo, hi, M2⟩ := nilTol ((((M.drop 0).drop 5).drop 5).drop 5)
           obtain ⟨E1, hE1, M3⟩ := Dsk.close (b := bB) (D := ⟨s, Tol.none, of⟩) rl ro ⟨none, 0, lo, hi⟩ ⟨none, 0, lo, hi⟩ ⟨none, 0, lo, hi⟩ ⟨none, 0, lo, hi⟩ ⟨none, 0, lo, hi⟩ (M2.perm (List.perm_append_comm_assoc (tolE Tol.none _ _ _ _ _) [_, _, _] _))
           exact ⟨_, E1, .inl ⟨rfl, rfl, hNo⟩, hE1, S.sub _ rfl, M3⟩)
        | (have hNo : s.NoHear m := fun o9 h9 e1 e2 e3 e4 e5 => by
             rcases hF with ⟨k, q, h1, -⟩ | ⟨-, h2⟩
             · omega
             · have this : o9.nm.eqb m.name = false := h2 o9 (by rw [h9]; simp)
               rw [Nm.eqb_iff.2 e1] at this; exact absurd this (by decide)
           obtain ⟨lo, hi, M2⟩ := nilTol (((M.drop 5).drop 5).drop 5)
           obtain ⟨E1, hE1, M3⟩ := Dsk.close (b := bB) (D := ⟨s, Tol.none, of⟩) rl ro ⟨none, 0, lo, hi⟩ ⟨none, 0, lo, hi⟩ ⟨none, 0, lo, hi⟩ ⟨none, 0, lo, hi⟩ ⟨none, 0, lo, hi⟩ (M2.perm (List.perm_append_comm_assoc (tolE Tol.none _ _ _ _ _) [_, _, _] _))
           exact ⟨_, E1, .inl ⟨rfl, rfl, hNo⟩, hE1, S.sub _ rfl, M3⟩)
    clear S; intro h48 S
    refine st_run [6, 1, 1, 1, 1] S M rfl (by kernel_rfl) ?_; clear S a; intro a S
    refine st_fi (t := 53) S rfl ?_ ?_
    · clear S; intro h53 S
      refine st_go [0, 0, 0, 0, 0, 1, 1, 0, 0, 0, 0, 0, 0, 1, 1] S rfl (by kernel_rfl) ?_; clear S a; intro a S
      replace S := S.sub [(0, _), (1, _), (2, _), (3, _), (4, _), (5, _), (6, _), (7, _), (8, _), (19, _), (9, _), (10, _), (35, _), (11, _), (44, _)] rfl
      refine nxC ?_
      refine st_condF S rfl ?_
      refine nxD ?_
      refine st_run [1, 8, 1, 1] S M rfl (by kernel_rfl) ?_; clear S a; intro a S
      refine st_fi (t := 76) S rfl ?_ ?_
      · clear S; intro h76 S
        refine st_go [0, 0, 0, 1, 1, 0, 0, 0, 0, 0, 1, 1] S rfl (by kernel_rfl) ?_; clear S a; intro a S
        replace S := S.sub [(0, _), (1, _), (2, _), (3, _), (4, _), (5, _), (6, _), (7, _), (8, _), (19, _), (9, _), (10, _), (35, _), (11, _), (44, _), (72, _)] rfl
        refine nxC ?_
        refine st_condF S rfl ?_
        refine wp_skip ?_
        refine block_normal ?_
        refine then_normal ?_
        first
          | exact ⟨_, E2, .inr ⟨i, o, _, hio, Nm.eqb_iff.1 hnm, rfl, rfl, .inl ⟨by omega, by omega, by omega, by omega, rfl⟩⟩, hEd, S.sub _ rfl, (((M.drop 0).drop 2).drop 2).drop 2⟩
          | exact ⟨_, E2, .inr ⟨i, o, _, hio, Nm.eqb_iff.1 hnm, rfl, rfl, .inr ⟨by omega, by omega, by omega, rfl⟩⟩, hEe, S.sub _ rfl, (((M.drop 0).drop 2).drop 2).drop 2⟩
          | (have hNo : s.NoHear m := fun o9 h9 e1 e2 e3 e4 e5 => by
               have ho9 := hio
               rw [h9, show i = 0 by rw [h9] at hil; simpa using hil] at ho9
               obtain rfl := Option.some.inj ho9
               omega
             obtain ⟨lo, hi, M2⟩ := nilTol ((((M.drop 0).drop 5).drop 5).drop 5)
             obtain ⟨E1, hE1, M3⟩ := Dsk.close (b := bB) (D := ⟨s, Tol.none, of⟩) rl ro ⟨none, 0, lo, hi⟩ ⟨none, 0, lo, hi⟩ ⟨none, 0, lo, hi⟩ ⟨none, 0, lo, hi⟩ ⟨none, 0, lo, hi⟩ (M2.perm (List.perm_append_comm_assoc (tolE Tol.none _ _ _ _ _) [_, _, _] _))
             exact ⟨_, E1, .inl ⟨rfl, rfl, hNo⟩, hE1, S.sub _ rfl, M3⟩)
          | (have hNo : s.NoHear m := fun o9 h9 e1 e2 e3 e4 e5 => by
               rcases hF with ⟨k, q, h1, -⟩ | ⟨-, h2⟩
               · omega
               · have this : o9.nm.eqb m.name = false := h2 o9 (by rw [h9]; simp)
                 rw [Nm.eqb_iff.2 e1] at this; exact absurd this (by decide)
             obtain ⟨lo, hi, M2⟩ := nilTol (((M.drop 5).drop 5).drop 5)
             obtain ⟨E1, hE1, M3⟩ := Dsk.close (b := bB) (D := ⟨s, Tol.none, of⟩) rl ro ⟨none, 0, lo, hi⟩ ⟨none, 0, lo, hi⟩ ⟨none, 0, lo, hi⟩ ⟨none, 0, lo, hi⟩ ⟨none, 0, lo, hi⟩ (M2.perm (List.perm_append_comm_assoc (tolE Tol.none _ _ _ _ _) [_, _, _] _))
             exact ⟨_, E1, .inl ⟨rfl, rfl, hNo⟩, hE1, S.sub _ rfl, M3⟩)
      clear S; intro h76 S
      refine st_run [6, 1, 1, 1, 1] S M rfl (by kernel_rfl) ?_; clear S a; intro a S
      refine st_fi (t := 81) S rfl ?_ ?_
      · clear S; intro h81 S
        refine st_go [0, 0, 0, 0, 0, 1, 1] S rfl (by kernel_rfl) ?_; clear S a; intro a S
        replace S := S.sub [(0, _), (1, _), (2, _), (3, _), (4, _), (5, _), (6, _), (7, _), (8, _), (19, _), (9, _), (10, _), (35, _), (11, _), (44, _), (72, _)] rfl
        refine nxC ?_
        refine st_condF S rfl ?_
        refine wp_skip ?_
        refine block_normal ?_
        refine then_normal ?_
        first
          | exact ⟨_, E2, .inr ⟨i, o, _, hio, Nm.eqb_iff.1 hnm, rfl, rfl, .inl ⟨by omega, by omega, by omega, by omega, rfl⟩⟩, hEd, S.sub _ rfl, (((M.drop 0).drop 2).drop 2).drop 2⟩
          | exact ⟨_, E2, .inr ⟨i, o, _, hio, Nm.eqb_iff.1 hnm, rfl, rfl, .inr ⟨by omega, by omega, by omega, rfl⟩⟩, hEe, S.sub _ rfl, (((M.drop 0).drop 2).drop 2).drop 2⟩
          | (have hNo : s.NoHear m := fun o9 h9 e1 e2 e3 e4 e5 => by
               have ho9 := hio
               rw [h9, show i = 0 by rw [h9] at hil; simpa using hil] at ho9
               obtain rfl := Option.some.inj ho9
               omega
             obtain ⟨lo, hi, M2⟩ := nilTol ((((M.drop 0).drop 5).drop 5).drop 5)
             obtain ⟨E1, hE1, M3⟩ := Dsk.close (b := bB) (D := ⟨s, Tol.none, of⟩) rl ro ⟨none, 0, lo, hi⟩ ⟨none, 0, lo, hi⟩ ⟨none, 0, lo, hi⟩ ⟨none, 0, lo, hi⟩ ⟨none, 0, lo, hi⟩ (M2.perm (List.perm_append_comm_assoc (tolE Tol.none _ _ _ _ _) [_, _, _] _))
             exact ⟨_, E1, .inl ⟨rfl, rfl, hNo⟩, hE1, S.sub _ rfl, M3⟩)
          | (have hNo : s.NoHear m := fun o9 h9 e1 e2 e3 e4 e5 => by
               rcases hF with ⟨k, q, h1, -⟩ | ⟨-, h2⟩
               · omega
               · have this : o9.nm.eqb m.name = false := h2 o9 (by rw [h9]; simp)
                 rw [Nm.eqb_iff.2 e1] at this; exact absurd this (by decide)
             obtain ⟨lo, hi, M2⟩ := nilTol (((M.drop 5).drop 5).drop 5)
             obtain ⟨E1, hE1, M3⟩ := Dsk.close (b := bB) (D := ⟨s, Tol.none, of⟩) rl ro ⟨none, 0, lo, hi⟩ ⟨none, 0, lo, hi⟩ ⟨none, 0, lo, hi⟩ ⟨none, 0, lo, hi⟩ ⟨none, 0, lo, hi⟩ (M2.perm (List.perm_append_comm_assoc (tolE Tol.none _ _ _ _ _) [_, _, _] _))
             exact ⟨_, E1, .inl ⟨rfl, rfl, hNo⟩, hE1, S.sub _ rfl, M3⟩)
      clear S; intro h81 S
      refine st_run [2, 8, 13, 1, 1, 1, 1] S M rfl (by kernel_rfl) ?_; clear S a; intro a S
      replace S := S.sub [(0, _), (1, _), (2, _), (3, _), (4, _), (5, _), (6, _), (7, _), (8, _), (19, _), (9, _), (10, _), (35, _), (11, _), (44, _), (72, _)] rfl
      refine nxC ?_
      refine st_fi (t := 72) S rfl ?_ ?_
      · clear S; intro h72 S
        refine st_condF S rfl ?_
        refine wp_skip ?_
        refine block_normal ?_
        refine then_normal ?_
        first
          | exact ⟨_, E2, .inr ⟨i, o, _, hio, Nm.eqb_iff.1 hnm, rfl, rfl, .inl ⟨by omega, by omega, by omega, by omega, rfl⟩⟩, hEd, S.sub _ rfl, (((M.drop 0).drop 2).drop 2).drop 2⟩
          | exact ⟨_, E2, .inr ⟨i, o, _, hio, Nm.eqb_iff.1 hnm, rfl, rfl, .inr ⟨by omega, by omega, by omega, rfl⟩⟩, hEe, S.sub _ rfl, (((M.drop 0).drop 2).drop 2).drop 2⟩
          | (have hNo : s.NoHear m := fun o9 h9 e1 e2 e3 e4 e5 => by
               have ho9 := hio
               rw [h9, show i = 0 by rw [h9] at hil; simpa using hil] at ho9
               obtain rfl := Option.some.inj ho9
               omega
             obtain ⟨lo, hi, M2⟩ := nilTol ((((M.drop 0).drop 5).drop 5).drop 5)
             obtain ⟨E1, hE1, M3⟩ := Dsk.close (b := bB) (D := ⟨s, Tol.none, of⟩) rl ro ⟨none, 0, lo, hi⟩ ⟨none, 0, lo, hi⟩ ⟨none, 0, lo, hi⟩ ⟨none, 0, lo, hi⟩ ⟨none, 0, lo, hi⟩ (M2.perm (List.perm_append_comm_assoc (tolE Tol.none _ _ _ _ _) [_, _, _] _))
             exact ⟨_, E1, .inl ⟨rfl, rfl, hNo⟩, hE1, S.sub _ rfl, M3⟩)
          | (have hNo : s.NoHear m := fun o9 h9 e1 e2 e3 e4 e5 => by
               rcases hF with ⟨k, q, h1, -⟩ | ⟨-, h2⟩
               · omega
               · have this : o9.nm.eqb m.name = false := h2 o9 (by rw [h9]; simp)
                 rw [Nm.eqb_iff.2 e1] at this; exact absurd this (by decide)
             obtain ⟨lo, hi, M2⟩ := nilTol (((M.drop 5).drop 5).drop 5)
             obtain ⟨E1, hE1, M3⟩ := Dsk.close (b := bB) (D := ⟨s, Tol.none, of⟩) rl ro ⟨none, 0, lo, hi⟩ ⟨none, 0, lo, hi⟩ ⟨none, 0, lo, hi⟩ ⟨none, 0, lo, hi⟩ ⟨none, 0, lo, hi⟩ (M2.perm (List.perm_append_comm_assoc (tolE Tol.none _ _ _ _ _) [_, _, _] _))
             exact ⟨_, E1, .inl ⟨rfl, rfl, hNo⟩, hE1, S.sub _ rfl, M3⟩)
      clear S; intro h72 S
      refine st_condT S rfl ?_
      have hty : (⟨s, Tol.none, of⟩ : Dsk).tiny := ⟨by show s.l.length ≤ 500; omega, hov, Nat.zero_le _, Nat.zero_le _, Nat.zero_le _, Nat.zero_le _, Nat.zero_le _⟩
      replace M := M.ord [3, 3, 3] (by simp only [ordO, oG, oS, oE, oZ, oB] <;> rfl)
      obtain ⟨lo, hi, M2⟩ := nilTol M
      obtain ⟨E1, hE1, M3⟩ := Dsk.close (b := bB) (D := ⟨s, Tol.none, of⟩) rl ro ⟨none, 0, lo, hi⟩ ⟨none, 0, lo, hi⟩ ⟨none, 0, lo, hi⟩ ⟨none, 0, lo, hi⟩ ⟨none, 0, lo, hi⟩ (M2.perm (List.perm_append_comm_assoc (tolE Tol.none _ _ _ _ _) [_, _, _] _))
      clear M; have M := M3; clear M2 M3
      refine wp_regionKC (C := fun W => Blk W bC0 (msgW m (.slice wa x.length wc)).toArray 45) [2, 7] #[false, false, false, false, false, false, false, false] rfl M (by kernel_rfl) ?_; clear M; intro w26 M; have hC := M.blk 4 rfl
      refine kc_readC 0 S rfl hC (fun w _ => y_move S rfl) ?_; clear S a; intro a S
      refine kc_readC 1 S rfl hC (fun w _ => y_move S rfl) ?_; clear S a; intro a S
      refine kc_readC 3 S rfl hC (fun w _ => y_fieldAddr (k := 19) S (by kernel_rfl) rfl) ?_; clear S a; intro a S
      refine kc_readC 4 S rfl hC (fun w hC => y_load S (by kernel_rfl) rfl (hC.cells 19)) ?_; clear S a; intro a S
      refine kc_readC 5 S rfl hC (fun w _ => y_fieldAddr (k := 19) S (by kernel_rfl) rfl) ?_; clear S a; intro a S
      refine kc_readC 6 S rfl hC (fun w hC => y_load S (by kernel_rfl) rfl (hC.cells 19)) ?_; clear S a; intro a S
      refine kc_one 2 rfl (by kernel_rfl) ?_
      refine st_call (xs := [(Operand.tmp 88), (Operand.tmp 89), (Operand.const (Value.int IntKind.i8 3))]) S (enters_of Try.func24 (by decide) rfl) rfl rfl rfl (ending_any (A := _ :: _ :: _ :: _ :: _ :: _ :: A) i o 3 hE1 M hty.mid hio) ?_
      rintro _ w27 ⟨b3, b4, b5, b7, rfl, E5, hE5, M1⟩; refine ⟨_, rfl, ?_⟩; clear S M a; intro a S; have M := M1; clear M1
      replace hC := M.blk 8 rfl
      refine wpList_nil ?_; refine then_normal ?_; refine ⟨fun h => absurd h (by decide), hC, ?_⟩
      refine kc_one 7 rfl (by kernel_rfl) ?_
      refine st_callB (xs := [(Operand.tmp 92), (Operand.tmp 94), (Operand.const (Value.bool true))]) (fi := []) (ca := [.pointer (some ⟨b3, 0, none⟩), .pointer (some ⟨b7, 0, none⟩), .pointer (some ⟨b4, 0, none⟩), .pointer (some ⟨b5, 0, none⟩)]) S (enters_of Try.func48 (by decide) rfl) rfl rfl (rfl) rfl (ending1_any (A := _ :: _ :: _ :: _ :: _ :: _ :: A) i o 3 m.e m.e true hE5 M hty.mid hil) ?_
      rintro _ w28 ⟨rfl, E2, hEe, M1⟩; refine ⟨_, rfl, ?_⟩; clear S M a; intro a S; have M := M1; clear M1
      replace hC := M.blk 4 rfl
      refine wpList_nil ?_; refine then_normal ?_; refine ⟨fun h => absurd h (by decide), hC, ?_⟩
      refine kc_end (by kernel_rfl) ?_
      refine block_normal ?_
      refine then_normal ?_
      first
        | exact ⟨_, E2, .inr ⟨i, o, _, hio, Nm.eqb_iff.1 hnm, rfl, rfl, .inl ⟨by omega, by omega, by omega, by omega, rfl⟩⟩, hEd, S.sub _ rfl, (((M.drop 0).drop 2).drop 2).drop 2⟩
        | exact ⟨_, E2, .inr ⟨i, o, _, hio, Nm.eqb_iff.1 hnm, rfl, rfl, .inr ⟨by omega, by omega, by omega, rfl⟩⟩, hEe, S.sub _ rfl, (((M.drop 0).drop 2).drop 2).drop 2⟩
        | (have hNo : s.NoHear m := fun o9 h9 e1 e2 e3 e4 e5 => by
             have ho9 := hio
             rw [h9, show i = 0 by rw [h9] at hil; simpa using hil] at ho9
             obtain rfl := Option.some.inj ho9
             omega
           obtain ⟨lo, hi, M2⟩ := nilTol ((((M.drop 0).drop 5).drop 5).drop 5)
           obtain ⟨E1, hE1, M3⟩ := Dsk.close (b := bB) (D := ⟨s, Tol.none, of⟩) rl ro ⟨none, 0, lo, hi⟩ ⟨none, 0, lo, hi⟩ ⟨none, 0, lo, hi⟩ ⟨none, 0, lo, hi⟩ ⟨none, 0, lo, hi⟩ (M2.perm (List.perm_append_comm_assoc (tolE Tol.none _ _ _ _ _) [_, _, _] _))
           exact ⟨_, E1, .inl ⟨rfl, rfl, hNo⟩, hE1, S.sub _ rfl, M3⟩)
        | (have hNo : s.NoHear m := fun o9 h9 e1 e2 e3 e4 e5 => by
             rcases hF with ⟨k, q, h1, -⟩ | ⟨-, h2⟩
             · omega
             · have this : o9.nm.eqb m.name = false := h2 o9 (by rw [h9]; simp)
               rw [Nm.eqb_iff.2 e1] at this; exact absurd this (by decide)
           obtain ⟨lo, hi, M2⟩ := nilTol (((M.drop 5).drop 5).drop 5)
           obtain ⟨E1, hE1, M3⟩ := Dsk.close (b := bB) (D := ⟨s, Tol.none, of⟩) rl ro ⟨none, 0, lo, hi⟩ ⟨none, 0, lo, hi⟩ ⟨none, 0, lo, hi⟩ ⟨none, 0, lo, hi⟩ ⟨none, 0, lo, hi⟩ (M2.perm (List.perm_append_comm_assoc (tolE Tol.none _ _ _ _ _) [_, _, _] _))
           exact ⟨_, E1, .inl ⟨rfl, rfl, hNo⟩, hE1, S.sub _ rfl, M3⟩)
    clear S; intro h53 S
    refine st_run [2, 8, 13, 1, 1, 1, 1] S M rfl (by kernel_rfl) ?_; clear S a; intro a S
    refine st_fi (t := 60) S rfl ?_ ?_
    · clear S; intro h60 S
      refine st_go [0, 0, 0, 0, 0, 0, 1, 1] S rfl (by kernel_rfl) ?_; clear S a; intro a S
      replace S := S.sub [(0, _), (1, _), (2, _), (3, _), (4, _), (5, _), (6, _), (7, _), (8, _), (19, _), (9, _), (10, _), (35, _), (11, _), (44, _)] rfl
      refine nxC ?_
      refine st_condF S rfl ?_
      refine nxD ?_
      refine st_run [1, 8, 1, 1] S M rfl (by kernel_rfl) ?_; clear S a; intro a S
      refine st_fi (t := 76) S rfl ?_ ?_
      · clear S; intro h76 S
        refine st_go [0, 0, 0, 1, 1, 0, 0, 0, 0, 0, 1, 1] S rfl (by kernel_rfl) ?_; clear S a; intro a S
        replace S := S.sub [(0, _), (1, _), (2, _), (3, _), (4, _), (5, _), (6, _), (7, _), (8, _), (19, _), (9, _), (10, _), (35, _), (11, _), (44, _), (72, _)] rfl
        refine nxC ?_
        refine st_condF S rfl ?_
        refine wp_skip ?_
        refine block_normal ?_
        refine then_normal ?_
        first
          | exact ⟨_, E2, .inr ⟨i, o, _, hio, Nm.eqb_iff.1 hnm, rfl, rfl, .inl ⟨by omega, by omega, by omega, by omega, rfl⟩⟩, hEd, S.sub _ rfl, (((M.drop 0).drop 2).drop 2).drop 2⟩
          | exact ⟨_, E2, .inr ⟨i, o, _, hio, Nm.eqb_iff.1 hnm, rfl, rfl, .inr ⟨by omega, by omega, by omega, rfl⟩⟩, hEe, S.sub _ rfl, (((M.drop 0).drop 2).drop 2).drop 2⟩
          | (have hNo : s.NoHear m := fun o9 h9 e1 e2 e3 e4 e5 => by
               have ho9 := hio
               rw [h9, show i = 0 by rw [h9] at hil; simpa using hil] at ho9
               obtain rfl := Option.some.inj ho9
               omega
             obtain ⟨lo, hi, M2⟩ := nilTol ((((M.drop 0).drop 5).drop 5).drop 5)
             obtain ⟨E1, hE1, M3⟩ := Dsk.close (b := bB) (D := ⟨s, Tol.none, of⟩) rl ro ⟨none, 0, lo, hi⟩ ⟨none, 0, lo, hi⟩ ⟨none, 0, lo, hi⟩ ⟨none, 0, lo, hi⟩ ⟨none, 0, lo, hi⟩ (M2.perm (List.perm_append_comm_assoc (tolE Tol.none _ _ _ _ _) [_, _, _] _))
             exact ⟨_, E1, .inl ⟨rfl, rfl, hNo⟩, hE1, S.sub _ rfl, M3⟩)
          | (have hNo : s.NoHear m := fun o9 h9 e1 e2 e3 e4 e5 => by
               rcases hF with ⟨k, q, h1, -⟩ | ⟨-, h2⟩
               · omega
               · have this : o9.nm.eqb m.name = false := h2 o9 (by rw [h9]; simp)
                 rw [Nm.eqb_iff.2 e1] at this; exact absurd this (by decide)
             obtain ⟨lo, hi, M2⟩ := nilTol (((M.drop 5).drop 5).drop 5)
             obtain ⟨E1, hE1, M3⟩ := Dsk.close (b := bB) (D := ⟨s, Tol.none, of⟩) rl ro ⟨none, 0, lo, hi⟩ ⟨none, 0, lo, hi⟩ ⟨none, 0, lo, hi⟩ ⟨none, 0, lo, hi⟩ ⟨none, 0, lo, hi⟩ (M2.perm (List.perm_append_comm_assoc (tolE Tol.none _ _ _ _ _) [_, _, _] _))
             exact ⟨_, E1, .inl ⟨rfl, rfl, hNo⟩, hE1, S.sub _ rfl, M3⟩)
      clear S; intro h76 S
      refine st_run [6, 1, 1, 1, 1] S M rfl (by kernel_rfl) ?_; clear S a; intro a S
      refine st_fi (t := 81) S rfl ?_ ?_
      · clear S; intro h81 S
        refine st_go [0, 0, 0, 0, 0, 1, 1] S rfl (by kernel_rfl) ?_; clear S a; intro a S
        replace S := S.sub [(0, _), (1, _), (2, _), (3, _), (4, _), (5, _), (6, _), (7, _), (8, _), (19, _), (9, _), (10, _), (35, _), (11, _), (44, _), (72, _)] rfl
        refine nxC ?_
        refine st_condF S rfl ?_
        refine wp_skip ?_
        refine block_normal ?_
        refine then_normal ?_
        first
          | exact ⟨_, E2, .inr ⟨i, o, _, hio, Nm.eqb_iff.1 hnm, rfl, rfl, .inl ⟨by omega, by omega, by omega, by omega, rfl⟩⟩, hEd, S.sub _ rfl, (((M.drop 0).drop 2).drop 2).drop 2⟩
          | exact ⟨_, E2, .inr ⟨i, o, _, hio, Nm.eqb_iff.1 hnm, rfl, rfl, .inr ⟨by omega, by omega, by omega, rfl⟩⟩, hEe, S.sub _ rfl, (((M.drop 0).drop 2).drop 2).drop 2⟩
          | (have hNo : s.NoHear m := fun o9 h9 e1 e2 e3 e4 e5 => by
               have ho9 := hio
               rw [h9, show i = 0 by rw [h9] at hil; simpa using hil] at ho9
               obtain rfl := Option.some.inj ho9
               omega
             obtain ⟨lo, hi, M2⟩ := nilTol ((((M.drop 0).drop 5).drop 5).drop 5)
             obtain ⟨E1, hE1, M3⟩ := Dsk.close (b := bB) (D := ⟨s, Tol.none, of⟩) rl ro ⟨none, 0, lo, hi⟩ ⟨none, 0, lo, hi⟩ ⟨none, 0, lo, hi⟩ ⟨none, 0, lo, hi⟩ ⟨none, 0, lo, hi⟩ (M2.perm (List.perm_append_comm_assoc (tolE Tol.none _ _ _ _ _) [_, _, _] _))
             exact ⟨_, E1, .inl ⟨rfl, rfl, hNo⟩, hE1, S.sub _ rfl, M3⟩)
          | (have hNo : s.NoHear m := fun o9 h9 e1 e2 e3 e4 e5 => by
               rcases hF with ⟨k, q, h1, -⟩ | ⟨-, h2⟩
               · omega
               · have this : o9.nm.eqb m.name = false := h2 o9 (by rw [h9]; simp)
                 rw [Nm.eqb_iff.2 e1] at this; exact absurd this (by decide)
             obtain ⟨lo, hi, M2⟩ := nilTol (((M.drop 5).drop 5).drop 5)
             obtain ⟨E1, hE1, M3⟩ := Dsk.close (b := bB) (D := ⟨s, Tol.none, of⟩) rl ro ⟨none, 0, lo, hi⟩ ⟨none, 0, lo, hi⟩ ⟨none, 0, lo, hi⟩ ⟨none, 0, lo, hi⟩ ⟨none, 0, lo, hi⟩ (M2.perm (List.perm_append_comm_assoc (tolE Tol.none _ _ _ _ _) [_, _, _] _))
             exact ⟨_, E1, .inl ⟨rfl, rfl, hNo⟩, hE1, S.sub _ rfl, M3⟩)
      clear S; intro h81 S
      refine st_run [2, 8, 13, 1, 1, 1, 1] S M rfl (by kernel_rfl) ?_; clear S a; intro a S
      replace S := S.sub [(0, _), (1, _), (2, _), (3, _), (4, _), (5, _), (6, _), (7, _), (8, _), (19, _), (9, _), (10, _), (35, _), (11, _), (44, _), (72, _)] rfl
      refine nxC ?_
      refine st_fi (t := 72) S rfl ?_ ?_
      · clear S; intro h72 S
        refine st_condF S rfl ?_
        refine wp_skip ?_
        refine block_normal ?_
        refine then_normal ?_
        first
          | exact ⟨_, E2, .inr ⟨i, o, _, hio, Nm.eqb_iff.1 hnm, rfl, rfl, .inl ⟨by omega, by omega, by omega, by omega, rfl⟩⟩, hEd, S.sub _ rfl, (((M.drop 0).drop 2).drop 2).drop 2⟩
          | exact ⟨_, E2, .inr ⟨i, o, _, hio, Nm.eqb_iff.1 hnm, rfl, rfl, .inr ⟨by omega, by omega, by omega, rfl⟩⟩, hEe, S.sub _ rfl, (((M.drop 0).drop 2).drop 2).drop 2⟩
          | (have hNo : s.NoHear m := fun o9 h9 e1 e2 e3 e4 e5 => by
               have ho9 := hio
               rw [h9, show i = 0 by rw [h9] at hil; simpa using hil] at ho9
               obtain rfl := Option.some.inj ho9
               omega
             obtain ⟨lo, hi, M2⟩ := nilTol ((((M.drop 0).drop 5).drop 5).drop 5)
             obtain ⟨E1, hE1, M3⟩ := Dsk.close (b := bB) (D := ⟨s, Tol.none, of⟩) rl ro ⟨none, 0, lo, hi⟩ ⟨none, 0, lo, hi⟩ ⟨none, 0, lo, hi⟩ ⟨none, 0, lo, hi⟩ ⟨none, 0, lo, hi⟩ (M2.perm (List.perm_append_comm_assoc (tolE Tol.none _ _ _ _ _) [_, _, _] _))
             exact ⟨_, E1, .inl ⟨rfl, rfl, hNo⟩, hE1, S.sub _ rfl, M3⟩)
          | (have hNo : s.NoHear m := fun o9 h9 e1 e2 e3 e4 e5 => by
               rcases hF with ⟨k, q, h1, -⟩ | ⟨-, h2⟩
               · omega
               · have this : o9.nm.eqb m.name = false := h2 o9 (by rw [h9]; simp)
                 rw [Nm.eqb_iff.2 e1] at this; exact absurd this (by decide)
             obtain ⟨lo, hi, M2⟩ := nilTol (((M.drop 5).drop 5).drop 5)
             obtain ⟨E1, hE1, M3⟩ := Dsk.close (b := bB) (D := ⟨s, Tol.none, of⟩) rl ro ⟨none, 0, lo, hi⟩ ⟨none, 0, lo, hi⟩ ⟨none, 0, lo, hi⟩ ⟨none, 0, lo, hi⟩ ⟨none, 0, lo, hi⟩ (M2.perm (List.perm_append_comm_assoc (tolE Tol.none _ _ _ _ _) [_, _, _] _))
             exact ⟨_, E1, .inl ⟨rfl, rfl, hNo⟩, hE1, S.sub _ rfl, M3⟩)
      clear S; intro h72 S
      refine st_condT S rfl ?_
      have hty : (⟨s, Tol.none, of⟩ : Dsk).tiny := ⟨by show s.l.length ≤ 500; omega, hov, Nat.zero_le _, Nat.zero_le _, Nat.zero_le _, Nat.zero_le _, Nat.zero_le _⟩
      replace M := M.ord [3, 3, 3] (by simp only [ordO, oG, oS, oE, oZ, oB] <;> rfl)
      obtain ⟨lo, hi, M2⟩ := nilTol M
      obtain ⟨E1, hE1, M3⟩ := Dsk.close (b := bB) (D := ⟨s, Tol.none, of⟩) rl ro ⟨none, 0, lo, hi⟩ ⟨none, 0, lo, hi⟩ ⟨none, 0, lo, hi⟩ ⟨none, 0, lo, hi⟩ ⟨none, 0, lo, hi⟩ (M2.perm (List.perm_append_comm_assoc (tolE Tol.none _ _ _ _ _) [_, _, _] _))
      clear M; have M := M3; clear M2 M3
      refine wp_regionKC (C := fun W => Blk W bC0 (msgW m (.slice wa x.length wc)).toArray 45) [2, 7] #[false, false, false, false, false, false, false, false] rfl M (by kernel_rfl) ?_; clear M; intro w23 M; have hC := M.blk 4 rfl
      refine kc_readC 0 S rfl hC (fun w _ => y_move S rfl) ?_; clear S a; intro a S
      refine kc_readC 1 S rfl hC (fun w _ => y_move S rfl) ?_; clear S a; intro a S
      refine kc_readC 3 S rfl hC (fun w _ => y_fieldAddr (k := 19) S (by kernel_rfl) rfl) ?_; clear S a; intro a S
      refine kc_readC 4 S rfl hC (fun w hC => y_load S (by kernel_rfl) rfl (hC.cells 19)) ?_; clear S a; intro a S
      refine kc_readC 5 S rfl hC (fun w _ => y_fieldAddr (k := 19) S (by kernel_rfl) rfl) ?_; clear S a; intro a S
      refine kc_readC 6 S rfl hC (fun w hC => y_load S (by kernel_rfl) rfl (hC.cells 19)) ?_; clear S a; intro a S
      refine kc_one 2 rfl (by kernel_rfl) ?_
      refine st_call (xs := [(Operand.tmp 88), (Operand.tmp 89), (Operand.const (Value.int IntKind.i8 3))]) S (enters_of Try.func24 (by decide) rfl) rfl rfl rfl (ending_any (A := _ :: _ :: _ :: _ :: _ :: _ :: A) i o 3 hE1 M hty.mid hio) ?_
      rintro _ w24 ⟨b3, b4, b5, b7, rfl, E5, hE5, M1⟩; refine ⟨_, rfl, ?_⟩; clear S M a; intro a S; have M := M1; clear M1
      replace hC := M.blk 8 rfl
      refine wpList_nil ?_; refine then_normal ?_; refine ⟨fun h => absurd h (by decide), hC, ?_⟩
      refine kc_one 7 rfl (by kernel_rfl) ?_
      refine st_callB (xs := [(Operand.tmp 92), (Operand.tmp 94), (Operand.const (Value.bool true))]) (fi := []) (ca := [.pointer (some ⟨b3, 0, none⟩), .pointer (some ⟨b7, 0, none⟩), .pointer (some ⟨b4, 0, none⟩), .pointer (some ⟨b5, 0, none⟩)]) S (enters_of Try.func48 (by decide) rfl) rfl rfl (rfl) rfl (ending1_any (A := _ :: _ :: _ :: _ :: _ :: _ :: A) i o 3 m.e m.e true hE5 M hty.mid hil) ?_
      rintro _ w25 ⟨rfl, E2, hEe, M1⟩; refine ⟨_, rfl, ?_⟩; clear S M a; intro a S; have M := M1; clear M1
      replace hC := M.blk 4 rfl
      refine wpList_nil ?_; refine then_normal ?_; refine ⟨fun h => absurd h (by decide), hC, ?_⟩
      refine kc_end (by kernel_rfl) ?_
      refine block_normal ?_
      refine then_normal ?_
      first
        | exact ⟨_, E2, .inr ⟨i, o, _, hio, Nm.eqb_iff.1 hnm, rfl, rfl, .inl ⟨by omega, by omega, by omega, by omega, rfl⟩⟩, hEd, S.sub _ rfl, (((M.drop 0).drop 2).drop 2).drop 2⟩
        | exact ⟨_, E2, .inr ⟨i, o, _, hio, Nm.eqb_iff.1 hnm, rfl, rfl, .inr ⟨by omega, by omega, by omega, rfl⟩⟩, hEe, S.sub _ rfl, (((M.drop 0).drop 2).drop 2).drop 2⟩
        | (have hNo : s.NoHear m := fun o9 h9 e1 e2 e3 e4 e5 => by
             have ho9 := hio
             rw [h9, show i = 0 by rw [h9] at hil; simpa using hil] at ho9
             obtain rfl := Option.some.inj ho9
             omega
           obtain ⟨lo, hi, M2⟩ := nilTol ((((M.drop 0).drop 5).drop 5).drop 5)
           obtain ⟨E1, hE1, M3⟩ := Dsk.close (b := bB) (D := ⟨s, Tol.none, of⟩) rl ro ⟨none, 0, lo, hi⟩ ⟨none, 0, lo, hi⟩ ⟨none, 0, lo, hi⟩ ⟨none, 0, lo, hi⟩ ⟨none, 0, lo, hi⟩ (M2.perm (List.perm_append_comm_assoc (tolE Tol.none _ _ _ _ _) [_, _, _] _))
           exact ⟨_, E1, .inl ⟨rfl, rfl, hNo⟩, hE1, S.sub _ rfl, M3⟩)
        | (have hNo : s.NoHear m := fun o9 h9 e1 e2 e3 e4 e5 => by
             rcases hF with ⟨k, q, h1, -⟩ | ⟨-, h2⟩
             · omega
             · have this : o9.nm.eqb m.name = false := h2 o9 (by rw [h9]; simp)
               rw [Nm.eqb_iff.2 e1] at this; exact absurd this (by decide)
           obtain ⟨lo, hi, M2⟩ := nilTol (((M.drop 5).drop 5).drop 5)
           obtain ⟨E1, hE1, M3⟩ := Dsk.close (b := bB) (D := ⟨s, Tol.none, of⟩) rl ro ⟨none, 0, lo, hi⟩ ⟨none, 0, lo, hi⟩ ⟨none, 0, lo, hi⟩ ⟨none, 0, lo, hi⟩ ⟨none, 0, lo, hi⟩ (M2.perm (List.perm_append_comm_assoc (tolE Tol.none _ _ _ _ _) [_, _, _] _))
           exact ⟨_, E1, .inl ⟨rfl, rfl, hNo⟩, hE1, S.sub _ rfl, M3⟩)
    clear S; intro h60 S
    refine st_run [9, 8, 14, 9, 1, 1, 1, 1] S M rfl (by kernel_rfl) ?_; clear S a; intro a S
    replace S := S.sub [(0, _), (1, _), (2, _), (3, _), (4, _), (5, _), (6, _), (7, _), (8, _), (19, _), (9, _), (10, _), (35, _), (11, _), (44, _)] rfl
    refine nxC ?_
    refine st_if (t := 44) S rfl ?_ ?_
    · clear S; intro h44 S
      refine st_condT S rfl ?_
      have hty : (⟨s, Tol.none, of⟩ : Dsk).tiny := ⟨by show s.l.length ≤ 500; omega, hov, Nat.zero_le _, Nat.zero_le _, Nat.zero_le _, Nat.zero_le _, Nat.zero_le _⟩
      replace M := M.ord [3, 3, 3] (by simp only [ordO, oG, oS, oE, oZ, oB] <;> rfl)
      obtain ⟨lo, hi, M2⟩ := nilTol M
      obtain ⟨E1, hE1, M3⟩ := Dsk.close (b := bB) (D := ⟨s, Tol.none, of⟩) rl ro ⟨none, 0, lo, hi⟩ ⟨none, 0, lo, hi⟩ ⟨none, 0, lo, hi⟩ ⟨none, 0, lo, hi⟩ ⟨none, 0, lo, hi⟩ (M2.perm (List.perm_append_comm_assoc (tolE Tol.none _ _ _ _ _) [_, _, _] _))
      clear M; have M := M3; clear M2 M3
      refine wp_region_lit ?_
      refine st_go [1, 1] S rfl (by kernel_rfl) ?_; clear S a; intro a S
      refine st_y S rfl rfl rfl (y_loadAgg (cs := [_, _, _, _, _, _, _, _, _, _, _, _, _, _, _, _, _, _, _, _, _, _, _, _]) S (by kernel_rfl) rfl rfl (M.cellsAt (k := 24) 4 rfl rfl)) ?_; clear S a; intro a S
      refine st_call (xs := [(Operand.tmp 68), (Operand.tmp 69), (Operand.tmp 70)]) S (enters_of Try.func23 (by decide) rfl) rfl rfl rfl (did_any (A := _ :: _ :: _ :: _ :: _ :: _ :: A) i o m wa x.length wc hE1 M hty hio (hm.bd o (List.mem_of_getElem? hio))) ?_
      rintro _ w19 ⟨rfl, E2, hEd, M1⟩; refine ⟨_, rfl, ?_⟩; clear S M a; intro a S; have M := M1; clear M1
      refine wpList_nil ?_
      refine block_normal ?_
      refine then_normal ?_
      first
        | exact ⟨_, E2, .inr ⟨i, o, _, hio, Nm.eqb_iff.1 hnm, rfl, rfl, .inl ⟨by omega, by omega, by omega, by omega, rfl⟩⟩, hEd, S.sub _ rfl, (((M.drop 0).drop 2).drop 2).drop 2⟩
        | exact ⟨_, E2, .inr ⟨i, o, _, hio, Nm.eqb_iff.1 hnm, rfl, rfl, .inr ⟨by omega, by omega, by omega, rfl⟩⟩, hEe, S.sub _ rfl, (((M.drop 0).drop 2).drop 2).drop 2⟩
        | (have hNo : s.NoHear m := fun o9 h9 e1 e2 e3 e4 e5 => by
             have ho9 := hio
             rw [h9, show i = 0 by rw [h9] at hil; simpa using hil] at ho9
             obtain rfl := Option.some.inj ho9
             omega
           obtain ⟨lo, hi, M2⟩ := nilTol ((((M.drop 0).drop 5).drop 5).drop 5)
           obtain ⟨E1, hE1, M3⟩ := Dsk.close (b := bB) (D := ⟨s, Tol.none, of⟩) rl ro ⟨none, 0, lo, hi⟩ ⟨none, 0, lo, hi⟩ ⟨none, 0, lo, hi⟩ ⟨none, 0, lo, hi⟩ ⟨none, 0, lo, hi⟩ (M2.perm (List.perm_append_comm_assoc (tolE Tol.none _ _ _ _ _) [_, _, _] _))
           exact ⟨_, E1, .inl ⟨rfl, rfl, hNo⟩, hE1, S.sub _ rfl, M3⟩)
        | (have hNo : s.NoHear m := fun o9 h9 e1 e2 e3 e4 e5 => by
             rcases hF with ⟨k, q, h1, -⟩ | ⟨-, h2⟩
             · omega
             · have this : o9.nm.eqb m.name = false := h2 o9 (by rw [h9]; simp)
               rw [Nm.eqb_iff.2 e1] at this; exact absurd this (by decide)
           obtain ⟨lo, hi, M2⟩ := nilTol (((M.drop 5).drop 5).drop 5)
           obtain ⟨E1, hE1, M3⟩ := Dsk.close (b := bB) (D := ⟨s, Tol.none, of⟩) rl ro ⟨none, 0, lo, hi⟩ ⟨none, 0, lo, hi⟩ ⟨none, 0, lo, hi⟩ ⟨none, 0, lo, hi⟩ ⟨none, 0, lo, hi⟩ (M2.perm (List.perm_append_comm_assoc (tolE Tol.none _ _ _ _ _) [_, _, _] _))
           exact ⟨_, E1, .inl ⟨rfl, rfl, hNo⟩, hE1, S.sub _ rfl, M3⟩)
    clear S; intro h44 S
    refine st_condF S rfl ?_
    refine nxD ?_
    refine st_run [1, 8, 1, 1] S M rfl (by kernel_rfl) ?_; clear S a; intro a S
    refine st_fi (t := 76) S rfl ?_ ?_
    · clear S; intro h76 S
      refine st_go [0, 0, 0, 1, 1, 0, 0, 0, 0, 0, 1, 1] S rfl (by kernel_rfl) ?_; clear S a; intro a S
      replace S := S.sub [(0, _), (1, _), (2, _), (3, _), (4, _), (5, _), (6, _), (7, _), (8, _), (19, _), (9, _), (10, _), (35, _), (11, _), (44, _), (72, _)] rfl
      refine nxC ?_
      refine st_condF S rfl ?_
      refine wp_skip ?_
      refine block_normal ?_
      refine then_normal ?_
      first
        | exact ⟨_, E2, .inr ⟨i, o, _, hio, Nm.eqb_iff.1 hnm, rfl, rfl, .inl ⟨by omega, by omega, by omega, by omega, rfl⟩⟩, hEd, S.sub _ rfl, (((M.drop 0).drop 2).drop 2).drop 2⟩
        | exact ⟨_, E2, .inr ⟨i, o, _, hio, Nm.eqb_iff.1 hnm, rfl, rfl, .inr ⟨by omega, by omega, by omega, rfl⟩⟩, hEe, S.sub _ rfl, (((M.drop 0).drop 2).drop 2).drop 2⟩
        | (have hNo : s.NoHear m := fun o9 h9 e1 e2 e3 e4 e5 => by
             have ho9 := hio
             rw [h9, show i = 0 by rw [h9] at hil; simpa using hil] at ho9
             obtain rfl := Option.some.inj ho9
             omega
           obtain ⟨lo, hi, M2⟩ := nilTol ((((M.drop 0).drop 5).drop 5).drop 5)
           obtain ⟨E1, hE1, M3⟩ := Dsk.close (b := bB) (D := ⟨s, Tol.none, of⟩) rl ro ⟨none, 0, lo, hi⟩ ⟨none, 0, lo, hi⟩ ⟨none, 0, lo, hi⟩ ⟨none, 0, lo, hi⟩ ⟨none, 0, lo, hi⟩ (M2.perm (List.perm_append_comm_assoc (tolE Tol.none _ _ _ _ _) [_, _, _] _))
           exact ⟨_, E1, .inl ⟨rfl, rfl, hNo⟩, hE1, S.sub _ rfl, M3⟩)
        | (have hNo : s.NoHear m := fun o9 h9 e1 e2 e3 e4 e5 => by
             rcases hF with ⟨k, q, h1, -⟩ | ⟨-, h2⟩
             · omega
             · have this : o9.nm.eqb m.name = false := h2 o9 (by rw [h9]; simp)
               rw [Nm.eqb_iff.2 e1] at this; exact absurd this (by decide)
           obtain ⟨lo, hi, M2⟩ := nilTol (((M.drop 5).drop 5).drop 5)
           obtain ⟨E1, hE1, M3⟩ := Dsk.close (b := bB) (D := ⟨s, Tol.none, of⟩) rl ro ⟨none, 0, lo, hi⟩ ⟨none, 0, lo, hi⟩ ⟨none, 0, lo, hi⟩ ⟨none, 0, lo, hi⟩ ⟨none, 0, lo, hi⟩ (M2.perm (List.perm_append_comm_assoc (tolE Tol.none _ _ _ _ _) [_, _, _] _))
           exact ⟨_, E1, .inl ⟨rfl, rfl, hNo⟩, hE1, S.sub _ rfl, M3⟩)
    clear S; intro h76 S
    refine st_run [6, 1, 1, 1, 1] S M rfl (by kernel_rfl) ?_; clear S a; intro a S
    refine st_fi (t := 81) S rfl ?_ ?_
    · clear S; intro h81 S
      refine st_go [0, 0, 0, 0, 0, 1, 1] S rfl (by kernel_rfl) ?_; clear S a; intro a S
      replace S := S.sub [(0, _), (1, _), (2, _), (3, _), (4, _), (5, _), (6, _), (7, _), (8, _), (19, _), (9, _), (10, _), (35, _), (11, _), (44, _), (72, _)] rfl
      refine nxC ?_
      refine st_condF S rfl ?_
      refine wp_skip ?_
      refine block_normal ?_
      refine then_normal ?_
      first
        | exact ⟨_, E2, .inr ⟨i, o, _, hio, Nm.eqb_iff.1 hnm, rfl, rfl, .inl ⟨by omega, by omega, by omega, by omega, rfl⟩⟩, hEd, S.sub _ rfl, (((M.drop 0).drop 2).drop 2).drop 2⟩
        | exact ⟨_, E2, .inr ⟨i, o, _, hio, Nm.eqb_iff.1 hnm, rfl, rfl, .inr ⟨by omega, by omega, by omega, rfl⟩⟩, hEe, S.sub _ rfl, (((M.drop 0).drop 2).drop 2).drop 2⟩
        | (have hNo : s.NoHear m := fun o9 h9 e1 e2 e3 e4 e5 => by
             have ho9 := hio
             rw [h9, show i = 0 by rw [h9] at hil; simpa using hil] at ho9
             obtain rfl := Option.some.inj ho9
             omega
           obtain ⟨lo, hi, M2⟩ := nilTol ((((M.drop 0).drop 5).drop 5).drop 5)
           obtain ⟨E1, hE1, M3⟩ := Dsk.close (b := bB) (D := ⟨s, Tol.none, of⟩) rl ro ⟨none, 0, lo, hi⟩ ⟨none, 0, lo, hi⟩ ⟨none, 0, lo, hi⟩ ⟨none, 0, lo, hi⟩ ⟨none, 0, lo, hi⟩ (M2.perm (List.perm_append_comm_assoc (tolE Tol.none _ _ _ _ _) [_, _, _] _))
           exact ⟨_, E1, .inl ⟨rfl, rfl, hNo⟩, hE1, S.sub _ rfl, M3⟩)
        | (have hNo : s.NoHear m := fun o9 h9 e1 e2 e3 e4 e5 => by
             rcases hF with ⟨k, q, h1, -⟩ | ⟨-, h2⟩
             · omega
             · have this : o9.nm.eqb m.name = false := h2 o9 (by rw [h9]; simp)
               rw [Nm.eqb_iff.2 e1] at this; exact absurd this (by decide)
           obtain ⟨lo, hi, M2⟩ := nilTol (((M.drop 5).drop 5).drop 5)
           obtain ⟨E1, hE1, M3⟩ := Dsk.close (b := bB) (D := ⟨s, Tol.none, of⟩) rl ro ⟨none, 0, lo, hi⟩ ⟨none, 0, lo, hi⟩ ⟨none, 0, lo, hi⟩ ⟨none, 0, lo, hi⟩ ⟨none, 0, lo, hi⟩ (M2.perm (List.perm_append_comm_assoc (tolE Tol.none _ _ _ _ _) [_, _, _] _))
           exact ⟨_, E1, .inl ⟨rfl, rfl, hNo⟩, hE1, S.sub _ rfl, M3⟩)
    clear S; intro h81 S
    refine st_run [2, 8, 13, 1, 1, 1, 1] S M rfl (by kernel_rfl) ?_; clear S a; intro a S
    replace S := S.sub [(0, _), (1, _), (2, _), (3, _), (4, _), (5, _), (6, _), (7, _), (8, _), (19, _), (9, _), (10, _), (35, _), (11, _), (44, _), (72, _)] rfl
    refine nxC ?_
    refine st_fi (t := 72) S rfl ?_ ?_
    · clear S; intro h72 S
      refine st_condF S rfl ?_
      refine wp_skip ?_
      refine block_normal ?_
      refine then_normal ?_
      first
        | exact ⟨_, E2, .inr ⟨i, o, _, hio, Nm.eqb_iff.1 hnm, rfl, rfl, .inl ⟨by omega, by omega, by omega, by omega, rfl⟩⟩, hEd, S.sub _ rfl, (((M.drop 0).drop 2).drop 2).drop 2⟩
        | exact ⟨_, E2, .inr ⟨i, o, _, hio, Nm.eqb_iff.1 hnm, rfl, rfl, .inr ⟨by omega, by omega, by omega, rfl⟩⟩, hEe, S.sub _ rfl, (((M.drop 0).drop 2).drop 2).drop 2⟩
        | (have hNo : s.NoHear m := fun o9 h9 e1 e2 e3 e4 e5 => by
             have ho9 := hio
             rw [h9, show i = 0 by rw [h9] at hil; simpa using hil] at ho9
             obtain rfl := Option.some.inj ho9
             omega
           obtain ⟨lo, hi, M2⟩ := nilTol ((((M.drop 0).drop 5).drop 5).drop 5)
           obtain ⟨E1, hE1, M3⟩ := Dsk.close (b := bB) (D := ⟨s, Tol.none, of⟩) rl ro ⟨none, 0, lo, hi⟩ ⟨none, 0, lo, hi⟩ ⟨none, 0, lo, hi⟩ ⟨none, 0, lo, hi⟩ ⟨none, 0, lo, hi⟩ (M2.perm (List.perm_append_comm_assoc (tolE Tol.none _ _ _ _ _) [_, _, _] _))
           exact ⟨_, E1, .inl ⟨rfl, rfl, hNo⟩, hE1, S.sub _ rfl, M3⟩)
        | (have hNo : s.NoHear m := fun o9 h9 e1 e2 e3 e4 e5 => by
             rcases hF with ⟨k, q, h1, -⟩ | ⟨-, h2⟩
             · omega
             · have this : o9.nm.eqb m.name = false := h2 o9 (by rw [h9]; simp)
               rw [Nm.eqb_iff.2 e1] at this; exact absurd this (by decide)
           obtain ⟨lo, hi, M2⟩ := nilTol (((M.drop 5).drop 5).drop 5)
           obtain ⟨E1, hE1, M3⟩ := Dsk.close (b := bB) (D := ⟨s, Tol.none, of⟩) rl ro ⟨none, 0, lo, hi⟩ ⟨none, 0, lo, hi⟩ ⟨none, 0, lo, hi⟩ ⟨none, 0, lo, hi⟩ ⟨none, 0, lo, hi⟩ (M2.perm (List.perm_append_comm_assoc (tolE Tol.none _ _ _ _ _) [_, _, _] _))
           exact ⟨_, E1, .inl ⟨rfl, rfl, hNo⟩, hE1, S.sub _ rfl, M3⟩)
    clear S; intro h72 S
    refine st_condT S rfl ?_
    have hty : (⟨s, Tol.none, of⟩ : Dsk).tiny := ⟨by show s.l.length ≤ 500; omega, hov, Nat.zero_le _, Nat.zero_le _, Nat.zero_le _, Nat.zero_le _, Nat.zero_le _⟩
    replace M := M.ord [3, 3, 3] (by simp only [ordO, oG, oS, oE, oZ, oB] <;> rfl)
    obtain ⟨lo, hi, M2⟩ := nilTol M
    obtain ⟨E1, hE1, M3⟩ := Dsk.close (b := bB) (D := ⟨s, Tol.none, of⟩) rl ro ⟨none, 0, lo, hi⟩ ⟨none, 0, lo, hi⟩ ⟨none, 0, lo, hi⟩ ⟨none, 0, lo, hi⟩ ⟨none, 0, lo, hi⟩ (M2.perm (List.perm_append_comm_assoc (tolE Tol.none _ _ _ _ _) [_, _, _] _))
    clear M; have M := M3; clear M2 M3
    refine wp_regionKC (C := fun W => Blk W bC0 (msgW m (.slice wa x.length wc)).toArray 45) [2, 7] #[false, false, false, false, false, false, false, false] rfl M (by kernel_rfl) ?_; clear M; intro w20 M; have hC := M.blk 4 rfl
    refine kc_readC 0 S rfl hC (fun w _ => y_move S rfl) ?_; clear S a; intro a S
    refine kc_readC 1 S rfl hC (fun w _ => y_move S rfl) ?_; clear S a; intro a S
    refine kc_readC 3 S rfl hC (fun w _ => y_fieldAddr (k := 19) S (by kernel_rfl) rfl) ?_; clear S a; intro a S
    refine kc_readC 4 S rfl hC (fun w hC => y_load S (by kernel_rfl) rfl (hC.cells 19)) ?_; clear S a; intro a S
    refine kc_readC 5 S rfl hC (fun w _ => y_fieldAddr (k := 19) S (by kernel_rfl) rfl) ?_; clear S a; intro a S
    refine kc_readC 6 S rfl hC (fun w hC => y_load S (by kernel_rfl) rfl (hC.cells 19)) ?_; clear S a; intro a S
    refine kc_one 2 rfl (by kernel_rfl) ?_
    refine st_call (xs := [(Operand.tmp 88), (Operand.tmp 89), (Operand.const (Value.int IntKind.i8 3))]) S (enters_of Try.func24 (by decide) rfl) rfl rfl rfl (ending_any (A := _ :: _ :: _ :: _ :: _ :: _ :: A) i o 3 hE1 M hty.mid hio) ?_
    rintro _ w21 ⟨b3, b4, b5, b7, rfl, E5, hE5, M1⟩; refine ⟨_, rfl, ?_⟩; clear S M a; intro a S; have M := M1; clear M1
    replace hC := M.blk 8 rfl
    refine wpList_nil ?_; refine then_normal ?_; refine ⟨fun h => absurd h (by decide), hC, ?_⟩
    refine kc_one 7 rfl (by kernel_rfl) ?_
    refine st_callB (xs := [(Operand.tmp 92), (Operand.tmp 94), (Operand.const (Value.bool true))]) (fi := []) (ca := [.pointer (some ⟨b3, 0, none⟩), .pointer (some ⟨b7, 0, none⟩), .pointer (some ⟨b4, 0, none⟩), .pointer (some ⟨b5, 0, none⟩)]) S (enters_of Try.func48 (by decide) rfl) rfl rfl (rfl) rfl (ending1_any (A := _ :: _ :: _ :: _ :: _ :: _ :: A) i o 3 m.e m.e true hE5 M hty.mid hil) ?_
    rintro _ w22 ⟨rfl, E2, hEe, M1⟩; refine ⟨_, rfl, ?_⟩; clear S M a; intro a S; have M := M1; clear M1
    replace hC := M.blk 4 rfl
    refine wpList_nil ?_; refine then_normal ?_; refine ⟨fun h => absurd h (by decide), hC, ?_⟩
    refine kc_end (by kernel_rfl) ?_
    refine block_normal ?_
    refine then_normal ?_
    first
      | exact ⟨_, E2, .inr ⟨i, o, _, hio, Nm.eqb_iff.1 hnm, rfl, rfl, .inl ⟨by omega, by omega, by omega, by omega, rfl⟩⟩, hEd, S.sub _ rfl, (((M.drop 0).drop 2).drop 2).drop 2⟩
      | exact ⟨_, E2, .inr ⟨i, o, _, hio, Nm.eqb_iff.1 hnm, rfl, rfl, .inr ⟨by omega, by omega, by omega, rfl⟩⟩, hEe, S.sub _ rfl, (((M.drop 0).drop 2).drop 2).drop 2⟩
      | (have hNo : s.NoHear m := fun o9 h9 e1 e2 e3 e4 e5 => by
           have ho9 := hio
           rw [h9, show i = 0 by rw [h9] at hil; simpa using hil] at ho9
           obtain rfl := Option.some.inj ho9
           omega
         obtain ⟨lo, hi, M2⟩ := nilTol ((((M.drop 0).drop 5).drop 5).drop 5)
         obtain ⟨E1, hE1, M3⟩ := Dsk.close (b := bB) (D := ⟨s, Tol.none, of⟩) rl ro ⟨none, 0, lo, hi⟩ ⟨none, 0, lo, hi⟩ ⟨none, 0, lo, hi⟩ ⟨none, 0, lo, hi⟩ ⟨none, 0, lo, hi⟩ (M2.perm (List.perm_append_comm_assoc (tolE Tol.none _ _ _ _ _) [_, _, _] _))
         exact ⟨_, E1, .inl ⟨rfl, rfl, hNo⟩, hE1, S.sub _ rfl, M3⟩)
      | (have hNo : s.NoHear m := fun o9 h9 e1 e2 e3 e4 e5 => by
           rcases hF with ⟨k, q, h1, -⟩ | ⟨-, h2⟩
           · omega
           · have this : o9.nm.eqb m.name = false := h2 o9 (by rw [h9]; simp)
             rw [Nm.eqb_iff.2 e1] at this; exact absurd this (by decide)
         obtain ⟨lo, hi, M2⟩ := nilTol (((M.drop 5).drop 5).drop 5)
         obtain ⟨E1, hE1, M3⟩ := Dsk.close (b := bB) (D := ⟨s, Tol.none, of⟩) rl ro ⟨none, 0, lo, hi⟩ ⟨none, 0, lo, hi⟩ ⟨none, 0, lo, hi⟩ ⟨none, 0, lo, hi⟩ ⟨none, 0, lo, hi⟩ (M2.perm (List.perm_append_comm_assoc (tolE Tol.none _ _ _ _ _) [_, _, _] _))
         exact ⟨_, E1, .inl ⟨rfl, rfl, hNo⟩, hE1, S.sub _ rfl, M3⟩)
  clear S a M; intro a wc
  rintro ⟨D', E2, hD', hE2, S, M⟩
  obtain ⟨rl2, ro2, rm2, ra2, rs2, rc2, re2, M1⟩ := Dsk.open (A := _ :: _ :: A) hE2 M
  clear M; have M := M1; clear M1
  refine wp_seq ?_
  refine wp_regionKC (C := fun W => CellsAt W bB 4 (tolL D'.t rm2 ra2 rs2 rc2 re2)) [8, 9] #[false, false, false, false, false, false, false, false, false, false, false] rfl M (by kernel_rfl) ?_; clear M; intro w32 M; have hC := M.cellsAt (o := 4) (k := 5) 0 rfl rfl
  refine kc_readC 0 S rfl hC (fun w _ => y_move S rfl) ?_; clear S a; intro a S
  refine kc_readC 1 S rfl hC (fun w _ => y_nilCheck S rfl) ?_; clear S a; intro a S
  refine kc_readC 2 S rfl hC (fun w _ => y_fieldAddr (k := 0) S (by kernel_rfl) rfl) ?_; clear S a; intro a S
  refine kc_read 3 S rfl hC (fun w hW => have M := M.grow hW; y_loadAgg (cs := [_, _, _, _]) S (by kernel_rfl) rfl rfl (M.cellsAt (k := 4) 0 rfl rfl)) ?_; clear S a; intro a S
  refine kc_readC 4 S rfl hC (fun w _ => y_move S rfl) ?_; clear S a; intro a S
  refine kc_readC 5 S rfl hC (fun w _ => y_nilCheck S rfl) ?_; clear S a; intro a S
  refine kc_readC 6 S rfl hC (fun w _ => y_fieldAddr (k := 4) S (by kernel_rfl) rfl) ?_; clear S a; intro a S
  refine kc_readC 7 S rfl hC (fun w hC => y_loadAgg (cs := [_, _, _, _, _]) S (by kernel_rfl) rfl rfl (hC)) ?_; clear S a; intro a S
  refine kc_one 8 rfl (by kernel_rfl) ?_
  refine st_store (sz := 4) (us := [_, _, _, _]) S M 9 rfl (by kernel_rfl) rfl rfl rfl rfl rfl rfl (by first | decide | (simp; done) | (simp; omega)) ?_; clear M; intro w33 M
  simp only [putL, List.set_cons_zero, List.set_cons_succ, Nat.reduceAdd] at M
  replace hC := M.cellsAt (o := 4) (k := 5) 0 rfl rfl
  refine wpList_nil ?_; refine then_normal ?_; refine ⟨fun h => absurd h (by decide), hC, ?_⟩
  refine kc_one 9 rfl (by kernel_rfl) ?_
  refine st_store (sz := 5) (us := [_, _, _, _, _]) S M 8 rfl (by kernel_rfl) rfl rfl rfl rfl rfl rfl (by first | decide | (simp; done) | (simp; omega)) ?_; clear M; intro w34 M
  simp only [putL, List.set_cons_zero, List.set_cons_succ, Nat.reduceAdd] at M
  replace hC := M.cellsAt (o := 4) (k := 5) 0 rfl rfl
  refine wpList_nil ?_; refine then_normal ?_; refine ⟨fun h => absurd h (by decide), hC, ?_⟩
  refine kc_readC 10 S rfl hC (fun w _ => y_assign S rfl) ?_; clear S a; intro a S
  refine kc_end (by kernel_rfl) ?_
  refine then_normal ?_
  refine wp_ret ?_
  refine end_three S rfl (res_agg (cs := [_, _, _, _]) (by kernel_rfl) rfl rfl (M.cellsAt (k := 4) 9 rfl rfl)) (res_agg (cs := [_, _, _, _, _]) (by kernel_rfl) rfl rfl (M.cellsAt (k := 5) 8 rfl rfl)) (res_tmp rfl) ?_
  refine ⟨D'.s, D'.t, 0, rl2, ro2, rm2, ra2, rs2, rc2, re2, rfl, ?_, fun _ => ⟨hm, by assumption, hD'⟩, fun h => absurd rfl h⟩
  exact ((M.drop 0).drop 7).drop 7
end Go.Proofs.Ytniijiipkfhjgaa

namespace Go.Proofs.Ytniijiipkfhjgaa
open Go.RowKit Go.Sort
def zOf : Of8 := ⟨0, 0, 0, 0, 0, 0, 0, 0⟩
/-- what comes of an end -/
def EndR (s : Ses) (n : Nm) (er : Int) (s' : Ses) (t' : Tol) : Prop :=
  ∃ (i : Nat) (o : Ope) (D' : Dsk), s.l[i]? = some o ∧ o.nm = n ∧ o.ph = 3 ∧ s' = D'.s ∧ t' = D'.t ∧
    ((er = 0 ∧ D' = Dsk.ended ⟨s, Tol.none, zOf⟩ i o 3 0 0 true) ∨ (er = 50 ∧ D' = (Dsk.mails ⟨s, Tol.none, zOf⟩ (refuseP o 0 4)).ended i o 3 50 50 true) ∨ ((er ≠ 0 ∧ er ≠ 50) ∧ D' = Dsk.ended ⟨s, Tol.none, zOf⟩ i o 3 121 121 true))
set_option maxHeartbeats 4000000 in
theorem end_any {wo w : World} {A : List Ent} (s : Ses) (va oa : Option Addr) (vc oc : Nat) (n : Nm) (er : Int) (hR : RdS wo A s va vc oa oc) (M : Mem wo w A) (hov : s.over.length ≤ 500) (hsh : ∀ o ∈ s.l, ShOk o.sh) :
    Calls Try.prog 11 #[.agg #[.slice va s.l.length vc, .int .i64 s.last, .int .i64 s.inc, .slice oa s.over.length oc], .agg (nmL n).toArray, .int .i64 er] w fun e w' => StepP wo A e w' fun s' t' => s.May ∧ EndR s n er s' t' := by
  refine calls_enter Try.func11 rfl 74 rfl rfl ?_; intro a S
  refine nxD ?_
  refine st_box S M rfl rfl rfl #[_, _, _, _] rfl ?_; clear S M a; intro a w1 bS0 S M hB
  refine st_box S M rfl rfl rfl #[_, _, _] rfl ?_; clear S M a; intro a w2 bC0 S M hB
  refine st_alloc S M rfl rfl #[.slice none 0 0, .int .i64 0, .int .i64 0, .slice none 0 0] (by kernel_rfl) ?_; clear S M a; intro a w3 bR0 S M hB
  refine st_alloc S M rfl rfl #[.slice none 0 0, .slice none 0 0, .slice none 0 0, .slice none 0 0, .slice none 0 0] (by kernel_rfl) ?_; clear S M a; intro a w4 bT0 S M hB
  refine st_go [1] S rfl (by kernel_rfl) ?_; clear S a; intro a S
  refine nxC ?_
  refine wp_seq ?_
  refine nxD ?_
  refine st_y S rfl rfl rfl (y_loadAgg (cs := [_, _, _, _]) S (by kernel_rfl) rfl rfl (M.cellsAt (k := 4) 3 rfl rfl)) ?_; clear S a; intro a S
  refine st_call (xs := [(Operand.tmp 12)]) S (enters_of Try.func16 (by decide) rfl) rfl rfl rfl (check_any s va oa vc oc _ (hR _ (M.sub (.cons _ (.cons _ (.cons _ (.cons _ (List.Sublist.refl _))))))).1 (hR _ (M.sub (.cons _ (.cons _ (.cons _ (.cons _ (List.Sublist.refl _))))))).2 hsh) ?_
  rintro _ w5 ⟨r, rfl, hK, hr⟩; refine ⟨_, rfl, ?_⟩; clear S a; intro a S; replace M := M.grow hK
  refine st_go [1] S rfl (by kernel_rfl) ?_; clear S a; intro a S
  refine nxA ?_
  refine st_go [1, 1] S rfl (by kernel_rfl) ?_; clear S a; intro a S
  refine nxC ?_
  refine st_if (t := 15) S rfl ?_ ?_
  · clear S; intro h15 S
    refine st_condT S rfl ?_
    refine nxD ?_
    refine st_y S rfl rfl rfl (y_build (ps := []) (pl := [(0, 1), (1, 1), (2, 1), (3, 1)]) (z := [.slice none 0 0, .int .i64 0, .int .i64 0, .slice none 0 0]) (cs := [_, _, _, _]) S (by kernel_rfl) rfl (rfl)) ?_; clear S a; intro a S
    refine st_y S rfl rfl rfl (y_build (ps := []) (pl := [(0, 1), (1, 1), (2, 1), (3, 1), (4, 1)]) (z := [.slice none 0 0, .slice none 0 0, .slice none 0 0, .slice none 0 0, .slice none 0 0]) (cs := [_, _, _, _, _]) S (by kernel_rfl) rfl (rfl)) ?_; clear S a; intro a S
    refine st_go [1] S rfl (by kernel_rfl) ?_; clear S a; intro a S
    refine st_store (sz := 4) (us := [_, _, _, _]) S M 1 rfl (by kernel_rfl) rfl rfl rfl rfl rfl rfl (by first | decide | (simp; done) | (simp; omega)) ?_; clear M; intro w6 M
    simp only [putL, List.set_cons_zero, List.set_cons_succ, Nat.reduceAdd] at M
    refine st_store (sz := 5) (us := [_, _, _, _, _]) S M 0 rfl (by kernel_rfl) rfl rfl rfl rfl rfl rfl (by first | decide | (simp; done) | (simp; omega)) ?_; clear M; intro w7 M
    simp only [putL, List.set_cons_zero, List.set_cons_succ, Nat.reduceAdd] at M
    refine st_go [1] S rfl (by kernel_rfl) ?_; clear S a; intro a S
    refine nxC ?_
    refine wp_ret ?_
    refine then_ret ?_
    refine end_three S rfl (res_agg (cs := [_, _, _, _]) (by kernel_rfl) rfl rfl (M.cellsAt (k := 4) 1 rfl rfl)) (res_agg (cs := [_, _, _, _, _]) (by kernel_rfl) rfl rfl (M.cellsAt (k := 5) 0 rfl rfl)) (res_tmp rfl) ?_
    obtain ⟨lo, hi, M2⟩ := nilSes (M.drop 0 |>.drop 0 |>.drop 0 |>.drop 0)
    exact ⟨Ses.none, Tol.none, r, _, _, _, _, _, _, _, rfl, M2, fun h => by omega⟩
  clear S; intro h15 S
  refine st_condF S rfl ?_
  refine wp_skip ?_
  refine then_normal ?_
  refine wp_seq ?_
  have hm : s.May := by
    rcases hr with ⟨-, h⟩ | ⟨h, -⟩
    · exact h
    · omega
  have hml := hm.len
  refine wp_region_lit ?_
  refine st_y S rfl rfl rfl (y_loadAgg (cs := [_, _, _, _]) S (by kernel_rfl) rfl rfl (M.cellsAt (k := 4) 3 rfl rfl)) ?_; clear S a; intro a S
  refine st_call (xs := [(Operand.tmp 19)]) S (enters_of Try.func18 (by decide) rfl) rfl rfl rfl (copied_any (A := _ :: _ :: _ :: _ :: A) s va oa vc oc (fun W M9 => hR W (M9.sub (.cons _ (.cons _ (.cons _ (.cons _ (List.Sublist.refl _))))))) M (by omega) hov) ?_
  rintro _ w8 ⟨rl, ro, rfl, M1⟩; refine ⟨_, rfl, ?_⟩; clear S M a; intro a S; have M := M1; clear M1
  refine st_y S rfl rfl rfl (y_build (ps := [(0, (Operand.tmp 20))]) (pl := [(0, 4), (4, 5), (9, 8)]) (z := [.slice none 0 0, .int .i64 0, .int .i64 0, .slice none 0 0, .slice none 0 0, .slice none 0 0, .slice none 0 0, .slice none 0 0, .slice none 0 0, .int .i64 0, .int .i64 0, .int .i64 0, .int .i64 0, .int .i64 0, .int .i64 0, .int .i64 0, .int .i64 0]) (cs := [_, _, _, _, _, _, _, _, _, _, _, _, _, _, _, _, _]) S (by kernel_rfl) rfl (rfl)) ?_; clear S a; intro a S
  refine st_box S M rfl rfl rfl #[_, _, _, _, _, _, _, _, _, _, _, _, _, _, _, _, _] rfl ?_; clear S M a; intro a w9 bB S M hB
  refine st_go [1] S rfl (by kernel_rfl) ?_; clear S a; intro a S
  refine nxC ?_
  refine wp_seq ?_
  skip
  refine wp_regionK [] #[false, false, false, false, false, false, false] rfl M (by kernel_rfl) ?_; clear M; intro w10 M
  refine k_pure 0 S rfl (fun w => y_move S rfl) ?_; clear S a; intro a S
  refine k_pure 1 S rfl (fun w => y_nilCheck S rfl) ?_; clear S a; intro a S
  refine k_pure 2 S rfl (fun w => y_fieldAddr (k := 0) S (by kernel_rfl) rfl) ?_; clear S a; intro a S
  refine k_read 3 S rfl (fun w hW => have M := M.grow hW; y_loadAgg (cs := [_, _, _, _]) S (by kernel_rfl) rfl rfl (M.cellsAt (k := 4) 0 rfl rfl)) ?_; clear S a; intro a S
  refine k_read 4 S rfl (fun w hW => have M := M.grow hW; y_loadAgg (cs := [_, _, _]) S (by kernel_rfl) rfl rfl (M.cellsAt (k := 3) 5 rfl rfl)) ?_; clear S a; intro a S
  refine k_one 5 rfl (by kernel_rfl) ?_
  refine st_call (xs := [(Operand.tmp 26), (Operand.tmp 27)]) S (enters_of Try.func22 (by decide) rfl) rfl rfl rfl (place_any rl.a rl.c s.l s.last s.inc (ro.v s.over.length) n _ (M.readAll 1 rfl (by unfold maxLen; omega))) ?_
  rintro _ w11 ⟨j, rfl, hK, hF⟩; refine ⟨_, rfl, ?_⟩; clear S a; intro a S; replace M := M.grow hK
  refine wpList_nil ?_; refine then_normal ?_; refine ⟨fun _ => hK, ?_⟩
  refine k_pure 6 S rfl (fun w => y_assign S rfl) ?_; clear S a; intro a S
  refine k_end (by kernel_rfl) ?_
  refine then_normal ?_
  refine wp_seq ?_
  refine nxD ?_
  refine st_go [1, 1, 1] S rfl (by kernel_rfl) ?_; clear S a; intro a S
  refine st_if (t := 31) S rfl ?_ ?_
  · clear S; intro h31 S
    refine st_no S rfl rfl rfl ?_; clear S a; intro a S
    refine st_go [0, 0, 0, 0, 0, 0, 0, 0, 0, 1] S rfl (by kernel_rfl) ?_; clear S a; intro a S
    replace S := S.sub [(0, _), (1, _), (2, _), (3, _), (4, _), (6, _), (7, _), (8, _), (9, _), (15, _), (10, _), (11, _), (42, _)] rfl
    refine nxC ?_
    refine st_condT S rfl ?_
    refine nxD ?_
    refine st_y S rfl rfl rfl (y_build (ps := []) (pl := [(0, 1), (1, 1), (2, 1), (3, 1)]) (z := [.slice none 0 0, .int .i64 0, .int .i64 0, .slice none 0 0]) (cs := [_, _, _, _]) S (by kernel_rfl) rfl (rfl)) ?_; clear S a; intro a S
    refine st_y S rfl rfl rfl (y_build (ps := []) (pl := [(0, 1), (1, 1), (2, 1), (3, 1), (4, 1)]) (z := [.slice none 0 0, .slice none 0 0, .slice none 0 0, .slice none 0 0, .slice none 0 0]) (cs := [_, _, _, _, _]) S (by kernel_rfl) rfl (rfl)) ?_; clear S a; intro a S
    refine st_store (sz := 4) (us := [_, _, _, _]) S M 4 rfl (by kernel_rfl) rfl rfl rfl rfl rfl rfl (by first | decide | (simp; done) | (simp; omega)) ?_; clear M; intro w12 M
    simp only [putL, List.set_cons_zero, List.set_cons_succ, Nat.reduceAdd] at M
    refine st_store (sz := 5) (us := [_, _, _, _, _]) S M 3 rfl (by kernel_rfl) rfl rfl rfl rfl rfl rfl (by first | decide | (simp; done) | (simp; omega)) ?_; clear M; intro w13 M
    simp only [putL, List.set_cons_zero, List.set_cons_succ, Nat.reduceAdd] at M
    refine st_go [1] S rfl (by kernel_rfl) ?_; clear S a; intro a S
    refine nxC ?_
    refine wp_ret ?_
    refine then_ret ?_
    refine end_three S rfl (res_agg (cs := [_, _, _, _]) (by kernel_rfl) rfl rfl (M.cellsAt (k := 4) 4 rfl rfl)) (res_agg (cs := [_, _, _, _, _]) (by kernel_rfl) rfl rfl (M.cellsAt (k := 5) 3 rfl rfl)) (res_tmp rfl) ?_
    obtain ⟨lo, hi, M2⟩ := nilSes (M.drop 0 |>.drop 0 |>.drop 0 |>.drop 0 |>.drop 0 |>.drop 0 |>.drop 0)
    exact ⟨Ses.none, Tol.none, 4, _, _, _, _, _, _, _, rfl, M2, fun h => absurd h (by decide)⟩
  clear S; intro h31 S
  first
    | (obtain ⟨i, o, rfl, hio, hnm⟩ := hF.get (by omega)
       have hil := (List.getElem?_eq_some_iff.1 hio).1)
    | skip
  refine st_y S rfl rfl rfl (y_move S rfl) ?_; clear S a; intro a S
  refine st_run [1, 1, 1, 1, 1] S M rfl (by kernel_rfl) ?_; clear S a; intro a S
  refine st_y S rfl rfl rfl (y_indexR (e := 65) (sz := 37) S (by kernel_rfl) rfl (M.readAll 1 rfl (by unfold maxLen; omega)) rfl (by first | omega | (simp; done) | (simp; omega))) ?_; clear S a; intro a S
  try simp only [Int.toNat_natCast, Nat.mul_one, Nat.zero_add] at S
  refine st_go [6] S rfl (by kernel_rfl) ?_; clear S a; intro a S
  refine st_y S rfl rfl rfl (y_load S (by kernel_rfl) rfl (((M.readAll 1 rfl (by unfold maxLen; omega)).at_.row (i := i) (fm_get len_ope hio) rfl) 5 (by show 5 < 37; omega))) ?_; clear S a; intro a S
  refine st_go [1, 1] S rfl (by kernel_rfl) ?_; clear S a; intro a S
  replace S := S.sub [(0, _), (1, _), (2, _), (3, _), (4, _), (6, _), (7, _), (8, _), (9, _), (15, _), (10, _), (11, _), (42, _)] rfl
  refine nxC ?_
  refine st_if (t := 42) S rfl ?_ ?_
  · clear S; intro h42 S
    refine st_condT S rfl ?_
    refine nxD ?_
    refine st_y S rfl rfl rfl (y_build (ps := []) (pl := [(0, 1), (1, 1), (2, 1), (3, 1)]) (z := [.slice none 0 0, .int .i64 0, .int .i64 0, .slice none 0 0]) (cs := [_, _, _, _]) S (by kernel_rfl) rfl (rfl)) ?_; clear S a; intro a S
    refine st_y S rfl rfl rfl (y_build (ps := []) (pl := [(0, 1), (1, 1), (2, 1), (3, 1), (4, 1)]) (z := [.slice none 0 0, .slice none 0 0, .slice none 0 0, .slice none 0 0, .slice none 0 0]) (cs := [_, _, _, _, _]) S (by kernel_rfl) rfl (rfl)) ?_; clear S a; intro a S
    refine st_store (sz := 4) (us := [_, _, _, _]) S M 4 rfl (by kernel_rfl) rfl rfl rfl rfl rfl rfl (by first | decide | (simp; done) | (simp; omega)) ?_; clear M; intro w14 M
    simp only [putL, List.set_cons_zero, List.set_cons_succ, Nat.reduceAdd] at M
    refine st_store (sz := 5) (us := [_, _, _, _, _]) S M 3 rfl (by kernel_rfl) rfl rfl rfl rfl rfl rfl (by first | decide | (simp; done) | (simp; omega)) ?_; clear M; intro w15 M
    simp only [putL, List.set_cons_zero, List.set_cons_succ, Nat.reduceAdd] at M
    refine st_go [1] S rfl (by kernel_rfl) ?_; clear S a; intro a S
    refine nxC ?_
    refine wp_ret ?_
    refine then_ret ?_
    refine end_three S rfl (res_agg (cs := [_, _, _, _]) (by kernel_rfl) rfl rfl (M.cellsAt (k := 4) 4 rfl rfl)) (res_agg (cs := [_, _, _, _, _]) (by kernel_rfl) rfl rfl (M.cellsAt (k := 5) 3 rfl rfl)) (res_tmp rfl) ?_
    obtain ⟨lo, hi, M2⟩ := nilSes (M.drop 0 |>.drop 0 |>.drop 0 |>.drop 0 |>.drop 0 |>.drop 0 |>.drop 0)
    exact ⟨Ses.none, Tol.none, 4, _, _, _, _, _, _, _, rfl, M2, fun h => absurd h (by decide)⟩
  clear S; intro h42 S
  refine st_condF S rfl ?_
  refine wp_skip ?_
  refine then_normal ?_
  have hph : o.ph = 3 := by omega
  have hty : (⟨s, Tol.none, zOf⟩ : Dsk).tiny := ⟨by show s.l.length ≤ 500; omega, hov, Nat.zero_le _, Nat.zero_le _, Nat.zero_le _, Nat.zero_le _, Nat.zero_le _⟩
  refine wp_cut (fun a w' => ∃ (D1 : Dsk) (e9 : Int) (E1 : List Ent), ((er = 0 ∧ e9 = 0 ∧ D1 = ⟨s, Tol.none, zOf⟩) ∨ (er = 50 ∧ e9 = 50 ∧ D1 = Dsk.mails ⟨s, Tol.none, zOf⟩ (refuseP o 0 4)) ∨ ((er ≠ 0 ∧ er ≠ 50) ∧ e9 = 121 ∧ D1 = ⟨s, Tol.none, zOf⟩)) ∧ DeskE bB D1 E1 ∧ Sees 74 a [(2, .int .i64 e9), (6, .pointer (some ⟨bR0, 0, none⟩)), (7, .pointer (some ⟨bT0, 0, none⟩)), (10, .pointer (some ⟨bB, 0, none⟩)), (11, .int .i64 (i : Int))] ∧ Mem wo w' (.blk bT0 (tolL Tol.none ⟨none, 0, 0, 0⟩ ⟨none, 0, 0, 0⟩ ⟨none, 0, 0, 0⟩ ⟨none, 0, 0, 0⟩ ⟨none, 0, 0, 0⟩).toArray 54 :: .blk bR0 (sesL Ses.none ⟨none, 0, 0, 0⟩ ⟨none, 0, 0, 0⟩).toArray 29 :: (A ++ E1))) ?_ ?_
  · skip
    refine nxD ?_
    refine st_go [1] S rfl (by kernel_rfl) ?_; clear S a; intro a S
    refine nxC ?_
    refine wp_block ?_
    refine nxD ?_
    refine st_go [1, 1] S rfl (by kernel_rfl) ?_; clear S a; intro a S
    refine nxC ?_
    refine st_if (t := 46) S rfl ?_ ?_
    · clear S; intro h46 S
      refine st_condT S rfl ?_
      refine wp_skip ?_
      refine block_normal ?_
      refine then_normal ?_
      first
        | exact ⟨_, er, E2, .inr (.inl ⟨by omega, by omega, rfl⟩), hE2, S.sub _ rfl, (M.drop 2).drop 2⟩
        | (obtain ⟨lo, hi, M2⟩ := nilTol ((M.drop 5).drop 5)
           obtain ⟨E1, hE1, M3⟩ := Dsk.close (b := bB) (D := ⟨s, Tol.none, zOf⟩) rl ro ⟨none, 0, lo, hi⟩ ⟨none, 0, lo, hi⟩ ⟨none, 0, lo, hi⟩ ⟨none, 0, lo, hi⟩ ⟨none, 0, lo, hi⟩ (M2.perm (List.perm_append_comm_assoc (tolE Tol.none _ _ _ _ _) [_, _, _] _))
           first
             | exact ⟨_, er, E1, .inl ⟨by omega, by omega, rfl⟩, hE1, S.sub _ rfl, M3⟩
             | exact ⟨_, 121, E1, .inr (.inr ⟨⟨by omega, by omega⟩, rfl, rfl⟩), hE1, S.sub _ rfl, M3⟩)
    clear S; intro h46 S
    refine st_condF S rfl ?_
    refine nxD ?_
    refine st_go [1, 1] S rfl (by kernel_rfl) ?_; clear S a; intro a S
    refine nxC ?_
    refine st_fi (t := 48) S rfl ?_ ?_
    · clear S; intro h48 S
      refine st_condF S rfl ?_
      refine wp_region_lit ?_
      refine st_go [1] S rfl (by kernel_rfl) ?_; clear S a; intro a S
      refine wpList_nil ?_
      refine block_normal ?_
      refine then_normal ?_
      first
        | exact ⟨_, er, E2, .inr (.inl ⟨by omega, by omega, rfl⟩), hE2, S.sub _ rfl, (M.drop 2).drop 2⟩
        | (obtain ⟨lo, hi, M2⟩ := nilTol ((M.drop 5).drop 5)
           obtain ⟨E1, hE1, M3⟩ := Dsk.close (b := bB) (D := ⟨s, Tol.none, zOf⟩) rl ro ⟨none, 0, lo, hi⟩ ⟨none, 0, lo, hi⟩ ⟨none, 0, lo, hi⟩ ⟨none, 0, lo, hi⟩ ⟨none, 0, lo, hi⟩ (M2.perm (List.perm_append_comm_assoc (tolE Tol.none _ _ _ _ _) [_, _, _] _))
           first
             | exact ⟨_, er, E1, .inl ⟨by omega, by omega, rfl⟩, hE1, S.sub _ rfl, M3⟩
             | exact ⟨_, 121, E1, .inr (.inr ⟨⟨by omega, by omega⟩, rfl, rfl⟩), hE1, S.sub _ rfl, M3⟩)
    clear S; intro h48 S
    refine st_condT S rfl ?_
    refine wp_region_lit ?_
    refine st_run [1, 1, 1, 1, 1, 1, 1] S M rfl (by kernel_rfl) ?_; clear S a; intro a S
    refine st_y S rfl rfl rfl (y_indexR (e := 65) (sz := 37) S (by kernel_rfl) rfl (M.readAll 1 rfl (by unfold maxLen; omega)) rfl (by first | omega | (simp; done) | (simp; omega))) ?_; clear S a; intro a S
    try simp only [Int.toNat_natCast, Nat.mul_one, Nat.zero_add] at S
    refine st_y S rfl rfl rfl (y_loadAgg S (by kernel_rfl) rfl rfl ((M.readAll 1 rfl (by unfold maxLen; omega)).at_.row (i := i) (fm_get len_ope hio) rfl)) ?_; clear S a; intro a S
    obtain ⟨lo, hi, M2⟩ := nilTol M
    obtain ⟨E1, hE1, M3⟩ := Dsk.close (b := bB) (D := ⟨s, Tol.none, zOf⟩) rl ro ⟨none, 0, lo, hi⟩ ⟨none, 0, lo, hi⟩ ⟨none, 0, lo, hi⟩ ⟨none, 0, lo, hi⟩ ⟨none, 0, lo, hi⟩ (M2.perm (List.perm_append_comm_assoc (tolE Tol.none _ _ _ _ _) [_, _, _] _))
    clear M; have M := M3; clear M2 M3
    refine st_call (xs := [(Operand.tmp 50), (Operand.tmp 58), (Operand.const (Value.int IntKind.i64 0))]) S (enters_of Try.func25 (by decide) rfl) rfl rfl rfl (refuse_any (A := _ :: _ :: _ :: _ :: A) o 0 hE1 M hty.small) ?_
    rintro _ w16 ⟨rfl, E2, hE2, M1⟩; refine ⟨_, rfl, ?_⟩; clear S M a; intro a S; have M := M1; clear M1
    refine wpList_nil ?_
    refine block_normal ?_
    refine then_normal ?_
    first
      | exact ⟨_, er, E2, .inr (.inl ⟨by omega, by omega, rfl⟩), hE2, S.sub _ rfl, (M.drop 2).drop 2⟩
      | (obtain ⟨lo, hi, M2⟩ := nilTol ((M.drop 5).drop 5)
         obtain ⟨E1, hE1, M3⟩ := Dsk.close (b := bB) (D := ⟨s, Tol.none, zOf⟩) rl ro ⟨none, 0, lo, hi⟩ ⟨none, 0, lo, hi⟩ ⟨none, 0, lo, hi⟩ ⟨none, 0, lo, hi⟩ ⟨none, 0, lo, hi⟩ (M2.perm (List.perm_append_comm_assoc (tolE Tol.none _ _ _ _ _) [_, _, _] _))
         first
           | exact ⟨_, er, E1, .inl ⟨by omega, by omega, rfl⟩, hE1, S.sub _ rfl, M3⟩
           | exact ⟨_, 121, E1, .inr (.inr ⟨⟨by omega, by omega⟩, rfl, rfl⟩), hE1, S.sub _ rfl, M3⟩)
  clear S a M; intro a wc
  rintro ⟨D1, e9, E1, hD1, hE1, S, M⟩
  have hpl := refuseP_len o 0 4
  have hmid : D1.mid := by
    rcases hD1 with ⟨-, -, rfl⟩ | ⟨-, -, rfl⟩ | ⟨-, -, rfl⟩
    · exact hty.mid
    · exact ⟨hty.mid.l, hty.mid.over, by show ([] ++ refuseP o 0 4).length ≤ 900; rw [List.nil_append]; omega, hty.mid.ans, hty.mid.seen, hty.mid.com, hty.mid.ends⟩
    · exact hty.mid
  have hio1 : D1.s.l[i]? = some o := by
    rcases hD1 with ⟨-, -, rfl⟩ | ⟨-, -, rfl⟩ | ⟨-, -, rfl⟩ <;> exact hio
  refine nxD ?_
  refine st_go [1, 1] S rfl (by kernel_rfl) ?_; clear S a; intro a S
  refine st_call (xs := [(Operand.tmp 60), (Operand.tmp 61), (Operand.const (Value.int IntKind.i8 3))]) S (enters_of Try.func24 (by decide) rfl) rfl rfl rfl (ending_any (A := _ :: _ :: A) i o 3 hE1 M hmid hio1) ?_
  rintro _ w17 ⟨b3, b4, b5, b7, rfl, E5, hE5, M1⟩; refine ⟨_, rfl, ?_⟩; clear S M a; intro a S; have M := M1; clear M1
  refine st_go [1, 1] S rfl (by kernel_rfl) ?_; clear S a; intro a S
  refine st_callB (xs := [(Operand.tmp 63), (Operand.tmp 64), (Operand.const (Value.bool true))]) (fi := []) (ca := [.pointer (some ⟨b3, 0, none⟩), .pointer (some ⟨b7, 0, none⟩), .pointer (some ⟨b4, 0, none⟩), .pointer (some ⟨b5, 0, none⟩)]) S (enters_of Try.func48 (by decide) rfl) rfl rfl (rfl) rfl (ending1_any (A := _ :: _ :: A) i o 3 e9 e9 true hE5 M hmid (List.getElem?_eq_some_iff.1 hio1).1) ?_
  rintro _ w18 ⟨rfl, E6, hE6, M1⟩; refine ⟨_, rfl, ?_⟩; clear S M a; intro a S; have M := M1; clear M1
  refine nxC ?_
  refine wp_seq ?_
  have hEnd : EndR s n er (D1.ended i o 3 e9 e9 true).s (D1.ended i o 3 e9 e9 true).t := by
    refine ⟨i, o, _, hio, Nm.eqb_iff.1 hnm, hph, rfl, rfl, ?_⟩
    rcases hD1 with ⟨h1, rfl, rfl⟩ | ⟨h1, rfl, rfl⟩ | ⟨h1, rfl, rfl⟩
    · exact .inl ⟨h1, rfl⟩
    · exact .inr (.inl ⟨h1, rfl⟩)
    · exact .inr (.inr ⟨h1, rfl⟩)
  obtain ⟨D', hD'⟩ : ∃ D', D1.ended i o 3 e9 e9 true = D' := ⟨_, rfl⟩
  rw [hD'] at hEnd hE6
  obtain ⟨rl2, ro2, rm2, ra2, rs2, rc2, re2, M1⟩ := Dsk.open (A := _ :: _ :: A) hE6 M
  clear M; have M := M1; clear M1
  refine wp_regionKC (C := fun W => CellsAt W bB 4 (tolL D'.t rm2 ra2 rs2 rc2 re2)) [8, 9] #[false, false, false, false, false, false, false, false, false, false, false] rfl M (by kernel_rfl) ?_; clear M; intro w19 M; have hC := M.cellsAt (o := 4) (k := 5) 0 rfl rfl
  refine kc_readC 0 S rfl hC (fun w _ => y_move S rfl) ?_; clear S a; intro a S
  refine kc_readC 1 S rfl hC (fun w _ => y_nilCheck S rfl) ?_; clear S a; intro a S
  refine kc_readC 2 S rfl hC (fun w _ => y_fieldAddr (k := 0) S (by kernel_rfl) rfl) ?_; clear S a; intro a S
  refine kc_read 3 S rfl hC (fun w hW => have M := M.grow hW; y_loadAgg (cs := [_, _, _, _]) S (by kernel_rfl) rfl rfl (M.cellsAt (k := 4) 0 rfl rfl)) ?_; clear S a; intro a S
  refine kc_readC 4 S rfl hC (fun w _ => y_move S rfl) ?_; clear S a; intro a S
  refine kc_readC 5 S rfl hC (fun w _ => y_nilCheck S rfl) ?_; clear S a; intro a S
  refine kc_readC 6 S rfl hC (fun w _ => y_fieldAddr (k := 4) S (by kernel_rfl) rfl) ?_; clear S a; intro a S
  refine kc_readC 7 S rfl hC (fun w hC => y_loadAgg (cs := [_, _, _, _, _]) S (by kernel_rfl) rfl rfl (hC)) ?_; clear S a; intro a S
  refine kc_one 8 rfl (by kernel_rfl) ?_
  refine st_store (sz := 4) (us := [_, _, _, _]) S M 9 rfl (by kernel_rfl) rfl rfl rfl rfl rfl rfl (by first | decide | (simp; done) | (simp; omega)) ?_; clear M; intro w20 M
  simp only [putL, List.set_cons_zero, List.set_cons_succ, Nat.reduceAdd] at M
  replace hC := M.cellsAt (o := 4) (k := 5) 0 rfl rfl
  refine wpList_nil ?_; refine then_normal ?_; refine ⟨fun h => absurd h (by decide), hC, ?_⟩
  refine kc_one 9 rfl (by kernel_rfl) ?_
  refine st_store (sz := 5) (us := [_, _, _, _, _]) S M 8 rfl (by kernel_rfl) rfl rfl rfl rfl rfl rfl (by first | decide | (simp; done) | (simp; omega)) ?_; clear M; intro w21 M
  simp only [putL, List.set_cons_zero, List.set_cons_succ, Nat.reduceAdd] at M
  replace hC := M.cellsAt (o := 4) (k := 5) 0 rfl rfl
  refine wpList_nil ?_; refine then_normal ?_; refine ⟨fun h => absurd h (by decide), hC, ?_⟩
  refine kc_readC 10 S rfl hC (fun w _ => y_assign S rfl) ?_; clear S a; intro a S
  refine kc_end (by kernel_rfl) ?_
  replace S := S.sub [(2, _), (6, _), (7, _), (10, _), (11, _), (8, _)] rfl
  refine then_normal ?_
  refine wp_ret ?_
  refine end_three S rfl (res_agg (cs := [_, _, _, _]) (by kernel_rfl) rfl rfl (M.cellsAt (k := 4) 9 rfl rfl)) (res_agg (cs := [_, _, _, _, _]) (by kernel_rfl) rfl rfl (M.cellsAt (k := 5) 8 rfl rfl)) (res_tmp rfl) ?_
  refine ⟨D'.s, D'.t, 0, rl2, ro2, rm2, ra2, rs2, rc2, re2, rfl, ?_, fun _ => ⟨hm, hEnd⟩⟩
  exact ((M.drop 0).drop 7).drop 7
end Go.Proofs.Ytniijiipkfhjgaa

namespace Go.Proofs.Ytniijiipkfhjgaa
open Go.RowKit Go.Sort
def tickM (o : Ope) : List Msg := if o.ph = 1 then [o.ex] else if o.ph = 2 then [o.fast] else []
def tickP (l : List Ope) : List Msg := l.flatMap tickM
theorem tickP_len : ∀ l : List Ope, (tickP l).length ≤ l.length
  | [] => Nat.le_refl _
  | o :: l => by
    have := tickP_len l
    show (tickM o ++ tickP l).length ≤ _
    rw [List.length_append, List.length_cons]
    have h1 : (tickM o).length ≤ 1 := by
      unfold tickM
      split
      · simp
      · split <;> simp
    omega
theorem tickP_snoc {l : List Ope} {k : Nat} {o : Ope} (h : l[k]? = some o) : tickP (l.take (k + 1)) = tickP (l.take k) ++ tickM o := by
  unfold tickP; rw [List.take_add_one, h]; simp
set_option maxHeartbeats 4000000 in
theorem tick_any {wo w : World} {A : List Ent} (s : Ses) (va oa : Option Addr) (vc oc : Nat) (of : Of8) (hR : RdS wo A s va vc oa oc) (M : Mem wo w A) (hov : s.over.length ≤ 500) (hsh : ∀ o ∈ s.l, ShOk o.sh) :
    Calls Try.prog 12 #[.agg #[.slice va s.l.length vc, .int .i64 s.last, .int .i64 s.inc, .slice oa s.over.length oc], .agg of.cellsL.toArray] w fun e w' => StepP wo A e w' fun s' t' => s.May ∧ s' = s ∧ t' = { Tol.none with mail := tickP s.l } := by
  refine calls_enter Try.func12 rfl 74 rfl rfl ?_; intro a S
  refine nxD ?_
  refine st_box S M rfl rfl rfl #[_, _, _, _] rfl ?_; clear S M a; intro a w1 bS0 S M hB
  refine st_box S M rfl rfl rfl #[_, _, _, _, _, _, _, _] rfl ?_; clear S M a; intro a w2 bF0 S M hB
  refine st_alloc S M rfl rfl #[.slice none 0 0, .int .i64 0, .int .i64 0, .slice none 0 0] (by kernel_rfl) ?_; clear S M a; intro a w3 bR0 S M hB
  refine st_alloc S M rfl rfl #[.slice none 0 0, .slice none 0 0, .slice none 0 0, .slice none 0 0, .slice none 0 0] (by kernel_rfl) ?_; clear S M a; intro a w4 bT0 S M hB
  refine st_go [1] S rfl (by kernel_rfl) ?_; clear S a; intro a S
  refine nxC ?_
  refine wp_seq ?_
  refine nxD ?_
  refine st_y S rfl rfl rfl (y_loadAgg (cs := [_, _, _, _]) S (by kernel_rfl) rfl rfl (M.cellsAt (k := 4) 3 rfl rfl)) ?_; clear S a; intro a S
  refine st_call (xs := [(Operand.tmp 11)]) S (enters_of Try.func16 (by decide) rfl) rfl rfl rfl (check_any s va oa vc oc _ (hR _ (M.sub (.cons _ (.cons _ (.cons _ (.cons _ (List.Sublist.refl _))))))).1 (hR _ (M.sub (.cons _ (.cons _ (.cons _ (.cons _ (List.Sublist.refl _))))))).2 hsh) ?_
  rintro _ w5 ⟨r, rfl, hK, hr⟩; refine ⟨_, rfl, ?_⟩; clear S a; intro a S; replace M := M.grow hK
  refine st_go [1] S rfl (by kernel_rfl) ?_; clear S a; intro a S
  refine nxA ?_
  refine st_go [1, 1] S rfl (by kernel_rfl) ?_; clear S a; intro a S
  refine nxC ?_
  refine st_if (t := 14) S rfl ?_ ?_
  · clear S; intro h14 S
    refine st_condT S rfl ?_
    refine nxD ?_
    refine st_y S rfl rfl rfl (y_build (ps := []) (pl := [(0, 1), (1, 1), (2, 1), (3, 1)]) (z := [.slice none 0 0, .int .i64 0, .int .i64 0, .slice none 0 0]) (cs := [_, _, _, _]) S (by kernel_rfl) rfl (rfl)) ?_; clear S a; intro a S
    refine st_y S rfl rfl rfl (y_build (ps := []) (pl := [(0, 1), (1, 1), (2, 1), (3, 1), (4, 1)]) (z := [.slice none 0 0, .slice none 0 0, .slice none 0 0, .slice none 0 0, .slice none 0 0]) (cs := [_, _, _, _, _]) S (by kernel_rfl) rfl (rfl)) ?_; clear S a; intro a S
    refine st_go [1] S rfl (by kernel_rfl) ?_; clear S a; intro a S
    refine st_store (sz := 4) (us := [_, _, _, _]) S M 1 rfl (by kernel_rfl) rfl rfl rfl rfl rfl rfl (by first | decide | (simp; done) | (simp; omega)) ?_; clear M; intro w6 M
    simp only [putL, List.set_cons_zero, List.set_cons_succ, Nat.reduceAdd] at M
    refine st_store (sz := 5) (us := [_, _, _, _, _]) S M 0 rfl (by kernel_rfl) rfl rfl rfl rfl rfl rfl (by first | decide | (simp; done) | (simp; omega)) ?_; clear M; intro w7 M
    simp only [putL, List.set_cons_zero, List.set_cons_succ, Nat.reduceAdd] at M
    refine st_go [1] S rfl (by kernel_rfl) ?_; clear S a; intro a S
    refine nxC ?_
    refine wp_ret ?_
    refine then_ret ?_
    refine end_three S rfl (res_agg (cs := [_, _, _, _]) (by kernel_rfl) rfl rfl (M.cellsAt (k := 4) 1 rfl rfl)) (res_agg (cs := [_, _, _, _, _]) (by kernel_rfl) rfl rfl (M.cellsAt (k := 5) 0 rfl rfl)) (res_tmp rfl) ?_
    obtain ⟨lo, hi, M2⟩ := nilSes (M.drop 0 |>.drop 0 |>.drop 0 |>.drop 0)
    exact ⟨Ses.none, Tol.none, r, _, _, _, _, _, _, _, rfl, M2, fun h => by omega⟩
  clear S; intro h14 S
  refine st_condF S rfl ?_
  refine wp_skip ?_
  refine then_normal ?_
  refine wp_seq ?_
  have hm : s.May := by
    rcases hr with ⟨-, h⟩ | ⟨h, -⟩
    · exact h
    · omega
  have hml := hm.len
  refine wp_regionKC (C := fun W => CellsAt W bF0 0 of.cellsL) [1] #[false, false, false, false, false, false] rfl M (by kernel_rfl) ?_; clear M; intro w8 M; have hC := M.cellsAt (o := 0) (k := 8) 2 rfl rfl
  refine kc_read 0 S rfl hC (fun w hW => have M := M.grow hW; y_loadAgg (cs := [_, _, _, _]) S (by kernel_rfl) rfl rfl (M.cellsAt (k := 4) 3 rfl rfl)) ?_; clear S a; intro a S
  refine kc_readC 2 S rfl hC (fun w hC => y_loadAgg (cs := [_, _, _, _, _, _, _, _]) S (by kernel_rfl) rfl rfl (hC)) ?_; clear S a; intro a S
  refine kc_one 1 rfl (by kernel_rfl) ?_
  refine st_call (xs := [(Operand.tmp 18)]) S (enters_of Try.func18 (by decide) rfl) rfl rfl rfl (copied_any (A := _ :: _ :: _ :: _ :: A) s va oa vc oc (fun W M9 => hR W (M9.sub (.cons _ (.cons _ (.cons _ (.cons _ (List.Sublist.refl _))))))) M (by omega) hov) ?_
  rintro _ w9 ⟨⟨la, lc, llo, lhi⟩, ro, rfl, M1⟩; refine ⟨_, rfl, ?_⟩; clear S M a; intro a S; have M := M1; clear M1
  replace hC := M.cellsAt (o := 0) (k := 8) 4 rfl rfl
  refine wpList_nil ?_; refine then_normal ?_; refine ⟨fun h => absurd h (by decide), hC, ?_⟩
  refine kc_readC 3 S rfl hC (fun w _ => y_build (ps := [(0, (Operand.tmp 19)), (2, (Operand.tmp 20))]) (pl := [(0, 4), (4, 5), (9, 8)]) (z := [.slice none 0 0, .int .i64 0, .int .i64 0, .slice none 0 0, .slice none 0 0, .slice none 0 0, .slice none 0 0, .slice none 0 0, .slice none 0 0, .int .i64 0, .int .i64 0, .int .i64 0, .int .i64 0, .int .i64 0, .int .i64 0, .int .i64 0, .int .i64 0]) (cs := [_, _, _, _, _, _, _, _, _, _, _, _, _, _, _, _, _]) S (by kernel_rfl) rfl (rfl)) ?_; clear S a; intro a S
  refine kc_one 4 rfl (by kernel_rfl) ?_
  refine st_box S M rfl rfl rfl #[_, _, _, _, _, _, _, _, _, _, _, _, _, _, _, _, _] rfl ?_; clear S M a; intro a w10 bB S M hB
  replace hC := M.cellsAt (o := 0) (k := 8) 5 rfl rfl
  refine wpList_nil ?_; refine then_normal ?_; refine ⟨fun _ => hB, hC, ?_⟩
  refine kc_readC 5 S rfl hC (fun w _ => y_assign S rfl) ?_; clear S a; intro a S
  refine kc_end (by kernel_rfl) ?_
  refine then_normal ?_
  refine wp_seq ?_
  refine wp_seq ?_
  skip
  refine wp_region_lit ?_
  refine st_run [1, 1, 1, 1, 1] S M rfl (by kernel_rfl) ?_; clear S a; intro a S
  refine st_y S rfl rfl rfl (y_lenS (E := 65) S rfl (by kernel_rfl)) ?_; clear S a; intro a S
  refine st_go [1] S rfl (by kernel_rfl) ?_; clear S a; intro a S
  refine nxC ?_
  refine wp_block ?_
  refine wp_loop_g (fun m a w' => ∃ (k : Nat) (E1 : List Ent), k ≤ s.l.length ∧ m = s.l.length - k ∧ DeskR bB la lc (Dsk.mails ⟨s, Tol.none, of⟩ (tickP (s.l.take k))) E1 ∧ Sees 74 a [(4, .pointer (some ⟨bR0, 0, none⟩)), (5, .pointer (some ⟨bT0, 0, none⟩)), (8, .pointer (some ⟨bB, 0, none⟩)), (27, .slice la s.l.length lc), (28, .int .i64 (s.l.length : Int)), (29, .int .i64 (k : Int))] ∧ Mem wo w' (.blk bT0 (tolL Tol.none ⟨none, 0, 0, 0⟩ ⟨none, 0, 0, 0⟩ ⟨none, 0, 0, 0⟩ ⟨none, 0, 0, 0⟩ ⟨none, 0, 0, 0⟩).toArray 54 :: .blk bR0 (sesL Ses.none ⟨none, 0, 0, 0⟩ ⟨none, 0, 0, 0⟩).toArray 29 :: (A ++ E1))) (s.l.length) ?_ ?_
  · skip
    obtain ⟨lo, hi, M2⟩ := nilTol ((M.drop 5).drop 5)
    obtain ⟨E1, hE1, M3⟩ := Dsk.closeR (b := bB) (D := ⟨s, Tol.none, of⟩) ⟨la, lc, llo, lhi⟩ ro ⟨none, 0, lo, hi⟩ ⟨none, 0, lo, hi⟩ ⟨none, 0, lo, hi⟩ ⟨none, 0, lo, hi⟩ ⟨none, 0, lo, hi⟩ (M2.perm (List.perm_append_comm_assoc (tolE Tol.none _ _ _ _ _) [_, _, _] _))
    exact ⟨0, E1, Nat.zero_le _, rfl, hE1, S.sub _ rfl, M3⟩
  clear S M a; intro m a wl
  rintro ⟨k, E1, hk, rfl, hE1, S, M⟩
  have hpl := tickP_len (s.l.take k)
  rw [List.length_take] at hpl
  have hsm : (Dsk.mails ⟨s, Tol.none, of⟩ (tickP (s.l.take k))).t.mail.length ≤ 8 := by show ([] ++ tickP (s.l.take k)).length ≤ 8; rw [List.nil_append]; omega
  obtain ⟨D1, hD1⟩ : ∃ D1, Dsk.mails ⟨s, Tol.none, of⟩ (tickP (s.l.take k)) = D1 := ⟨_, rfl⟩
  have hD1s : D1.s = s := by rw [← hD1]
  have hml : D1.t.mail.length ≤ 8 := by rw [← hD1]; exact hsm
  clear hsm
  obtain ⟨⟨la2, lc2, llo2, lhi2⟩, ro2, rm2, ra2, rs2, rc2, re2, hla, hlc, M1⟩ := Dsk.openR (A := _ :: _ :: A) hE1 M
  rw [hD1] at M1
  obtain rfl : la2 = la := hla
  obtain rfl : lc2 = lc := hlc
  clear M hE1; have M := M1; clear M1
  subst hD1s
  refine nxD ?_
  refine st_go [1] S rfl (by kernel_rfl) ?_; clear S a; intro a S
  refine nxC ?_
  refine wp_seq ?_
  refine st_fi (t := 30) S rfl ?_ ?_
  · clear S; intro h30 S
    refine st_condF S rfl ?_
    refine wp_exit ?_
    refine then_exit ?_
    refine then_exit ?_
    refine block_hit ?_
    refine then_normal ?_
    refine wp_seq ?_
    skip
    refine wp_regionKC (C := fun W => CellsAt W bB 4 (tolL D1.t rm2 ra2 rs2 rc2 re2)) [8, 9] #[false, false, false, false, false, false, false, false, false, false, false] rfl M (by kernel_rfl) ?_; clear M; intro w22 M; have hC := M.cellsAt (o := 4) (k := 5) 0 rfl rfl
    refine kc_readC 0 S rfl hC (fun w _ => y_move S rfl) ?_; clear S a; intro a S
    refine kc_readC 1 S rfl hC (fun w _ => y_nilCheck S rfl) ?_; clear S a; intro a S
    refine kc_readC 2 S rfl hC (fun w _ => y_fieldAddr (k := 0) S (by kernel_rfl) rfl) ?_; clear S a; intro a S
    refine kc_read 3 S rfl hC (fun w hW => have M := M.grow hW; y_loadAgg (cs := [_, _, _, _]) S (by kernel_rfl) rfl rfl (M.cellsAt (k := 4) 0 rfl rfl)) ?_; clear S a; intro a S
    refine kc_readC 4 S rfl hC (fun w _ => y_move S rfl) ?_; clear S a; intro a S
    refine kc_readC 5 S rfl hC (fun w _ => y_nilCheck S rfl) ?_; clear S a; intro a S
    refine kc_readC 6 S rfl hC (fun w _ => y_fieldAddr (k := 4) S (by kernel_rfl) rfl) ?_; clear S a; intro a S
    refine kc_readC 7 S rfl hC (fun w hC => y_loadAgg (cs := [_, _, _, _, _]) S (by kernel_rfl) rfl rfl (hC)) ?_; clear S a; intro a S
    refine kc_one 8 rfl (by kernel_rfl) ?_
    refine st_store (sz := 4) (us := [_, _, _, _]) S M 9 rfl (by kernel_rfl) rfl rfl rfl rfl rfl rfl (by first | decide | (simp; done) | (simp; omega)) ?_; clear M; intro w23 M
    simp only [putL, List.set_cons_zero, List.set_cons_succ, Nat.reduceAdd] at M
    replace hC := M.cellsAt (o := 4) (k := 5) 0 rfl rfl
    refine wpList_nil ?_; refine then_normal ?_; refine ⟨fun h => absurd h (by decide), hC, ?_⟩
    refine kc_one 9 rfl (by kernel_rfl) ?_
    refine st_store (sz := 5) (us := [_, _, _, _, _]) S M 8 rfl (by kernel_rfl) rfl rfl rfl rfl rfl rfl (by first | decide | (simp; done) | (simp; omega)) ?_; clear M; intro w24 M
    simp only [putL, List.set_cons_zero, List.set_cons_succ, Nat.reduceAdd] at M
    replace hC := M.cellsAt (o := 4) (k := 5) 0 rfl rfl
    refine wpList_nil ?_; refine then_normal ?_; refine ⟨fun h => absurd h (by decide), hC, ?_⟩
    refine kc_readC 10 S rfl hC (fun w _ => y_assign S rfl) ?_; clear S a; intro a S
    refine kc_end (by kernel_rfl) ?_
    refine then_normal ?_
    refine wp_ret ?_
    refine end_three S rfl (res_agg (cs := [_, _, _, _]) (by kernel_rfl) rfl rfl (M.cellsAt (k := 4) 9 rfl rfl)) (res_agg (cs := [_, _, _, _, _]) (by kernel_rfl) rfl rfl (M.cellsAt (k := 5) 8 rfl rfl)) (res_tmp rfl) ?_
    have hke : D1.s.l.take k = D1.s.l := List.take_of_length_le (by omega)
    refine ⟨D1.s, D1.t, 0, ⟨la2, lc2, llo2, lhi2⟩, ro2, rm2, ra2, rs2, rc2, re2, rfl, ((M.drop 0).drop 7).drop 7, fun _ => ⟨hm, rfl, ?_⟩⟩
    rw [hke] at hD1
    have := congrArg Dsk.t hD1
    rw [← this]; rfl
  clear S; intro h30 S
  refine st_condT S rfl ?_
  refine wp_skip ?_
  refine then_normal ?_
  refine wp_seq ?_
  refine wp_block ?_
  refine wp_seq ?_
  obtain ⟨q, hq⟩ : ∃ q, D1.s.l[k]? = some q := ⟨_, List.getElem?_eq_getElem (by omega)⟩
  refine wp_region_lit ?_
  refine st_y S rfl rfl rfl (y_indexR (e := 65) (sz := 37) S (by kernel_rfl) rfl ((M.readAll 1 rfl (by unfold maxLen; omega))) rfl (by first | omega | (simp; done) | (simp; omega))) ?_; clear S a; intro a S
  try simp only [Int.toNat_natCast, Nat.mul_one, Nat.zero_add] at S
  refine st_y S rfl rfl rfl (y_loadAgg S (by kernel_rfl) rfl rfl ((M.readAll 1 rfl (by unfold maxLen; omega)).at_.row (i := k) (fm_get len_ope hq) rfl)) ?_; clear S a; intro a S
  refine st_alloc S M rfl rfl #[.int .i64 0, .int .i64 0, .int .i64 0, .int .i64 0, .int .i64 0, .int .i8 0, .int .i64 0, .int .i64 0, .int .i64 0, .int .i64 0, .int .i64 0, .int .i64 0, .int .i64 0, .int .i8 0, .int .i64 0, .int .i64 0, .int .i64 0, .int .i64 0, .int .i64 0, .int .i64 0, .int .i64 0, .int .i64 0, .int .i8 0, .int .i64 0, .int .u8 0, .int .u8 0, .int .u8 0, .int .u8 0, .int .u8 0, .int .u8 0, .int .u8 0, .int .u8 0, .int .i64 0, .bool false, .int .i64 0, .int .i64 0, .slice none 0 0] (by kernel_rfl) ?_; clear S M a; intro a w11 bX S M hB
  refine st_store (sz := 37) (us := [_, _, _, _, _, _, _, _, _, _, _, _, _, _, _, _, _, _, _, _, _, _, _, _, _, _, _, _, _, _, _, _, _, _, _, _, _]) S M 0 rfl (by kernel_rfl) rfl rfl rfl rfl rfl rfl (by first | decide | (simp; done) | (simp; omega)) ?_; clear M; intro w12 M
  simp only [putL, List.set_cons_zero, List.set_cons_succ, Nat.reduceAdd] at M
  refine nxA ?_
  refine st_run [6, 1] S M rfl (by kernel_rfl) ?_; clear S a; intro a S
  refine nxC ?_
  refine wp_block ?_
  refine nxD ?_
  refine st_go [1, 1] S rfl (by kernel_rfl) ?_; clear S a; intro a S
  refine nxC ?_
  refine st_if (t := 35) S rfl ?_ ?_
  · clear S; intro h35 S
    refine st_condT S rfl ?_
    refine wp_regionK [9, 13] #[false, false, false, false, false, false, false, false, false, false, false, false, false, false] rfl M (by kernel_rfl) ?_; clear M; intro w13 M
    refine k_pure 0 S rfl (fun w => y_move S rfl) ?_; clear S a; intro a S
    refine k_pure 1 S rfl (fun w => y_move S rfl) ?_; clear S a; intro a S
    refine k_pure 2 S rfl (fun w => y_nilCheck S rfl) ?_; clear S a; intro a S
    refine k_pure 3 S rfl (fun w => y_fieldAddr (k := 4) S (by kernel_rfl) rfl) ?_; clear S a; intro a S
    refine k_pure 4 S rfl (fun w => y_fieldAddr (k := 0) S (by kernel_rfl) rfl) ?_; clear S a; intro a S
    refine k_read 5 S rfl (fun w hW => have M := M.grow hW; y_load S (by kernel_rfl) rfl (M.cell 1 rfl rfl)) ?_; clear S a; intro a S
    refine k_pure 6 S rfl (fun w => y_fieldAddr (k := 13) S (by kernel_rfl) rfl) ?_; clear S a; intro a S
    refine k_read 7 S rfl (fun w hW => have M := M.grow hW; y_loadAgg (cs := [_, _, _, _, _, _, _, _, _, _, _, _, _, _, _, _, _, _, _, _, _, _, _, _]) S (by kernel_rfl) rfl rfl (M.cellsAt (k := 24) 0 rfl rfl)) ?_; clear S a; intro a S
    refine k_one 8 rfl (by kernel_rfl) ?_
    refine st_lit (ps := [(0, (Operand.tmp 44))]) (e := 45) (sz := 24) (zl := [.int .i8 0, .int .i64 0, .int .i64 0, .int .i64 0, .int .i64 0, .int .i64 0, .int .i64 0, .int .i64 0, .int .i64 0, .int .i8 0, .int .i64 0, .int .u8 0, .int .u8 0, .int .u8 0, .int .u8 0, .int .u8 0, .int .u8 0, .int .u8 0, .int .u8 0, .int .i64 0, .bool false, .int .i64 0, .int .i64 0, .slice none 0 0]) (cs := msgL q.ex) S M rfl rfl (by kernel_rfl) rfl (by kernel_rfl) ?_; clear S M a; intro a w14 bZ S M hB
    refine wpList_nil ?_; refine then_normal ?_; refine ⟨fun _ => hB, ?_⟩
    refine k_one 9 rfl (by kernel_rfl) ?_
    refine st_append (e := 45) (sz := 24) (by_ := 152) (zc := [.int .i8 0, .int .i64 0, .int .i64 0, .int .i64 0, .int .i64 0, .int .i64 0, .int .i64 0, .int .i64 0, .int .i64 0, .int .i8 0, .int .i64 0, .int .u8 0, .int .u8 0, .int .u8 0, .int .u8 0, .int .u8 0, .int .u8 0, .int .u8 0, .int .u8 0, .int .i64 0, .bool false, .int .i64 0, .int .i64 0, .slice none 0 0]) S M 5 rfl rfl (by kernel_rfl) rfl (by decide) rfl rfl rfl (show Rd _ _ _ 24 _ 1 (msgL q.ex) from M.sliceAt 0 rfl (M.cellsAt (k := 24) 0 rfl rfl) rfl (Nat.le_refl _) (by unfold maxLen; omega)) (rfl) (by omega) (by unfold maxLen; omega) ?_; clear S M a; intro a w15 vA loA hiA S M
    refine wpList_nil ?_; refine then_normal ?_; refine ⟨fun h => absurd h (by decide), ?_⟩
    refine k_pure 10 S rfl (fun w => y_nilCheck S rfl) ?_; clear S a; intro a S
    refine k_pure 11 S rfl (fun w => y_fieldAddr (k := 4) S (by kernel_rfl) rfl) ?_; clear S a; intro a S
    refine k_pure 12 S rfl (fun w => y_fieldAddr (k := 0) S (by kernel_rfl) rfl) ?_; clear S a; intro a S
    refine k_one 13 rfl (by kernel_rfl) ?_
    obtain ⟨aA, cA, rfl, -, -⟩ := (M.readAll 0 rfl (by unfold maxLen; omega)).form
    refine st_store (sz := 1) (us := [_]) S M 3 rfl (by kernel_rfl) rfl rfl rfl rfl rfl rfl (by first | decide | (simp; done) | (simp; omega)) ?_; clear M; intro w16 M
    simp only [putL, List.set_cons_zero, List.set_cons_succ, Nat.reduceAdd] at M
    refine wpList_nil ?_; refine then_normal ?_; refine ⟨fun h => absurd h (by decide), ?_⟩
    refine k_end (by kernel_rfl) ?_
    replace S := S.sub [(4, _), (5, _), (8, _), (27, _), (28, _), (29, _), (30, _), (10, _), (34, _), (35, _)] rfl
    refine block_normal ?_
    refine block_normal ?_
    refine nxF ?_
    (first | refine st_y S rfl rfl rfl (y_addN S rfl rfl (by omega)) ?_ | refine st_y S rfl rfl rfl (y_int S rfl rfl rfl) ?_); clear S a; intro a S
    refine st_go [1] S rfl (by kernel_rfl) ?_; clear S a; intro a S
    refine nxC ?_
    first
      | (have ht : tickM q = [q.ex] := by unfold tickM; rw [if_pos (by omega)]
         obtain ⟨E2, hE2, M2⟩ := Dsk.closeM (D := D1) (x := q.ex) ⟨la2, lc2, llo2, lhi2⟩ ro2 ra2 rs2 rc2 re2 aA cA loA hiA (((M.drop 1).drop 1).perm (List.perm_middle (l₁ := [_, _, _])).symm)
         have he : D1.mail q.ex = Dsk.mails ⟨D1.s, Tol.none, of⟩ (tickP (D1.s.l.take (k + 1))) := by
           rw [tickP_snoc hq, ht, mails_snoc, hD1]
         rw [he] at hE2
         exact ⟨D1.s.l.length - (k + 1), by omega, k + 1, E2, by omega, rfl, hE2, S.sub _ rfl, M2⟩)
      | (have ht : tickM q = [q.fast] := by unfold tickM; rw [if_neg (by omega), if_pos (by omega)]
         obtain ⟨E2, hE2, M2⟩ := Dsk.closeM (D := D1) (x := q.fast) ⟨la2, lc2, llo2, lhi2⟩ ro2 ra2 rs2 rc2 re2 aA cA loA hiA (((M.drop 1).drop 1).perm (List.perm_middle (l₁ := [_, _, _])).symm)
         have he : D1.mail q.fast = Dsk.mails ⟨D1.s, Tol.none, of⟩ (tickP (D1.s.l.take (k + 1))) := by
           rw [tickP_snoc hq, ht, mails_snoc, hD1]
         rw [he] at hE2
         exact ⟨D1.s.l.length - (k + 1), by omega, k + 1, E2, by omega, rfl, hE2, S.sub _ rfl, M2⟩)
      | (have ht : tickM q = [] := by unfold tickM; rw [if_neg (by omega), if_neg (by omega)]
         obtain ⟨E2, hE2, M2⟩ := Dsk.closeR (D := D1) ⟨la2, lc2, llo2, lhi2⟩ ro2 rm2 ra2 rs2 rc2 re2 (M.drop 0)
         have he : tickP (D1.s.l.take (k + 1)) = tickP (D1.s.l.take k) := by rw [tickP_snoc hq, ht, List.append_nil]
         exact ⟨D1.s.l.length - (k + 1), by omega, k + 1, E2, by omega, rfl, by rw [he, hD1]; exact hE2, S.sub _ rfl, M2⟩)
  clear S; intro h35 S
  refine st_condF S rfl ?_
  refine nxD ?_
  refine st_go [1, 1] S rfl (by kernel_rfl) ?_; clear S a; intro a S
  refine nxC ?_
  refine st_fi (t := 50) S rfl ?_ ?_
  · clear S; intro h50 S
    refine st_condF S rfl ?_
    refine wp_skip ?_
    refine block_normal ?_
    refine block_normal ?_
    refine nxF ?_
    (first | refine st_y S rfl rfl rfl (y_addN S rfl rfl (by omega)) ?_ | refine st_y S rfl rfl rfl (y_int S rfl rfl rfl) ?_); clear S a; intro a S
    refine st_go [1] S rfl (by kernel_rfl) ?_; clear S a; intro a S
    refine nxC ?_
    first
      | (have ht : tickM q = [q.ex] := by unfold tickM; rw [if_pos (by omega)]
         obtain ⟨E2, hE2, M2⟩ := Dsk.closeM (D := D1) (x := q.ex) ⟨la2, lc2, llo2, lhi2⟩ ro2 ra2 rs2 rc2 re2 aA cA loA hiA (((M.drop 1).drop 1).perm (List.perm_middle (l₁ := [_, _, _])).symm)
         have he : D1.mail q.ex = Dsk.mails ⟨D1.s, Tol.none, of⟩ (tickP (D1.s.l.take (k + 1))) := by
           rw [tickP_snoc hq, ht, mails_snoc, hD1]
         rw [he] at hE2
         exact ⟨D1.s.l.length - (k + 1), by omega, k + 1, E2, by omega, rfl, hE2, S.sub _ rfl, M2⟩)
      | (have ht : tickM q = [q.fast] := by unfold tickM; rw [if_neg (by omega), if_pos (by omega)]
         obtain ⟨E2, hE2, M2⟩ := Dsk.closeM (D := D1) (x := q.fast) ⟨la2, lc2, llo2, lhi2⟩ ro2 ra2 rs2 rc2 re2 aA cA loA hiA (((M.drop 1).drop 1).perm (List.perm_middle (l₁ := [_, _, _])).symm)
         have he : D1.mail q.fast = Dsk.mails ⟨D1.s, Tol.none, of⟩ (tickP (D1.s.l.take (k + 1))) := by
           rw [tickP_snoc hq, ht, mails_snoc, hD1]
         rw [he] at hE2
         exact ⟨D1.s.l.length - (k + 1), by omega, k + 1, E2, by omega, rfl, hE2, S.sub _ rfl, M2⟩)
      | (have ht : tickM q = [] := by unfold tickM; rw [if_neg (by omega), if_neg (by omega)]
         obtain ⟨E2, hE2, M2⟩ := Dsk.closeR (D := D1) ⟨la2, lc2, llo2, lhi2⟩ ro2 rm2 ra2 rs2 rc2 re2 (M.drop 0)
         have he : tickP (D1.s.l.take (k + 1)) = tickP (D1.s.l.take k) := by rw [tickP_snoc hq, ht, List.append_nil]
         exact ⟨D1.s.l.length - (k + 1), by omega, k + 1, E2, by omega, rfl, by rw [he, hD1]; exact hE2, S.sub _ rfl, M2⟩)
  clear S; intro h50 S
  refine st_condT S rfl ?_
  refine wp_regionK [9, 13] #[false, false, false, false, false, false, false, false, false, false, false, false, false, false] rfl M (by kernel_rfl) ?_; clear M; intro w17 M
  refine k_pure 0 S rfl (fun w => y_move S rfl) ?_; clear S a; intro a S
  refine k_pure 1 S rfl (fun w => y_move S rfl) ?_; clear S a; intro a S
  refine k_pure 2 S rfl (fun w => y_nilCheck S rfl) ?_; clear S a; intro a S
  refine k_pure 3 S rfl (fun w => y_fieldAddr (k := 4) S (by kernel_rfl) rfl) ?_; clear S a; intro a S
  refine k_pure 4 S rfl (fun w => y_fieldAddr (k := 0) S (by kernel_rfl) rfl) ?_; clear S a; intro a S
  refine k_read 5 S rfl (fun w hW => have M := M.grow hW; y_load S (by kernel_rfl) rfl (M.cell 1 rfl rfl)) ?_; clear S a; intro a S
  refine k_read 6 S rfl (fun w hW => have M := M.grow hW; y_loadAgg (cs := [_, _, _, _, _, _, _, _, _, _, _, _, _, _, _, _, _, _, _, _, _, _, _, _, _, _, _, _, _, _, _, _, _, _, _, _, _]) S (by kernel_rfl) rfl rfl (M.cellsAt (k := 37) 0 rfl rfl)) ?_; clear S a; intro a S
  refine k_one 7 rfl (by kernel_rfl) ?_
  refine st_call (xs := [(Operand.tmp 58)]) S (enters_of Try.func26 (by decide) rfl) rfl rfl rfl (fast_any q _) ?_
  rintro _ w18 ⟨rfl, hK⟩; refine ⟨_, rfl, ?_⟩; clear S a; intro a S; replace M := M.grow hK
  refine wpList_nil ?_; refine then_normal ?_; refine ⟨fun _ => hK, ?_⟩
  refine k_one 8 rfl (by kernel_rfl) ?_
  refine st_lit (ps := [(0, (Operand.tmp 59))]) (e := 45) (sz := 24) (zl := [.int .i8 0, .int .i64 0, .int .i64 0, .int .i64 0, .int .i64 0, .int .i64 0, .int .i64 0, .int .i64 0, .int .i64 0, .int .i8 0, .int .i64 0, .int .u8 0, .int .u8 0, .int .u8 0, .int .u8 0, .int .u8 0, .int .u8 0, .int .u8 0, .int .u8 0, .int .i64 0, .bool false, .int .i64 0, .int .i64 0, .slice none 0 0]) (cs := msgL q.fast) S M rfl rfl (by kernel_rfl) rfl (by kernel_rfl) ?_; clear S M a; intro a w19 bZ S M hB
  refine wpList_nil ?_; refine then_normal ?_; refine ⟨fun _ => hB, ?_⟩
  refine k_one 9 rfl (by kernel_rfl) ?_
  refine st_append (e := 45) (sz := 24) (by_ := 152) (zc := [.int .i8 0, .int .i64 0, .int .i64 0, .int .i64 0, .int .i64 0, .int .i64 0, .int .i64 0, .int .i64 0, .int .i64 0, .int .i8 0, .int .i64 0, .int .u8 0, .int .u8 0, .int .u8 0, .int .u8 0, .int .u8 0, .int .u8 0, .int .u8 0, .int .u8 0, .int .i64 0, .bool false, .int .i64 0, .int .i64 0, .slice none 0 0]) S M 5 rfl rfl (by kernel_rfl) rfl (by decide) rfl rfl rfl (show Rd _ _ _ 24 _ 1 (msgL q.fast) from M.sliceAt 0 rfl (M.cellsAt (k := 24) 0 rfl rfl) rfl (Nat.le_refl _) (by unfold maxLen; omega)) (rfl) (by omega) (by unfold maxLen; omega) ?_; clear S M a; intro a w20 vA loA hiA S M
  refine wpList_nil ?_; refine then_normal ?_; refine ⟨fun h => absurd h (by decide), ?_⟩
  refine k_pure 10 S rfl (fun w => y_nilCheck S rfl) ?_; clear S a; intro a S
  refine k_pure 11 S rfl (fun w => y_fieldAddr (k := 4) S (by kernel_rfl) rfl) ?_; clear S a; intro a S
  refine k_pure 12 S rfl (fun w => y_fieldAddr (k := 0) S (by kernel_rfl) rfl) ?_; clear S a; intro a S
  refine k_one 13 rfl (by kernel_rfl) ?_
  obtain ⟨aA, cA, rfl, -, -⟩ := (M.readAll 0 rfl (by unfold maxLen; omega)).form
  refine st_store (sz := 1) (us := [_]) S M 3 rfl (by kernel_rfl) rfl rfl rfl rfl rfl rfl (by first | decide | (simp; done) | (simp; omega)) ?_; clear M; intro w21 M
  simp only [putL, List.set_cons_zero, List.set_cons_succ, Nat.reduceAdd] at M
  refine wpList_nil ?_; refine then_normal ?_; refine ⟨fun h => absurd h (by decide), ?_⟩
  refine k_end (by kernel_rfl) ?_
  replace S := S.sub [(4, _), (5, _), (8, _), (27, _), (28, _), (29, _), (30, _), (10, _), (34, _), (35, _), (50, _)] rfl
  refine block_normal ?_
  refine block_normal ?_
  refine nxF ?_
  (first | refine st_y S rfl rfl rfl (y_addN S rfl rfl (by omega)) ?_ | refine st_y S rfl rfl rfl (y_int S rfl rfl rfl) ?_); clear S a; intro a S
  refine st_go [1] S rfl (by kernel_rfl) ?_; clear S a; intro a S
  refine nxC ?_
  first
    | (have ht : tickM q = [q.ex] := by unfold tickM; rw [if_pos (by omega)]
       obtain ⟨E2, hE2, M2⟩ := Dsk.closeM (D := D1) (x := q.ex) ⟨la2, lc2, llo2, lhi2⟩ ro2 ra2 rs2 rc2 re2 aA cA loA hiA (((M.drop 1).drop 1).perm (List.perm_middle (l₁ := [_, _, _])).symm)
       have he : D1.mail q.ex = Dsk.mails ⟨D1.s, Tol.none, of⟩ (tickP (D1.s.l.take (k + 1))) := by
         rw [tickP_snoc hq, ht, mails_snoc, hD1]
       rw [he] at hE2
       exact ⟨D1.s.l.length - (k + 1), by omega, k + 1, E2, by omega, rfl, hE2, S.sub _ rfl, M2⟩)
    | (have ht : tickM q = [q.fast] := by unfold tickM; rw [if_neg (by omega), if_pos (by omega)]
       obtain ⟨E2, hE2, M2⟩ := Dsk.closeM (D := D1) (x := q.fast) ⟨la2, lc2, llo2, lhi2⟩ ro2 ra2 rs2 rc2 re2 aA cA loA hiA (((M.drop 1).drop 1).perm (List.perm_middle (l₁ := [_, _, _])).symm)
       have he : D1.mail q.fast = Dsk.mails ⟨D1.s, Tol.none, of⟩ (tickP (D1.s.l.take (k + 1))) := by
         rw [tickP_snoc hq, ht, mails_snoc, hD1]
       rw [he] at hE2
       exact ⟨D1.s.l.length - (k + 1), by omega, k + 1, E2, by omega, rfl, hE2, S.sub _ rfl, M2⟩)
    | (have ht : tickM q = [] := by unfold tickM; rw [if_neg (by omega), if_neg (by omega)]
       obtain ⟨E2, hE2, M2⟩ := Dsk.closeR (D := D1) ⟨la2, lc2, llo2, lhi2⟩ ro2 rm2 ra2 rs2 rc2 re2 (M.drop 0)
       have he : tickP (D1.s.l.take (k + 1)) = tickP (D1.s.l.take k) := by rw [tickP_snoc hq, ht, List.append_nil]
       exact ⟨D1.s.l.length - (k + 1), by omega, k + 1, E2, by omega, rfl, by rw [he, hD1]; exact hE2, S.sub _ rfl, M2⟩)
end Go.Proofs.Ytniijiipkfhjgaa

namespace Go.Proofs.Ytniijiipkfhjgaa
open Go.RowKit Go.Sort
/-- one open transaction, at a shard that forgot -/
def Dsk.lost (D : Dsk) (i : Nat) (o : Ope) (shard : Int) : Dsk :=
  if o.ph ≠ 2 then (D.mails (refuseP o shard 4)).ended i o o.kind 121 121 (o.ph != 0) else D.ended i o o.kind 122 122 (o.ph != 0)
/-- how far it came: the place, and the desk -/
inductive AnewTo (s : Ses) (shard : Nat) : Nat → Dsk → Prop
  | start : AnewTo s shard 0 ⟨s, Tol.none, zOf⟩
  | pass {i : Nat} {D : Dsk} {o : Ope} : AnewTo s shard i D → D.s.l[i]? = some o → (hasBit o.sh shard = false ∨ o.ph = 3) → AnewTo s shard (i + 1) D
  | lose {i : Nat} {D : Dsk} {o : Ope} : AnewTo s shard i D → D.s.l[i]? = some o → hasBit o.sh shard = true → o.ph ≠ 3 → AnewTo s shard i (D.lost i o shard)
theorem lost_len {D : Dsk} {i : Nat} {o : Ope} {shard : Int} (h : i < D.s.l.length) : (D.lost i o shard).s.l.length + 1 = D.s.l.length ∧ (D.lost i o shard).s.over.length = D.s.over.length + 1 := by
  have e : (D.s.l.eraseIdx i).length + 1 = D.s.l.length := by rw [List.length_eraseIdx, if_pos h]; omega
  unfold Dsk.lost
  split
  · exact ⟨e, by show (D.s.over ++ [_]).length = _; simp⟩
  · exact ⟨e, by show (D.s.over ++ [_]).length = _; simp⟩
structure AnewB (D : Dsk) : Prop where
  mail : D.t.mail.length + 4 * D.s.l.length ≤ 32
  over : D.s.over.length + D.s.l.length ≤ 508
  ans : D.t.ans.length + D.s.l.length ≤ 8
  seen : D.t.seen.length + D.s.l.length ≤ 8
  com : D.t.com.length ≤ 0
  ends : D.t.ends.length ≤ 0
theorem AnewB.mid {D : Dsk} (h : AnewB D) : D.mid := by
  obtain ⟨h1, h2, h3, h4, h5, h6⟩ := h
  exact ⟨by omega, by omega, by omega, by omega, by omega, by omega, by omega⟩
theorem AnewB.lost {D : Dsk} {i : Nat} {o : Ope} {shard : Int} (h : AnewB D) (hi : i < D.s.l.length) : AnewB (D.lost i o shard) := by
  obtain ⟨h1, h2, h3, h4, h5, h6⟩ := h
  obtain ⟨e1, e2⟩ := lost_len (o := o) (shard := shard) hi
  have hp := refuseP_len o shard 4
  have hm : (D.lost i o shard).t.mail.length ≤ D.t.mail.length + 4 := by
    unfold Dsk.lost
    split
    · show (D.t.mail ++ refuseP o shard 4).length ≤ _; rw [List.length_append]; omega
    · show D.t.mail.length ≤ _; omega
  have ha : (D.lost i o shard).t.ans.length ≤ D.t.ans.length + 1 := by
    unfold Dsk.lost
    split
    · show (D.t.ans ++ (if _ then [_] else [])).length ≤ _; rw [List.length_append]; split <;> simp
    · show (D.t.ans ++ (if _ then [_] else [])).length ≤ _; rw [List.length_append]; split <;> simp
  have hs : (D.lost i o shard).t.seen.length = D.t.seen.length + 1 := by
    unfold Dsk.lost
    split
    · show (D.t.seen ++ [_]).length = _; simp
    · show (D.t.seen ++ [_]).length = _; simp
  have hc : (D.lost i o shard).t.com = D.t.com := by
    unfold Dsk.lost; split <;> rfl
  have he : (D.lost i o shard).t.ends = D.t.ends := by
    unfold Dsk.lost; split <;> rfl
  exact ⟨by omega, by omega, by omega, by omega, by rw [hc]; exact h5, by rw [he]; exact h6⟩
set_option maxHeartbeats 4000000 in
theorem anew_any {wo w : World} {A : List Ent} (s : Ses) (va oa : Option Addr) (vc oc : Nat) (sh : Int) (hR : RdS wo A s va vc oa oc) (M : Mem wo w A) (hov : s.over.length ≤ 500) (hsh : ∀ o ∈ s.l, ShOk o.sh) :
    Calls Try.prog 13 #[.agg #[.slice va s.l.length vc, .int .i64 s.last, .int .i64 s.inc, .slice oa s.over.length oc], .int .i64 sh] w fun e w' => StepP wo A e w' fun s' t' => s.May ∧ (1 ≤ sh ∧ sh ≤ 4) ∧ ∃ i D', AnewTo s sh.toNat i D' ∧ D'.s.l.length ≤ i ∧ s' = D'.s ∧ t' = D'.t := by
  refine calls_enter Try.func13 rfl 83 rfl rfl ?_; intro a S
  refine nxD ?_
  refine st_box S M rfl rfl rfl #[_, _, _, _] rfl ?_; clear S M a; intro a w1 bS0 S M hB
  refine st_alloc S M rfl rfl #[.slice none 0 0, .int .i64 0, .int .i64 0, .slice none 0 0] (by kernel_rfl) ?_; clear S M a; intro a w2 bR0 S M hB
  refine st_alloc S M rfl rfl #[.slice none 0 0, .slice none 0 0, .slice none 0 0, .slice none 0 0, .slice none 0 0] (by kernel_rfl) ?_; clear S M a; intro a w3 bT0 S M hB
  refine st_go [1] S rfl (by kernel_rfl) ?_; clear S a; intro a S
  refine nxC ?_
  refine wp_seq ?_
  refine nxD ?_
  refine st_y S rfl rfl rfl (y_loadAgg (cs := [_, _, _, _]) S (by kernel_rfl) rfl rfl (M.cellsAt (k := 4) 2 rfl rfl)) ?_; clear S a; intro a S
  refine st_call (xs := [(Operand.tmp 11)]) S (enters_of Try.func16 (by decide) rfl) rfl rfl rfl (check_any s va oa vc oc _ (hR _ (M.sub (.cons _ (.cons _ (.cons _ (List.Sublist.refl _)))))).1 (hR _ (M.sub (.cons _ (.cons _ (.cons _ (List.Sublist.refl _)))))).2 hsh) ?_
  rintro _ w4 ⟨r, rfl, hK, hr⟩; refine ⟨_, rfl, ?_⟩; clear S a; intro a S; replace M := M.grow hK
  refine st_go [1, 1] S rfl (by kernel_rfl) ?_; clear S a; intro a S
  refine st_if (t := 14) S rfl ?_ ?_
  · clear S; intro h14 S
    refine st_go [0, 0, 1, 1, 0, 0, 1] S rfl (by kernel_rfl) ?_; clear S a; intro a S
    refine nxC ?_
    refine st_condT S rfl ?_
    refine nxD ?_
    refine st_y S rfl rfl rfl (y_build (ps := []) (pl := [(0, 1), (1, 1), (2, 1), (3, 1)]) (z := [.slice none 0 0, .int .i64 0, .int .i64 0, .slice none 0 0]) (cs := [_, _, _, _]) S (by kernel_rfl) rfl (rfl)) ?_; clear S a; intro a S
    refine st_y S rfl rfl rfl (y_build (ps := []) (pl := [(0, 1), (1, 1), (2, 1), (3, 1), (4, 1)]) (z := [.slice none 0 0, .slice none 0 0, .slice none 0 0, .slice none 0 0, .slice none 0 0]) (cs := [_, _, _, _, _]) S (by kernel_rfl) rfl (rfl)) ?_; clear S a; intro a S
    refine st_store (sz := 4) (us := [_, _, _, _]) S M 1 rfl (by kernel_rfl) rfl rfl rfl rfl rfl rfl (by first | decide | (simp; done) | (simp; omega)) ?_; clear M; intro w5 M
    simp only [putL, List.set_cons_zero, List.set_cons_succ, Nat.reduceAdd] at M
    refine st_store (sz := 5) (us := [_, _, _, _, _]) S M 0 rfl (by kernel_rfl) rfl rfl rfl rfl rfl rfl (by first | decide | (simp; done) | (simp; omega)) ?_; clear M; intro w6 M
    simp only [putL, List.set_cons_zero, List.set_cons_succ, Nat.reduceAdd] at M
    refine st_go [1] S rfl (by kernel_rfl) ?_; clear S a; intro a S
    refine nxC ?_
    refine wp_ret ?_
    refine then_ret ?_
    refine end_three S rfl (res_agg (cs := [_, _, _, _]) (by kernel_rfl) rfl rfl (M.cellsAt (k := 4) 1 rfl rfl)) (res_agg (cs := [_, _, _, _, _]) (by kernel_rfl) rfl rfl (M.cellsAt (k := 5) 0 rfl rfl)) (res_tmp rfl) ?_
    obtain ⟨lo, hi, M2⟩ := nilSes (M.drop 0 |>.drop 0 |>.drop 0)
    exact ⟨Ses.none, Tol.none, 2, _, _, _, _, _, _, _, rfl, M2, fun h => by omega⟩
  clear S; intro h14 S
  refine st_go [1, 1, 1, 1] S rfl (by kernel_rfl) ?_; clear S a; intro a S
  refine st_if (t := 18) S rfl ?_ ?_
  · clear S; intro h18 S
    refine st_go [0, 0, 1] S rfl (by kernel_rfl) ?_; clear S a; intro a S
    refine nxC ?_
    refine st_condT S rfl ?_
    refine nxD ?_
    refine st_y S rfl rfl rfl (y_build (ps := []) (pl := [(0, 1), (1, 1), (2, 1), (3, 1)]) (z := [.slice none 0 0, .int .i64 0, .int .i64 0, .slice none 0 0]) (cs := [_, _, _, _]) S (by kernel_rfl) rfl (rfl)) ?_; clear S a; intro a S
    refine st_y S rfl rfl rfl (y_build (ps := []) (pl := [(0, 1), (1, 1), (2, 1), (3, 1), (4, 1)]) (z := [.slice none 0 0, .slice none 0 0, .slice none 0 0, .slice none 0 0, .slice none 0 0]) (cs := [_, _, _, _, _]) S (by kernel_rfl) rfl (rfl)) ?_; clear S a; intro a S
    refine st_store (sz := 4) (us := [_, _, _, _]) S M 1 rfl (by kernel_rfl) rfl rfl rfl rfl rfl rfl (by first | decide | (simp; done) | (simp; omega)) ?_; clear M; intro w7 M
    simp only [putL, List.set_cons_zero, List.set_cons_succ, Nat.reduceAdd] at M
    refine st_store (sz := 5) (us := [_, _, _, _, _]) S M 0 rfl (by kernel_rfl) rfl rfl rfl rfl rfl rfl (by first | decide | (simp; done) | (simp; omega)) ?_; clear M; intro w8 M
    simp only [putL, List.set_cons_zero, List.set_cons_succ, Nat.reduceAdd] at M
    refine st_go [1] S rfl (by kernel_rfl) ?_; clear S a; intro a S
    refine nxC ?_
    refine wp_ret ?_
    refine then_ret ?_
    refine end_three S rfl (res_agg (cs := [_, _, _, _]) (by kernel_rfl) rfl rfl (M.cellsAt (k := 4) 1 rfl rfl)) (res_agg (cs := [_, _, _, _, _]) (by kernel_rfl) rfl rfl (M.cellsAt (k := 5) 0 rfl rfl)) (res_tmp rfl) ?_
    obtain ⟨lo, hi, M2⟩ := nilSes (M.drop 0 |>.drop 0 |>.drop 0)
    exact ⟨Ses.none, Tol.none, 2, _, _, _, _, _, _, _, rfl, M2, fun h => by omega⟩
  clear S; intro h18 S
  refine st_go [1, 1, 1] S rfl (by kernel_rfl) ?_; clear S a; intro a S
  refine nxC ?_
  refine st_if (t := 21) S rfl ?_ ?_
  · clear S; intro h21 S
    refine st_condT S rfl ?_
    refine nxD ?_
    refine st_y S rfl rfl rfl (y_build (ps := []) (pl := [(0, 1), (1, 1), (2, 1), (3, 1)]) (z := [.slice none 0 0, .int .i64 0, .int .i64 0, .slice none 0 0]) (cs := [_, _, _, _]) S (by kernel_rfl) rfl (rfl)) ?_; clear S a; intro a S
    refine st_y S rfl rfl rfl (y_build (ps := []) (pl := [(0, 1), (1, 1), (2, 1), (3, 1), (4, 1)]) (z := [.slice none 0 0, .slice none 0 0, .slice none 0 0, .slice none 0 0, .slice none 0 0]) (cs := [_, _, _, _, _]) S (by kernel_rfl) rfl (rfl)) ?_; clear S a; intro a S
    refine st_store (sz := 4) (us := [_, _, _, _]) S M 1 rfl (by kernel_rfl) rfl rfl rfl rfl rfl rfl (by first | decide | (simp; done) | (simp; omega)) ?_; clear M; intro w9 M
    simp only [putL, List.set_cons_zero, List.set_cons_succ, Nat.reduceAdd] at M
    refine st_store (sz := 5) (us := [_, _, _, _, _]) S M 0 rfl (by kernel_rfl) rfl rfl rfl rfl rfl rfl (by first | decide | (simp; done) | (simp; omega)) ?_; clear M; intro w10 M
    simp only [putL, List.set_cons_zero, List.set_cons_succ, Nat.reduceAdd] at M
    refine st_go [1] S rfl (by kernel_rfl) ?_; clear S a; intro a S
    refine nxC ?_
    refine wp_ret ?_
    refine then_ret ?_
    refine end_three S rfl (res_agg (cs := [_, _, _, _]) (by kernel_rfl) rfl rfl (M.cellsAt (k := 4) 1 rfl rfl)) (res_agg (cs := [_, _, _, _, _]) (by kernel_rfl) rfl rfl (M.cellsAt (k := 5) 0 rfl rfl)) (res_tmp rfl) ?_
    obtain ⟨lo, hi, M2⟩ := nilSes (M.drop 0 |>.drop 0 |>.drop 0)
    exact ⟨Ses.none, Tol.none, 2, _, _, _, _, _, _, _, rfl, M2, fun h => by omega⟩
  clear S; intro h21 S
  refine st_condF S rfl ?_
  refine wp_skip ?_
  refine then_normal ?_
  refine wp_seq ?_
  have hm : s.May := by
    rcases hr with ⟨-, h⟩ | ⟨h, -⟩
    · exact h
    · omega
  have hml := hm.len
  obtain ⟨k, rfl, hk1, hk4⟩ : ∃ k : Nat, sh = (k : Int) ∧ 1 ≤ k ∧ k ≤ 4 := ⟨sh.toNat, by omega, by omega, by omega⟩
  refine wp_region_lit ?_
  refine st_y S rfl rfl rfl (y_loadAgg (cs := [_, _, _, _]) S (by kernel_rfl) rfl rfl (M.cellsAt (k := 4) 2 rfl rfl)) ?_; clear S a; intro a S
  refine st_call (xs := [(Operand.tmp 24)]) S (enters_of Try.func18 (by decide) rfl) rfl rfl rfl (copied_any (A := _ :: _ :: _ :: A) s va oa vc oc (fun W M9 => hR W (M9.sub (.cons _ (.cons _ (.cons _ (List.Sublist.refl _)))))) M (by omega) hov) ?_
  rintro _ w11 ⟨rl, ro, rfl, M1⟩; refine ⟨_, rfl, ?_⟩; clear S M a; intro a S; have M := M1; clear M1
  refine st_y S rfl rfl rfl (y_build (ps := [(0, (Operand.tmp 25))]) (pl := [(0, 4), (4, 5), (9, 8)]) (z := [.slice none 0 0, .int .i64 0, .int .i64 0, .slice none 0 0, .slice none 0 0, .slice none 0 0, .slice none 0 0, .slice none 0 0, .slice none 0 0, .int .i64 0, .int .i64 0, .int .i64 0, .int .i64 0, .int .i64 0, .int .i64 0, .int .i64 0, .int .i64 0]) (cs := [_, _, _, _, _, _, _, _, _, _, _, _, _, _, _, _, _]) S (by kernel_rfl) rfl (rfl)) ?_; clear S a; intro a S
  refine st_box S M rfl rfl rfl #[_, _, _, _, _, _, _, _, _, _, _, _, _, _, _, _, _] rfl ?_; clear S M a; intro a w12 bB S M hB
  refine st_go [1] S rfl (by kernel_rfl) ?_; clear S a; intro a S
  replace S := S.sub [(0, _), (1, _), (2, _), (4, _), (5, _), (6, _), (21, _), (7, _)] rfl
  refine nxC ?_
  refine wp_seq ?_
  refine nxD ?_
  refine st_go [1] S rfl (by kernel_rfl) ?_; clear S a; intro a S
  refine nxC ?_
  refine wp_block ?_
  refine wp_loop_g (fun m a w' => ∃ (i : Nat) (D1 : Dsk) (E1 : List Ent), AnewTo s k i D1 ∧ AnewB D1 ∧ i ≤ D1.s.l.length ∧ m = D1.s.l.length - i ∧ DeskE bB D1 E1 ∧ Sees 83 a [(1, .int .i64 (k : Int)), (4, .pointer (some ⟨bR0, 0, none⟩)), (5, .pointer (some ⟨bT0, 0, none⟩)), (7, .pointer (some ⟨bB, 0, none⟩)), (8, .int .i64 (i : Int))] ∧ Mem wo w' (.blk bT0 (tolL Tol.none ⟨none, 0, 0, 0⟩ ⟨none, 0, 0, 0⟩ ⟨none, 0, 0, 0⟩ ⟨none, 0, 0, 0⟩ ⟨none, 0, 0, 0⟩).toArray 54 :: .blk bR0 (sesL Ses.none ⟨none, 0, 0, 0⟩ ⟨none, 0, 0, 0⟩).toArray 29 :: (A ++ E1))) (s.l.length) ?_ ?_
  · skip
    obtain ⟨lo, hi, M2⟩ := nilTol (M.drop 5)
    obtain ⟨E1, hE1, M3⟩ := Dsk.close (b := bB) (D := ⟨s, Tol.none, zOf⟩) rl ro ⟨none, 0, lo, hi⟩ ⟨none, 0, lo, hi⟩ ⟨none, 0, lo, hi⟩ ⟨none, 0, lo, hi⟩ ⟨none, 0, lo, hi⟩ (M2.perm (List.perm_append_comm_assoc (tolE Tol.none _ _ _ _ _) [_, _, _] _))
    exact ⟨0, _, E1, .start, ⟨by show 0 + 4 * s.l.length ≤ 32; omega, by show s.over.length + s.l.length ≤ 508; omega, by show 0 + s.l.length ≤ 8; omega, by show 0 + s.l.length ≤ 8; omega, Nat.le_refl _, Nat.le_refl _⟩, Nat.zero_le _, rfl, hE1, S.sub _ rfl, M3⟩
  clear S M a; intro m a wl
  rintro ⟨i, D1, E1, hto, hB1, hi, rfl, hE1, S, M⟩
  have hmid := hB1.mid
  have hml1 := hB1.ans
  obtain ⟨rl2, ro2, rm2, ra2, rs2, rc2, re2, M1⟩ := Dsk.open (A := _ :: _ :: A) hE1 M
  clear M hE1; have M := M1; clear M1
  refine wp_seq ?_
  refine nxD ?_
  refine st_run [1, 1, 1, 1, 1, 1] S M rfl (by kernel_rfl) ?_; clear S a; intro a S
  refine st_y S rfl rfl rfl (y_lenS (E := 65) S rfl (by kernel_rfl)) ?_; clear S a; intro a S
  refine st_go [1] S rfl (by kernel_rfl) ?_; clear S a; intro a S
  refine nxC ?_
  refine st_fi (t := 35) S rfl ?_ ?_
  · clear S; intro h35 S
    refine st_condF S rfl ?_
    refine wp_exit ?_
    refine then_exit ?_
    refine then_exit ?_
    refine block_hit ?_
    refine then_normal ?_
    refine wp_seq ?_
    skip
    refine wp_regionKC (C := fun W => CellsAt W bB 4 (tolL D1.t rm2 ra2 rs2 rc2 re2)) [8, 9] #[false, false, false, false, false, false, false, false, false, false, false] rfl M (by kernel_rfl) ?_; clear M; intro w22 M; have hC := M.cellsAt (o := 4) (k := 5) 0 rfl rfl
    refine kc_readC 0 S rfl hC (fun w _ => y_move S rfl) ?_; clear S a; intro a S
    refine kc_readC 1 S rfl hC (fun w _ => y_nilCheck S rfl) ?_; clear S a; intro a S
    refine kc_readC 2 S rfl hC (fun w _ => y_fieldAddr (k := 0) S (by kernel_rfl) rfl) ?_; clear S a; intro a S
    refine kc_read 3 S rfl hC (fun w hW => have M := M.grow hW; y_loadAgg (cs := [_, _, _, _]) S (by kernel_rfl) rfl rfl (M.cellsAt (k := 4) 0 rfl rfl)) ?_; clear S a; intro a S
    refine kc_readC 4 S rfl hC (fun w _ => y_move S rfl) ?_; clear S a; intro a S
    refine kc_readC 5 S rfl hC (fun w _ => y_nilCheck S rfl) ?_; clear S a; intro a S
    refine kc_readC 6 S rfl hC (fun w _ => y_fieldAddr (k := 4) S (by kernel_rfl) rfl) ?_; clear S a; intro a S
    refine kc_readC 7 S rfl hC (fun w hC => y_loadAgg (cs := [_, _, _, _, _]) S (by kernel_rfl) rfl rfl (hC)) ?_; clear S a; intro a S
    refine kc_one 8 rfl (by kernel_rfl) ?_
    refine st_store (sz := 4) (us := [_, _, _, _]) S M 9 rfl (by kernel_rfl) rfl rfl rfl rfl rfl rfl (by first | decide | (simp; done) | (simp; omega)) ?_; clear M; intro w23 M
    simp only [putL, List.set_cons_zero, List.set_cons_succ, Nat.reduceAdd] at M
    replace hC := M.cellsAt (o := 4) (k := 5) 0 rfl rfl
    refine wpList_nil ?_; refine then_normal ?_; refine ⟨fun h => absurd h (by decide), hC, ?_⟩
    refine kc_one 9 rfl (by kernel_rfl) ?_
    refine st_store (sz := 5) (us := [_, _, _, _, _]) S M 8 rfl (by kernel_rfl) rfl rfl rfl rfl rfl rfl (by first | decide | (simp; done) | (simp; omega)) ?_; clear M; intro w24 M
    simp only [putL, List.set_cons_zero, List.set_cons_succ, Nat.reduceAdd] at M
    replace hC := M.cellsAt (o := 4) (k := 5) 0 rfl rfl
    refine wpList_nil ?_; refine then_normal ?_; refine ⟨fun h => absurd h (by decide), hC, ?_⟩
    refine kc_readC 10 S rfl hC (fun w _ => y_assign S rfl) ?_; clear S a; intro a S
    refine kc_end (by kernel_rfl) ?_
    replace S := S.sub [(1, _), (4, _), (5, _), (7, _), (8, _), (35, _), (6, _)] rfl
    refine then_normal ?_
    refine wp_ret ?_
    refine end_three S rfl (res_agg (cs := [_, _, _, _]) (by kernel_rfl) rfl rfl (M.cellsAt (k := 4) 9 rfl rfl)) (res_agg (cs := [_, _, _, _, _]) (by kernel_rfl) rfl rfl (M.cellsAt (k := 5) 8 rfl rfl)) (res_tmp rfl) ?_
    exact ⟨D1.s, D1.t, 0, rl2, ro2, rm2, ra2, rs2, rc2, re2, rfl, ((M.drop 0).drop 7).drop 7, fun _ => ⟨hm, by omega, i, D1, by simpa using hto, by omega, rfl, rfl⟩⟩
  clear S; intro h35 S
  refine st_condT S rfl ?_
  refine wp_skip ?_
  refine then_normal ?_
  refine wp_block ?_
  refine wp_seq ?_
  obtain ⟨q, hq⟩ : ∃ q, D1.s.l[i]? = some q := ⟨_, List.getElem?_eq_getElem (by omega)⟩
  refine wp_region_lit ?_
  refine st_run [1, 1, 1, 1, 1, 1] S M rfl (by kernel_rfl) ?_; clear S a; intro a S
  refine st_y S rfl rfl rfl (y_indexR (e := 65) (sz := 37) S (by kernel_rfl) rfl (M.readAll 1 rfl (by unfold maxLen; omega)) rfl (by first | omega | (simp; done) | (simp; omega))) ?_; clear S a; intro a S
  try simp only [Int.toNat_natCast, Nat.mul_one, Nat.zero_add] at S
  refine st_y S rfl rfl rfl (y_loadAgg S (by kernel_rfl) rfl rfl ((M.readAll 1 rfl (by unfold maxLen; omega)).at_.row (i := i) (fm_get len_ope hq) rfl)) ?_; clear S a; intro a S
  refine st_alloc S M rfl rfl #[.int .i64 0, .int .i64 0, .int .i64 0, .int .i64 0, .int .i64 0, .int .i8 0, .int .i64 0, .int .i64 0, .int .i64 0, .int .i64 0, .int .i64 0, .int .i64 0, .int .i64 0, .int .i8 0, .int .i64 0, .int .i64 0, .int .i64 0, .int .i64 0, .int .i64 0, .int .i64 0, .int .i64 0, .int .i64 0, .int .i8 0, .int .i64 0, .int .u8 0, .int .u8 0, .int .u8 0, .int .u8 0, .int .u8 0, .int .u8 0, .int .u8 0, .int .u8 0, .int .i64 0, .bool false, .int .i64 0, .int .i64 0, .slice none 0 0] (by kernel_rfl) ?_; clear S M a; intro a w13 bX S M hB
  refine st_store (sz := 37) (us := [_, _, _, _, _, _, _, _, _, _, _, _, _, _, _, _, _, _, _, _, _, _, _, _, _, _, _, _, _, _, _, _, _, _, _, _, _]) S M 0 rfl (by kernel_rfl) rfl rfl rfl rfl rfl rfl (by first | decide | (simp; done) | (simp; omega)) ?_; clear M; intro w14 M
  simp only [putL, List.set_cons_zero, List.set_cons_succ, Nat.reduceAdd] at M
  replace S := S.sub [(1, _), (4, _), (5, _), (7, _), (8, _), (35, _), (9, _)] rfl
  refine nxC ?_
  refine wp_seq ?_
  refine wp_seq ?_
  refine wp_quiet M (by kernel_rfl) (by kernel_rfl) ?_
  refine qt_y S rfl rfl rfl (fun w M => y_fieldAddr (k := 6) S (by kernel_rfl) rfl) ?_; clear S a; intro a S
  refine qt_y S rfl rfl rfl (fun w M => y_load S (by kernel_rfl) rfl (M.cell 0 rfl rfl)) ?_; clear S a; intro a S
  refine qt_y S rfl rfl rfl (fun w M => y_move S rfl) ?_; clear S a; intro a S
  (first | refine qt_y S rfl rfl rfl (fun w M => y_shlN S rfl rfl (by omega) (by first | exact shl_bd (by omega) | (rw [Int.toNat_natCast]; exact shl_bd (by omega)))) ?_ | refine qt_y S rfl rfl rfl (fun w M => y_shl S rfl rfl (by omega)) ?_); clear S a; intro a S
  refine qt_y S rfl rfl rfl (fun w M => y_int S rfl rfl rfl) ?_; clear S a; intro a S
  refine qt_y S rfl rfl rfl (fun w M => y_int S rfl rfl rfl) ?_; clear S a; intro a S
  refine qt_y S rfl rfl rfl (fun w M => y_move S rfl) ?_; clear S a; intro a S
  refine st_split (t := 50) S rfl ?_ ?_
  · clear S; intro h50 S
    refine qt_skip 3 S rfl ?_; clear S a; intro a S
    refine qt_y S rfl rfl rfl (fun w M => y_pickT S rfl rfl) ?_; clear S a; intro a S
    refine wpQuiet_nil ?_; clear M; intro w15 M
    refine then_normal ?_
    refine st_condT S rfl ?_
    refine nxD ?_
    refine st_go [1] S rfl (by kernel_rfl) ?_; clear S a; intro a S
    (first | refine st_y S rfl rfl rfl (y_addN S rfl rfl (by omega)) ?_ | refine st_y S rfl rfl rfl (y_int S rfl rfl rfl) ?_); clear S a; intro a S
    refine st_go [1] S rfl (by kernel_rfl) ?_; clear S a; intro a S
    refine nxC ?_
    refine wp_exit ?_
    refine then_exit ?_
    refine block_hit ?_
    refine then_normal ?_
    have hil := (List.getElem?_eq_some_iff.1 hq).1
    first
      | (have he : D2.ended i q q.kind e9 e9 (q.ph != 0) = D1.lost i q k := by
           unfold Dsk.lost
           rcases hD2 with ⟨h, rfl, rfl⟩ | ⟨h, rfl, rfl⟩
           · rw [if_pos h]
           · rw [if_neg (by omega)]
         have hb : hasBit q.sh k = true := by unfold hasBit andV; simpa [Int.toNat_natCast] using h50
         obtain ⟨l1, l2⟩ := lost_len (D := D1) (o := q) (shard := k) hil
         exact ⟨(D1.lost i q k).s.l.length - i, by omega, i, _, E6, .lose hto hq hb (by omega), hB1.lost hil, by omega, rfl, he ▸ hE6, S.sub _ rfl, M.drop 0⟩)
      | (obtain ⟨E1, hE1, M2⟩ := Dsk.close (D := D1) rl2 ro2 rm2 ra2 rs2 rc2 re2 (M.drop 0)
         have hc : hasBit q.sh k = false ∨ q.ph = 3 := by
           first
             | exact .inr (by omega)
             | exact .inl (by unfold hasBit andV; simpa [Int.toNat_natCast] using h50)
         exact ⟨D1.s.l.length - (i + 1), by omega, i + 1, D1, E1, .pass hto hq hc, hB1, by omega, rfl, hE1, S.sub _ rfl, M2⟩)
  clear S; intro h50 S
  refine qt_y S rfl rfl rfl (fun w M => y_fieldAddr (k := 5) S (by kernel_rfl) rfl) ?_; clear S a; intro a S
  refine qt_y S rfl rfl rfl (fun w M => y_load S (by kernel_rfl) rfl (M.cell 0 rfl rfl)) ?_; clear S a; intro a S
  refine qt_y S rfl rfl rfl (fun w M => y_int S rfl rfl rfl) ?_; clear S a; intro a S
  refine qt_y S rfl rfl rfl (fun w M => y_pickF S rfl rfl) ?_; clear S a; intro a S
  refine wpQuiet_nil ?_; clear M; intro w16 M
  refine then_normal ?_
  refine st_if (t := 54) S rfl ?_ ?_
  · clear S; intro h54 S
    refine st_condT S rfl ?_
    refine nxD ?_
    refine st_go [1] S rfl (by kernel_rfl) ?_; clear S a; intro a S
    (first | refine st_y S rfl rfl rfl (y_addN S rfl rfl (by omega)) ?_ | refine st_y S rfl rfl rfl (y_int S rfl rfl rfl) ?_); clear S a; intro a S
    refine st_go [1] S rfl (by kernel_rfl) ?_; clear S a; intro a S
    refine nxC ?_
    refine wp_exit ?_
    refine then_exit ?_
    refine block_hit ?_
    refine then_normal ?_
    have hil := (List.getElem?_eq_some_iff.1 hq).1
    first
      | (have he : D2.ended i q q.kind e9 e9 (q.ph != 0) = D1.lost i q k := by
           unfold Dsk.lost
           rcases hD2 with ⟨h, rfl, rfl⟩ | ⟨h, rfl, rfl⟩
           · rw [if_pos h]
           · rw [if_neg (by omega)]
         have hb : hasBit q.sh k = true := by unfold hasBit andV; simpa [Int.toNat_natCast] using h50
         obtain ⟨l1, l2⟩ := lost_len (D := D1) (o := q) (shard := k) hil
         exact ⟨(D1.lost i q k).s.l.length - i, by omega, i, _, E6, .lose hto hq hb (by omega), hB1.lost hil, by omega, rfl, he ▸ hE6, S.sub _ rfl, M.drop 0⟩)
      | (obtain ⟨E1, hE1, M2⟩ := Dsk.close (D := D1) rl2 ro2 rm2 ra2 rs2 rc2 re2 (M.drop 0)
         have hc : hasBit q.sh k = false ∨ q.ph = 3 := by
           first
             | exact .inr (by omega)
             | exact .inl (by unfold hasBit andV; simpa [Int.toNat_natCast] using h50)
         exact ⟨D1.s.l.length - (i + 1), by omega, i + 1, D1, E1, .pass hto hq hc, hB1, by omega, rfl, hE1, S.sub _ rfl, M2⟩)
  clear S; intro h54 S
  refine st_condF S rfl ?_
  refine wp_skip ?_
  refine nxE ?_
  refine st_go [1] S rfl (by kernel_rfl) ?_; clear S a; intro a S
  refine nxC ?_
  refine wp_cut (fun a w' => ∃ (D2 : Dsk) (e9 : Int) (E2 : List Ent), (q.ph ≠ 2 ∧ e9 = 121 ∧ D2 = D1.mails (refuseP q k 4) ∨ q.ph = 2 ∧ e9 = 122 ∧ D2 = D1) ∧ DeskE bB D2 E2 ∧ Sees 83 a [(1, .int .i64 (k : Int)), (4, .pointer (some ⟨bR0, 0, none⟩)), (5, .pointer (some ⟨bT0, 0, none⟩)), (7, .pointer (some ⟨bB, 0, none⟩)), (8, .int .i64 (i : Int)), (9, .pointer (some ⟨bX, 0, none⟩)), (10, .int .i64 e9)] ∧ Mem wo w' (.blk bX q.cellsL.toArray 65 :: .blk bT0 (tolL Tol.none ⟨none, 0, 0, 0⟩ ⟨none, 0, 0, 0⟩ ⟨none, 0, 0, 0⟩ ⟨none, 0, 0, 0⟩ ⟨none, 0, 0, 0⟩).toArray 54 :: .blk bR0 (sesL Ses.none ⟨none, 0, 0, 0⟩ ⟨none, 0, 0, 0⟩).toArray 29 :: (A ++ E2))) ?_ ?_
  · skip
    refine nxD ?_
    refine st_run [6, 1, 1] S M rfl (by kernel_rfl) ?_; clear S a; intro a S
    refine nxC ?_
    refine st_fi (t := 59) S rfl ?_ ?_
    · clear S; intro h59 S
      refine st_condF S rfl ?_
      refine wp_skip ?_
      refine then_normal ?_
      first
        | exact ⟨_, 121, E2, .inl ⟨by omega, rfl, rfl⟩, hE2, S.sub _ rfl, M⟩
        | (obtain ⟨E1, hE1, M2⟩ := Dsk.close (D := D1) rl2 ro2 rm2 ra2 rs2 rc2 re2 (M.perm (List.perm_middle (l₁ := dskE bB D1 rl2 ro2 rm2 ra2 rs2 rc2 re2)).symm)
           exact ⟨_, 122, E1, .inr ⟨by omega, rfl, rfl⟩, hE1, S.sub _ rfl, M2⟩)
    clear S; intro h59 S
    refine st_condT S rfl ?_
    refine nxD ?_
    refine st_go [1] S rfl (by kernel_rfl) ?_; clear S a; intro a S
    refine nxB ?_
    refine st_go [1] S rfl (by kernel_rfl) ?_; clear S a; intro a S
    refine st_y S rfl rfl rfl (y_loadAgg (cs := [_, _, _, _, _, _, _, _, _, _, _, _, _, _, _, _, _, _, _, _, _, _, _, _, _, _, _, _, _, _, _, _, _, _, _, _, _]) S (by kernel_rfl) rfl rfl (M.cellsAt (k := 37) 0 rfl rfl)) ?_; clear S a; intro a S
    refine st_go [1] S rfl (by kernel_rfl) ?_; clear S a; intro a S
    obtain ⟨E1, hE1, M2⟩ := Dsk.close (D := D1) rl2 ro2 rm2 ra2 rs2 rc2 re2 (M.perm (List.perm_middle (l₁ := dskE bB D1 rl2 ro2 rm2 ra2 rs2 rc2 re2)).symm)
    clear M; have M := M2; clear M2
    refine st_call (xs := [(Operand.tmp 60), (Operand.tmp 61), (Operand.tmp 62)]) S (enters_of Try.func25 (by decide) rfl) rfl rfl rfl (refuse_any (A := _ :: _ :: _ :: A) q k hE1 M hmid.small) ?_
    rintro _ w17 ⟨rfl, E2, hE2, M1⟩; refine ⟨_, rfl, ?_⟩; clear S M a; intro a S; have M := M1; clear M1
    replace S := S.sub [(1, _), (4, _), (5, _), (7, _), (8, _), (35, _), (9, _), (54, _), (59, _), (10, _)] rfl
    refine nxC ?_
    first
      | exact ⟨_, 121, E2, .inl ⟨by omega, rfl, rfl⟩, hE2, S.sub _ rfl, M⟩
      | (obtain ⟨E1, hE1, M2⟩ := Dsk.close (D := D1) rl2 ro2 rm2 ra2 rs2 rc2 re2 (M.perm (List.perm_middle (l₁ := dskE bB D1 rl2 ro2 rm2 ra2 rs2 rc2 re2)).symm)
         exact ⟨_, 122, E1, .inr ⟨by omega, rfl, rfl⟩, hE1, S.sub _ rfl, M2⟩)
  clear S a M; intro a wc
  rintro ⟨D2, e9, E2, hD2, hE2, S, M⟩
  have hpl := refuseP_len q k 4
  have hm2 : D2.mid := by
    rcases hD2 with ⟨-, -, rfl⟩ | ⟨-, -, rfl⟩
    · exact ⟨hmid.l, hmid.over, by show (D1.t.mail ++ _).length ≤ 900; rw [List.length_append]; have := hB1.mail; omega, hmid.ans, hmid.seen, hmid.com, hmid.ends⟩
    · exact hmid
  have hq2 : D2.s.l[i]? = some q := by rcases hD2 with ⟨-, -, rfl⟩ | ⟨-, -, rfl⟩ <;> exact hq
  refine wp_regionKC (C := fun W => Blk W bX q.cellsL.toArray 65) [4, 10] #[false, false, false, false, false, false, false, false, false, false, false] rfl M (by kernel_rfl) ?_; clear M; intro w18 M; have hC := M.blk 0 rfl
  refine kc_readC 0 S rfl hC (fun w _ => y_move S rfl) ?_; clear S a; intro a S
  refine kc_readC 1 S rfl hC (fun w _ => y_move S rfl) ?_; clear S a; intro a S
  refine kc_read 2 S rfl hC (fun w hW => have M := M.grow hW; y_loadAgg (cs := [_, _, _, _, _, _, _, _, _, _, _, _, _, _, _, _, _, _, _, _, _, _, _, _, _, _, _, _, _, _, _, _, _, _, _, _, _]) S (by kernel_rfl) rfl rfl (M.cellsAt (k := 37) 0 rfl rfl)) ?_; clear S a; intro a S
  refine kc_readC 5 S rfl hC (fun w _ => y_move S rfl) ?_; clear S a; intro a S
  refine kc_readC 6 S rfl hC (fun w _ => y_move S rfl) ?_; clear S a; intro a S
  refine kc_readC 7 S rfl hC (fun w _ => y_fieldAddr (k := 5) S (by kernel_rfl) rfl) ?_; clear S a; intro a S
  refine kc_readC 8 S rfl hC (fun w hC => y_load S (by kernel_rfl) rfl (hC.cells 5)) ?_; clear S a; intro a S
  refine kc_readC 9 S rfl hC (fun w _ => y_int S rfl rfl rfl) ?_; clear S a; intro a S
  refine kc_one 3 rfl (by kernel_rfl) ?_
  refine st_call (xs := [(Operand.tmp 66)]) S (enters_of Try.func27 (by decide) rfl) rfl rfl rfl (kind_any q _) ?_
  rintro _ w19 ⟨rfl, hK⟩; refine ⟨_, rfl, ?_⟩; clear S a; intro a S; replace M := M.grow hK
  replace hC := M.blk 0 rfl
  refine wpList_nil ?_; refine then_normal ?_; refine ⟨fun _ => hK, hC, ?_⟩
  refine kc_one 4 rfl (by kernel_rfl) ?_
  refine st_call (xs := [(Operand.tmp 64), (Operand.tmp 65), (Operand.tmp 67)]) S (enters_of Try.func24 (by decide) rfl) rfl rfl rfl (ending_any (A := _ :: _ :: _ :: A) i q q.kind hE2 M hm2 hq2) ?_
  rintro _ w20 ⟨b3, b4, b5, b7, rfl, E5, hE5, M1⟩; refine ⟨_, rfl, ?_⟩; clear S M a; intro a S; have M := M1; clear M1
  replace hC := M.blk 4 rfl
  refine wpList_nil ?_; refine then_normal ?_; refine ⟨fun h => absurd h (by decide), hC, ?_⟩
  refine kc_one 10 rfl (by kernel_rfl) ?_
  refine st_callB (xs := [(Operand.tmp 69), (Operand.tmp 70), (Operand.tmp 73)]) (fi := []) (ca := [.pointer (some ⟨b3, 0, none⟩), .pointer (some ⟨b7, 0, none⟩), .pointer (some ⟨b4, 0, none⟩), .pointer (some ⟨b5, 0, none⟩)]) S (enters_of Try.func48 (by decide) rfl) rfl rfl (rfl) rfl (ending1_any (A := _ :: _ :: _ :: A) i q q.kind e9 e9 (q.ph != 0) hE5 M hm2 (List.getElem?_eq_some_iff.1 hq2).1) ?_
  rintro _ w21 ⟨rfl, E6, hE6, M1⟩; refine ⟨_, rfl, ?_⟩; clear S M a; intro a S; have M := M1; clear M1
  replace hC := M.blk 0 rfl
  refine wpList_nil ?_; refine then_normal ?_; refine ⟨fun h => absurd h (by decide), hC, ?_⟩
  refine kc_end (by kernel_rfl) ?_
  refine block_normal ?_
  refine then_normal ?_
  have hil := (List.getElem?_eq_some_iff.1 hq).1
  first
    | (have he : D2.ended i q q.kind e9 e9 (q.ph != 0) = D1.lost i q k := by
         unfold Dsk.lost
         rcases hD2 with ⟨h, rfl, rfl⟩ | ⟨h, rfl, rfl⟩
         · rw [if_pos h]
         · rw [if_neg (by omega)]
       have hb : hasBit q.sh k = true := by unfold hasBit andV; simpa [Int.toNat_natCast] using h50
       obtain ⟨l1, l2⟩ := lost_len (D := D1) (o := q) (shard := k) hil
       exact ⟨(D1.lost i q k).s.l.length - i, by omega, i, _, E6, .lose hto hq hb (by omega), hB1.lost hil, by omega, rfl, he ▸ hE6, S.sub _ rfl, M.drop 0⟩)
    | (obtain ⟨E1, hE1, M2⟩ := Dsk.close (D := D1) rl2 ro2 rm2 ra2 rs2 rc2 re2 (M.drop 0)
       have hc : hasBit q.sh k = false ∨ q.ph = 3 := by
         first
           | exact .inr (by omega)
           | exact .inl (by unfold hasBit andV; simpa [Int.toNat_natCast] using h50)
       exact ⟨D1.s.l.length - (i + 1), by omega, i + 1, D1, E1, .pass hto hq hc, hB1, by omega, rfl, hE1, S.sub _ rfl, M2⟩)
end Go.Proofs.Ytniijiipkfhjgaa

namespace Go.Proofs.Ytniijiipkfhjgaa
open Go.RowKit Go.Sort
structure Act_ where
  do_ : Int
  c : Cal
  bs : List UInt8
  stamp : Int
  m : Msg
  x : List Wr
  nm : Nm
  e : Int
  shard : Int
  of : Of8
  n : Int
  val : V8
abbrev Act_.cellsL (a : Act_) (dv wv : Value) : List Value := [.int .i64 a.do_, .int .i8 a.c.kind, .int .i64 a.c.c, .int .i64 a.c.h, .int .i64 a.c.block, dv, .int .i64 a.c.stamp, .int .i64 a.stamp, .int .i8 a.m.kind, .int .i64 a.m.frm, .int .i64 a.m.to, .int .i64 a.m.inc, .int .i64 a.m.your, .int .i64 a.m.name.stamp, .int .i64 a.m.name.inc, .int .i64 a.m.name.try_, .int .i64 a.m.n, .int .i8 a.m.op, .int .i64 a.m.block, .int .u8 (a.m.val.v0.toNat : Int), .int .u8 (a.m.val.v1.toNat : Int), .int .u8 (a.m.val.v2.toNat : Int), .int .u8 (a.m.val.v3.toNat : Int), .int .u8 (a.m.val.v4.toNat : Int), .int .u8 (a.m.val.v5.toNat : Int), .int .u8 (a.m.val.v6.toNat : Int), .int .u8 (a.m.val.v7.toNat : Int), .int .i64 a.m.e, .bool a.m.yes, .int .i64 a.m.give, .int .i64 a.m.take, wv, .int .i64 a.nm.stamp, .int .i64 a.nm.inc, .int .i64 a.nm.try_, .int .i64 a.e, .int .i64 a.shard, .int .i64 a.of.o0, .int .i64 a.of.o1, .int .i64 a.of.o2, .int .i64 a.of.o3, .int .i64 a.of.o4, .int .i64 a.of.o5, .int .i64 a.of.o6, .int .i64 a.of.o7, .int .i64 a.n, .int .u8 (a.val.v0.toNat : Int), .int .u8 (a.val.v1.toNat : Int), .int .u8 (a.val.v2.toNat : Int), .int .u8 (a.val.v3.toNat : Int), .int .u8 (a.val.v4.toNat : Int), .int .u8 (a.val.v5.toNat : Int), .int .u8 (a.val.v6.toNat : Int), .int .u8 (a.val.v7.toNat : Int)]
/-- the acts that a slice reads as -/
def RowA (cs : List Value) (lo hi : Nat) (w : World) (v : Value) (l : List Act_) : Prop :=
  Rd lo hi w 54 v l.length cs ∧ ∀ (i : Nat) (q : Act_), l[i]? = some q → ∃ da dc wa wc, (cs.drop (i * 54)).take 54 = q.cellsL (.slice da q.bs.length dc) (.slice wa q.x.length wc) ∧ Bs lo hi w (.slice da q.bs.length dc) q.bs ∧ Ws lo hi w (.slice wa q.x.length wc) q.x
theorem Mem.actsW {w0 w : World} {H : List Ent} {v : Value} {cs : List Value} {l : List Act_} (M : Mem w0 w H) (h : RowA cs 0 w0.heap.size w0 v l) : RowA cs 0 w.heap.size w v l :=
  ⟨M.argW h.1, fun i q hq => let ⟨da, dc, wa, wc, h1, h2, h3⟩ := h.2 i q hq; ⟨da, dc, wa, wc, h1, M.argW h2, M.argW h3⟩⟩
theorem greatM_any (m : Msg) (wa : Option Addr) (wn wc : Nat) (w : World) : Calls Try.prog 17 #[.agg (msgW m (.slice wa wn wc)).toArray] w fun e w' => e = .returned (.bool (decide (40 < wn))) ∧ Below w.heap.size w w' := by
  have M := Mem.start w
  refine calls_enter Try.func17 rfl 7 rfl rfl ?_; intro a S
  refine nxD ?_
  refine st_box S M rfl rfl rfl #[_, _, _, _, _, _, _, _, _, _, _, _, _, _, _, _, _, _, _, _, _, _, _, _] rfl ?_; clear S M a; intro a w1 b1 S M hB
  refine st_go [1] S rfl (by kernel_rfl) ?_; clear S a; intro a S
  refine nxA ?_
  refine st_run [24, 1] S M rfl (by kernel_rfl) ?_; clear S a; intro a S
  refine st_y S rfl rfl rfl (y_lenS (E := 122) S rfl (by kernel_rfl)) ?_; clear S a; intro a S
  refine st_go [1, 1] S rfl (by kernel_rfl) ?_; clear S a; intro a S
  refine nxC ?_
  refine wp_ret ?_
  refine end_one S rfl (res_tmp rfl) ?_
  refine ⟨ret_bool ?_, M.below⟩; clear S M; rw [Bool.eq_iff_iff]; simp only [decide_eq_true_eq]; omega
theorem great_any (va : Option Addr) (vc : Nat) (cs : List Value) (l : List Act_) (w : World) (hv : RowA cs 0 w.heap.size w (.slice va l.length vc) l) :
    Calls Try.prog 5 #[.slice va l.length vc] w fun e w' => ∃ b, e = .returned (.bool b) ∧ Below w.heap.size w w' ∧ (b = false → l.length ≤ 150 ∧ ∀ q ∈ l, q.bs.length ≤ 100 ∧ q.x.length ≤ 40) := by
  have M := Mem.start w
  have hl := hv.1.2.1
  unfold maxLen at hl
  refine calls_enter Try.func5 rfl 33 rfl rfl ?_; intro a S
  refine nxD ?_
  refine st_go [1] S rfl (by kernel_rfl) ?_; clear S a; intro a S
  refine nxC ?_
  refine wp_seq ?_
  refine nxD ?_
  refine st_go [1] S rfl (by kernel_rfl) ?_; clear S a; intro a S
  refine nxC ?_
  refine wp_block ?_
  refine wp_loop_g (fun m a w' => ∃ k : Nat, k ≤ l.length ∧ k ≤ 151 ∧ m = l.length - k ∧ (∀ (i : Nat) (q : Act_), i < k → l[i]? = some q → q.bs.length ≤ 100 ∧ q.x.length ≤ 40) ∧ Sees 33 a [(0, .slice va l.length vc), (3, .int .i64 (k : Int))] ∧ Mem w w' []) (l.length) ?_ ?_
  · skip
    exact ⟨0, Nat.zero_le _, by omega, rfl, fun i q h => absurd h (by omega), S.sub _ rfl, M⟩
  clear S M a; intro m a wl
  rintro ⟨k, hk, hk2, rfl, hpre, S, M⟩
  refine wp_seq ?_
  refine nxD ?_
  refine st_go [1, 1] S rfl (by kernel_rfl) ?_; clear S a; intro a S
  refine st_y S rfl rfl rfl (y_lenR (E := 47) S rfl ((M.actsW hv).1) (by kernel_rfl)) ?_; clear S a; intro a S
  refine st_go [1, 1] S rfl (by kernel_rfl) ?_; clear S a; intro a S
  refine st_fi (t := 8) S rfl ?_ ?_
  · clear S; intro h8 S
    refine st_go [0, 0, 1] S rfl (by kernel_rfl) ?_; clear S a; intro a S
    refine nxC ?_
    refine st_condF S rfl ?_
    refine wp_exit ?_
    refine then_exit ?_
    refine then_exit ?_
    refine block_hit ?_
    refine nxE ?_
    refine st_go [1] S rfl (by kernel_rfl) ?_; clear S a; intro a S
    refine st_y S rfl rfl rfl (y_lenR (E := 47) S rfl ((M.actsW hv).1) (by kernel_rfl)) ?_; clear S a; intro a S
    refine st_go [1, 1] S rfl (by kernel_rfl) ?_; clear S a; intro a S
    refine nxC ?_
    refine wp_ret ?_
    refine end_one S rfl (res_tmp rfl) ?_
    refine ⟨_, rfl, M.below, fun h => ?_⟩
    simp only [decide_eq_false_iff_not] at h
    refine ⟨by omega, fun q hq => ?_⟩
    obtain ⟨i, hi⟩ := List.getElem?_of_mem hq
    have := (List.getElem?_eq_some_iff.1 hi).1
    exact hpre i q (by omega) hi
  clear S; intro h8 S
  refine st_go [1, 1, 1] S rfl (by kernel_rfl) ?_; clear S a; intro a S
  refine nxC ?_
  refine st_fi (t := 11) S rfl ?_ ?_
  · clear S; intro h11 S
    refine st_condF S rfl ?_
    refine wp_exit ?_
    refine then_exit ?_
    refine then_exit ?_
    refine block_hit ?_
    refine nxE ?_
    refine st_go [1] S rfl (by kernel_rfl) ?_; clear S a; intro a S
    refine st_y S rfl rfl rfl (y_lenR (E := 47) S rfl ((M.actsW hv).1) (by kernel_rfl)) ?_; clear S a; intro a S
    refine st_go [1, 1] S rfl (by kernel_rfl) ?_; clear S a; intro a S
    refine nxC ?_
    refine wp_ret ?_
    refine end_one S rfl (res_tmp rfl) ?_
    refine ⟨_, rfl, M.below, fun h => ?_⟩
    simp only [decide_eq_false_iff_not] at h
    refine ⟨by omega, fun q hq => ?_⟩
    obtain ⟨i, hi⟩ := List.getElem?_of_mem hq
    have := (List.getElem?_eq_some_iff.1 hi).1
    exact hpre i q (by omega) hi
  clear S; intro h11 S
  refine st_condT S rfl ?_
  refine wp_skip ?_
  refine then_normal ?_
  refine wp_seq ?_
  refine wp_block ?_
  refine wp_seq ?_
  obtain ⟨q, hq⟩ : ∃ q, l[k]? = some q := ⟨_, List.getElem?_eq_getElem (by omega)⟩
  obtain ⟨da, dc, wa, wc, hc, -, -⟩ := hv.2 k q hq
  refine wp_region_lit ?_
  refine st_go [1, 1] S rfl (by kernel_rfl) ?_; clear S a; intro a S
  refine st_y S rfl rfl rfl (y_indexR (e := 47) (sz := 54) S (by kernel_rfl) rfl ((M.actsW hv).1) rfl (by first | omega | (simp; done) | (simp; omega))) ?_; clear S a; intro a S
  try simp only [Int.toNat_natCast, Nat.mul_one, Nat.zero_add] at S
  refine st_go [2, 5] S rfl (by kernel_rfl) ?_; clear S a; intro a S
  refine st_y S rfl rfl rfl (y_load S (by kernel_rfl) rfl (((M.actsW hv).1.at_.row (i := k) hc rfl) 5 (by show 5 < 54; omega))) ?_; clear S a; intro a S
  refine st_y S rfl rfl rfl (y_lenS (E := 5) S rfl (by kernel_rfl)) ?_; clear S a; intro a S
  refine st_go [1, 1] S rfl (by kernel_rfl) ?_; clear S a; intro a S
  refine st_if (t := 22) S rfl ?_ ?_
  · clear S; intro h22 S
    refine st_go [0, 0, 0, 0, 0, 0, 1] S rfl (by kernel_rfl) ?_; clear S a; intro a S
    replace S := S.sub [(0, _), (3, _), (11, _), (29, _)] rfl
    refine nxC ?_
    refine st_condT S rfl ?_
    refine nxD ?_
    refine st_go [1] S rfl (by kernel_rfl) ?_; clear S a; intro a S
    refine nxC ?_
    refine wp_ret ?_
    refine block_ret ?_
    refine then_ret ?_
    refine then_ret ?_
    refine block_ret ?_
    refine then_ret ?_
    refine end_one S rfl (res_tmp rfl) ?_
    exact ⟨true, rfl, M.below, fun h => absurd h (by decide)⟩
  clear S; intro h22 S
  refine st_go [1, 1] S rfl (by kernel_rfl) ?_; clear S a; intro a S
  refine st_y S rfl rfl rfl (y_indexR (e := 47) (sz := 54) S (by kernel_rfl) rfl ((M.actsW hv).1) rfl (by first | omega | (simp; done) | (simp; omega))) ?_; clear S a; intro a S
  try simp only [Int.toNat_natCast, Nat.mul_one, Nat.zero_add] at S
  refine st_go [9] S rfl (by kernel_rfl) ?_; clear S a; intro a S
  refine st_y S rfl rfl rfl (y_loadAgg S (by kernel_rfl) rfl rfl (show CellsAt _ _ _ (msgW q.m (.slice wa q.x.length wc)) from ((M.actsW hv).1.at_.row (i := k) hc rfl).sub (i := 8) (k := 24))) ?_; clear S a; intro a S
  refine st_call (xs := [(Operand.tmp 27)]) S (enters_of Try.func17 (by decide) rfl) rfl rfl rfl (greatM_any q.m wa q.x.length wc _) ?_
  rintro _ w1 ⟨rfl, hK⟩; refine ⟨_, rfl, ?_⟩; clear S a; intro a S; replace M := M.grow hK
  refine st_go [1] S rfl (by kernel_rfl) ?_; clear S a; intro a S
  replace S := S.sub [(0, _), (3, _), (11, _), (29, _)] rfl
  refine nxC ?_
  refine st_if (t := 29) S rfl ?_ ?_
  · clear S; intro h29 S
    refine st_condT S rfl ?_
    refine nxD ?_
    refine st_go [1] S rfl (by kernel_rfl) ?_; clear S a; intro a S
    refine nxC ?_
    refine wp_ret ?_
    refine block_ret ?_
    refine then_ret ?_
    refine then_ret ?_
    refine block_ret ?_
    refine then_ret ?_
    refine end_one S rfl (res_tmp rfl) ?_
    exact ⟨true, rfl, M.below, fun h => absurd h (by decide)⟩
  clear S; intro h29 S
  refine st_condF S rfl ?_
  refine wp_skip ?_
  refine block_normal ?_
  refine nxF ?_
  refine st_go [1] S rfl (by kernel_rfl) ?_; clear S a; intro a S
  (first | refine st_y S rfl rfl rfl (y_addN S rfl rfl (by omega)) ?_ | refine st_y S rfl rfl rfl (y_int S rfl rfl rfl) ?_); clear S a; intro a S
  refine st_go [1] S rfl (by kernel_rfl) ?_; clear S a; intro a S
  refine nxC ?_
  refine ⟨l.length - (k + 1), by omega, k + 1, by omega, by omega, rfl, fun i q' hi hq' => ?_, S.sub _ rfl, M⟩
  rcases Nat.lt_or_ge i k with h | h
  · exact hpre i q' h hq'
  · obtain rfl : i = k := by omega
    rw [hq] at hq'; obtain rfl := Option.some.inj hq'; omega
set_option maxHeartbeats 1000000 in
theorem again_any {wo w : World} {A : List Ent} {bU : Nat} {ml : Mes Int} {c9 : Nat} {f : Int → Int} (q : Act_) (da wa : Option Addr) (dn dc wn wc : Nat) (M : Mem wo w (mapX bU ml c9 :: A)) (hG : Good eN ml c9) (hC : CV ml f) (hb : 0 ≤ f q.stamp ∧ f q.stamp ≤ 1000) :
    Calls Try.prog 8 #[.map (some bU), .agg (q.cellsL (.slice da dn dc) (.slice wa wn wc)).toArray] w fun e w' => ∃ (r : Bool) (ml' : Mes Int) (c' : Nat) (f' : Int → Int), e = .returned (.bool r) ∧ Good eN ml' c' ∧ CV ml' f' ∧ Mem wo w' (mapX bU ml' c' :: A) ∧
      (((q.do_ ≠ 0 ∨ q.c.kind ≠ 0 ∨ q.c.stamp ≠ 0) ∧ r = false ∧ f' = f) ∨ ((q.do_ = 0 ∧ q.c.kind = 0 ∧ q.c.stamp = 0) ∧ (f' = fun z => if z = q.stamp then f q.stamp + 1 else f z) ∧ r = decide (1 < f q.stamp + 1))) := by
  refine calls_enter Try.func8 rfl 30 rfl rfl ?_; intro a S
  refine wp_seq ?_
  skip
  refine wp_region_lit ?_
  refine st_box S M rfl rfl rfl #[_, _, _, _, _, _, _, _, _, _, _, _, _, _, _, _, _, _, _, _, _, _, _, _, _, _, _, _, _, _, _, _, _, _, _, _, _, _, _, _, _, _, _, _, _, _, _, _, _, _, _, _, _, _] rfl ?_; clear S M a; intro a w1 bX S M hB
  refine st_go [1] S rfl (by kernel_rfl) ?_; clear S a; intro a S
  refine nxC ?_
  refine wp_seq ?_
  refine nxD ?_
  refine st_run [1, 1, 1, 1] S M rfl (by kernel_rfl) ?_; clear S a; intro a S
  refine st_if (t := 8) S rfl ?_ ?_
  · clear S; intro h8 S
    refine st_go [0, 0, 0, 0, 1, 1, 0, 0, 0, 0, 1] S rfl (by kernel_rfl) ?_; clear S a; intro a S
    replace S := S.sub [(0, _), (1, _), (3, _), (4, _), (19, _)] rfl
    refine nxC ?_
    refine st_condT S rfl ?_
    refine nxD ?_
    refine st_go [1] S rfl (by kernel_rfl) ?_; clear S a; intro a S
    refine nxC ?_
    refine wp_ret ?_
    refine then_ret ?_
    refine end_one S rfl (res_tmp rfl) ?_
    exact ⟨false, ml, c9, f, rfl, hG, hC, M.drop 0, .inl ⟨by omega, rfl, rfl⟩⟩
  clear S; intro h8 S
  refine st_run [2, 1, 1, 1, 1, 1] S M rfl (by kernel_rfl) ?_; clear S a; intro a S
  refine st_if (t := 14) S rfl ?_ ?_
  · clear S; intro h14 S
    refine st_go [0, 0, 0, 0, 1] S rfl (by kernel_rfl) ?_; clear S a; intro a S
    replace S := S.sub [(0, _), (1, _), (3, _), (4, _), (19, _)] rfl
    refine nxC ?_
    refine st_condT S rfl ?_
    refine nxD ?_
    refine st_go [1] S rfl (by kernel_rfl) ?_; clear S a; intro a S
    refine nxC ?_
    refine wp_ret ?_
    refine then_ret ?_
    refine end_one S rfl (res_tmp rfl) ?_
    exact ⟨false, ml, c9, f, rfl, hG, hC, M.drop 0, .inl ⟨by omega, rfl, rfl⟩⟩
  clear S; intro h14 S
  refine st_run [2, 6, 1, 1, 1] S M rfl (by kernel_rfl) ?_; clear S a; intro a S
  replace S := S.sub [(0, _), (1, _), (3, _), (4, _), (19, _)] rfl
  refine nxC ?_
  refine st_if (t := 19) S rfl ?_ ?_
  · clear S; intro h19 S
    refine st_condT S rfl ?_
    refine nxD ?_
    refine st_go [1] S rfl (by kernel_rfl) ?_; clear S a; intro a S
    refine nxC ?_
    refine wp_ret ?_
    refine then_ret ?_
    refine end_one S rfl (res_tmp rfl) ?_
    exact ⟨false, ml, c9, f, rfl, hG, hC, M.drop 0, .inl ⟨by omega, rfl, rfl⟩⟩
  clear S; intro h19 S
  refine st_condF S rfl ?_
  refine wp_skip ?_
  refine nxE ?_
  refine st_run [1, 8, 1] S M rfl (by kernel_rfl) ?_; clear S a; intro a S
  refine st_y S rfl rfl rfl (y_lookupM (pos := 1) S M (keyN) (hG) Try.underlying34 (zero_i64) rfl rfl rfl) ?_; clear S a; intro a S
  simp only [Bool.false_eq_true, if_false, hC q.stamp] at S
  (first | refine st_y S rfl rfl rfl (y_addN S rfl rfl (by omega)) ?_ | refine st_y S rfl rfl rfl (y_int S rfl rfl rfl) ?_); clear S a; intro a S
  refine st_updateM (pos := 1) S M (keyN) (hG) Try.underlying34 rfl rfl rfl rfl rfl ?_; clear M; intro w2 M
  simp only [List.set_cons_zero, List.set_cons_succ] at M
  refine nxC ?_
  refine wp_seq ?_
  have hG2 := hG.put q.stamp (.int .i64 (f q.stamp + 1))
  have hC2 := hC.put (c := c9) q.stamp (f q.stamp + 1)
  refine wp_region_lit ?_
  refine st_run [1, 8, 1] S M rfl (by kernel_rfl) ?_; clear S a; intro a S
  refine st_y S rfl rfl rfl (y_lookupM (pos := 1) S M (keyN) (hG2) Try.underlying34 (zero_i64) rfl rfl rfl) ?_; clear S a; intro a S
  simp only [Bool.false_eq_true, if_false, hC2 q.stamp, if_true] at S
  refine st_y S rfl rfl rfl (y_int S rfl rfl rfl) ?_; clear S a; intro a S
  refine st_go [1] S rfl (by kernel_rfl) ?_; clear S a; intro a S
  refine nxC ?_
  refine wp_ret ?_
  refine end_one S rfl (res_tmp rfl) ?_
  exact ⟨_, _, _, _, rfl, hG2, hC2, M.drop 0, .inr ⟨by omega, rfl, rfl⟩⟩
end Go.Proofs.Ytniijiipkfhjgaa

namespace Go.Proofs.Ytniijiipkfhjgaa
open Go.RowKit Go.Sort
theorem tmod_bd (n : Int) {k : Int} (h : 0 < k) : -k < n.tmod k ∧ n.tmod k < k := by
  rcases Int.le_total 0 n with h0 | h0
  · have h1 := Int.tmod_nonneg k h0
    have h2 := Int.tmod_lt_of_pos n h
    omega
  · have h1 := Int.tmod_nonneg k (show 0 ≤ -n by omega)
    have h2 := Int.tmod_lt_of_pos (-n) h
    rw [Int.neg_tmod] at h1 h2
    omega
set_option maxHeartbeats 2000000 in
theorem waited_any (s : Ses) (va : Option Addr) (vc : Nat) (ov : Option Addr) (on oc : Nat) (q : Act_) (da wa : Option Addr) (dn dc wn wc : Nat) (w : World) (hv : Rd 0 w.heap.size w 37 (.slice va s.l.length vc) s.l.length (fm Ope.cellsL s.l)) (hl : s.l.length ≤ 500) :
    Calls Try.prog 14 #[.agg #[.slice va s.l.length vc, .int .i64 s.last, .int .i64 s.inc, .slice ov on oc], .agg (q.cellsL (.slice da dn dc) (.slice wa wn wc)).toArray] w fun e w' => ∃ m, e = .returned (.agg (msgL m).toArray) ∧ Below w.heap.size w w' := by
  have M := Mem.start w
  refine calls_enter Try.func14 rfl 56 rfl rfl ?_; intro a S
  refine nxD ?_
  refine st_box S M rfl rfl rfl #[_, _, _, _] rfl ?_; clear S M a; intro a w1 bS0 S M hB
  refine st_box S M rfl rfl rfl #[_, _, _, _, _, _, _, _, _, _, _, _, _, _, _, _, _, _, _, _, _, _, _, _, _, _, _, _, _, _, _, _, _, _, _, _, _, _, _, _, _, _, _, _, _, _, _, _, _, _, _, _, _, _] rfl ?_; clear S M a; intro a w2 bQ S M hB
  refine st_alloc S M rfl rfl #[.int .i8 0, .int .i64 0, .int .i64 0, .int .i64 0, .int .i64 0, .int .i64 0, .int .i64 0, .int .i64 0, .int .i64 0, .int .i8 0, .int .i64 0, .int .u8 0, .int .u8 0, .int .u8 0, .int .u8 0, .int .u8 0, .int .u8 0, .int .u8 0, .int .u8 0, .int .i64 0, .bool false, .int .i64 0, .int .i64 0, .slice none 0 0] (by kernel_rfl) ?_; clear S M a; intro a w3 bR S M hB
  refine nxC ?_
  refine wp_seq ?_
  refine nxD ?_
  refine st_run [1, 3] S M rfl (by kernel_rfl) ?_; clear S a; intro a S
  refine st_y S rfl rfl rfl (y_lenS (E := 65) S rfl (by kernel_rfl)) ?_; clear S a; intro a S
  refine st_go [1] S rfl (by kernel_rfl) ?_; clear S a; intro a S
  refine nxC ?_
  refine st_if (t := 10) S rfl ?_ ?_
  · clear S; intro h10 S
    refine st_condT S rfl ?_
    refine nxD ?_
    refine st_y S rfl rfl rfl (y_build (ps := [(0, (Operand.const (Value.int IntKind.i8 11))), (1, (Operand.const (Value.int IntKind.i64 1))), (3, (Operand.const (Value.int IntKind.i64 1)))]) (pl := [(0, 1), (1, 1), (2, 1), (3, 1), (4, 1), (5, 3), (8, 1), (9, 1), (10, 1), (11, 8), (19, 1), (20, 1), (21, 1), (22, 1), (23, 1)]) (z := [.int .i8 0, .int .i64 0, .int .i64 0, .int .i64 0, .int .i64 0, .int .i64 0, .int .i64 0, .int .i64 0, .int .i64 0, .int .i8 0, .int .i64 0, .int .u8 0, .int .u8 0, .int .u8 0, .int .u8 0, .int .u8 0, .int .u8 0, .int .u8 0, .int .u8 0, .int .i64 0, .bool false, .int .i64 0, .int .i64 0, .slice none 0 0]) (cs := [_, _, _, _, _, _, _, _, _, _, _, _, _, _, _, _, _, _, _, _, _, _, _, _]) S (by kernel_rfl) rfl (rfl)) ?_; clear S a; intro a S
    refine st_store (sz := 24) (us := [_, _, _, _, _, _, _, _, _, _, _, _, _, _, _, _, _, _, _, _, _, _, _, _]) S M 0 rfl (by kernel_rfl) rfl rfl rfl rfl rfl rfl (by first | decide | (simp; done) | (simp; omega)) ?_; clear M; intro w4 M
    simp only [putL, List.set_cons_zero, List.set_cons_succ, Nat.reduceAdd] at M
    refine nxC ?_
    refine wp_ret ?_
    refine then_ret ?_
    refine end_one S rfl (res_agg (cs := [_, _, _, _, _, _, _, _, _, _, _, _, _, _, _, _, _, _, _, _, _, _, _, _]) (by kernel_rfl) rfl rfl (M.cellsAt (k := 24) 0 rfl rfl)) ?_
    exact ⟨{ zMg with kind := 11, frm := 1, inc := 1 }, rfl, M.below⟩
  clear S; intro h10 S
  refine st_condF S rfl ?_
  refine wp_skip ?_
  refine then_normal ?_
  refine wp_seq ?_
  have hlp : (0 : Int) < (s.l.length : Int) := by omega
  have hb1 := tmod_bd q.n hlp
  obtain ⟨i, hi, hil⟩ : ∃ i : Nat, (q.n.tmod (s.l.length : Int) + (s.l.length : Int)) % (s.l.length : Int) = (i : Int) ∧ i < s.l.length := by
    have h1 := Int.emod_nonneg (q.n.tmod (s.l.length : Int) + (s.l.length : Int)) (show (s.l.length : Int) ≠ 0 by omega)
    have h2 := Int.emod_lt_of_pos (q.n.tmod (s.l.length : Int) + (s.l.length : Int)) hlp
    exact ⟨((q.n.tmod (s.l.length : Int) + (s.l.length : Int)) % (s.l.length : Int)).toNat, by omega, by omega⟩
  obtain ⟨o, ho⟩ : ∃ o, s.l[i]? = some o := ⟨_, List.getElem?_eq_getElem hil⟩
  refine wp_regionK [19] #[false, false, false, false, false, false, false, false, false, false, false, false, false, false, false, false, false, false, false, false] rfl M (by kernel_rfl) ?_; clear M; intro w5 M
  refine k_pure 0 S rfl (fun w => y_fieldAddr (k := 0) S (by kernel_rfl) rfl) ?_; clear S a; intro a S
  refine k_read 1 S rfl (fun w hW => have M := M.grow hW; y_load S (by kernel_rfl) rfl (M.cell 2 rfl rfl)) ?_; clear S a; intro a S
  refine k_pure 2 S rfl (fun w => y_fieldAddr (k := 45) S (by kernel_rfl) rfl) ?_; clear S a; intro a S
  refine k_read 3 S rfl (fun w hW => have M := M.grow hW; y_load S (by kernel_rfl) rfl (M.cell 1 rfl rfl)) ?_; clear S a; intro a S
  refine k_pure 4 S rfl (fun w => y_fieldAddr (k := 0) S (by kernel_rfl) rfl) ?_; clear S a; intro a S
  refine k_read 5 S rfl (fun w hW => have M := M.grow hW; y_load S (by kernel_rfl) rfl (M.cell 2 rfl rfl)) ?_; clear S a; intro a S
  refine k_pure 6 S rfl (fun w => y_lenS (E := 65) S rfl (by kernel_rfl)) ?_; clear S a; intro a S
  (first | refine k_pure 7 S rfl (fun w => y_remN S rfl rfl (by omega)) ?_ | refine k_pure 7 S rfl (fun w => y_remZ S rfl rfl (by omega)) ?_); clear S a; intro a S
  refine k_pure 8 S rfl (fun w => y_fieldAddr (k := 0) S (by kernel_rfl) rfl) ?_; clear S a; intro a S
  refine k_read 9 S rfl (fun w hW => have M := M.grow hW; y_load S (by kernel_rfl) rfl (M.cell 2 rfl rfl)) ?_; clear S a; intro a S
  refine k_pure 10 S rfl (fun w => y_lenS (E := 65) S rfl (by kernel_rfl)) ?_; clear S a; intro a S
  (first | refine k_pure 11 S rfl (fun w => y_addN S rfl rfl (by omega)) ?_ | refine k_pure 11 S rfl (fun w => y_int S rfl rfl rfl) ?_); clear S a; intro a S
  refine k_pure 12 S rfl (fun w => y_fieldAddr (k := 0) S (by kernel_rfl) rfl) ?_; clear S a; intro a S
  refine k_read 13 S rfl (fun w hW => have M := M.grow hW; y_load S (by kernel_rfl) rfl (M.cell 2 rfl rfl)) ?_; clear S a; intro a S
  refine k_pure 14 S rfl (fun w => y_lenS (E := 65) S rfl (by kernel_rfl)) ?_; clear S a; intro a S
  (first | refine k_pure 15 S rfl (fun w => y_remN S rfl rfl (by omega)) ?_ | refine k_pure 15 S rfl (fun w => y_remZ S rfl rfl (by omega)) ?_); clear S a; intro a S
  rw [hi] at S
  refine k_read 16 S rfl (fun w hW => have M := M.grow hW; y_indexR (e := 65) (sz := 37) S (by kernel_rfl) rfl (M.arg hv) rfl (by first | omega | (simp; done) | (simp; omega))) ?_; clear S a; intro a S
  try simp only [Int.toNat_natCast, Nat.mul_one, Nat.zero_add] at S
  refine k_read 17 S rfl (fun w hW => have M := M.grow hW; y_loadAgg S (by kernel_rfl) rfl rfl ((M.arg hv).at_.row (i := i) (fm_get len_ope ho) rfl)) ?_; clear S a; intro a S
  refine k_one 18 rfl (by kernel_rfl) ?_
  refine st_alloc S M rfl rfl #[.int .i64 0, .int .i64 0, .int .i64 0, .int .i64 0, .int .i64 0, .int .i8 0, .int .i64 0, .int .i64 0, .int .i64 0, .int .i64 0, .int .i64 0, .int .i64 0, .int .i64 0, .int .i8 0, .int .i64 0, .int .i64 0, .int .i64 0, .int .i64 0, .int .i64 0, .int .i64 0, .int .i64 0, .int .i64 0, .int .i8 0, .int .i64 0, .int .u8 0, .int .u8 0, .int .u8 0, .int .u8 0, .int .u8 0, .int .u8 0, .int .u8 0, .int .u8 0, .int .i64 0, .bool false, .int .i64 0, .int .i64 0, .slice none 0 0] (by kernel_rfl) ?_; clear S M a; intro a w6 b1 S M hB
  refine wpList_nil ?_; refine then_normal ?_; refine ⟨fun _ => hB, ?_⟩
  refine k_one 19 rfl (by kernel_rfl) ?_
  refine st_store (sz := 37) (us := [_, _, _, _, _, _, _, _, _, _, _, _, _, _, _, _, _, _, _, _, _, _, _, _, _, _, _, _, _, _, _, _, _, _, _, _, _]) S M 0 rfl (by kernel_rfl) rfl rfl rfl rfl rfl rfl (by first | decide | (simp; done) | (simp; omega)) ?_; clear M; intro w7 M
  simp only [putL, List.set_cons_zero, List.set_cons_succ, Nat.reduceAdd] at M
  refine wpList_nil ?_; refine then_normal ?_; refine ⟨fun h => absurd h (by decide), ?_⟩
  refine k_end (by kernel_rfl) ?_
  replace S := S.sub [(0, _), (1, _), (2, _), (3, _), (4, _), (10, _), (5, _)] rfl
  refine nxE ?_
  refine st_run [13, 1] S M rfl (by kernel_rfl) ?_; clear S a; intro a S
  refine st_y S rfl rfl rfl (y_max S rfl rfl) ?_; clear S a; intro a S
  refine st_go [3] S rfl (by kernel_rfl) ?_; clear S a; intro a S
  refine st_y S rfl rfl rfl (y_loadAgg (cs := [_, _, _]) S (by kernel_rfl) rfl rfl (M.cellsAt (k := 3) 0 rfl rfl)) ?_; clear S a; intro a S
  refine st_run [14, 9, 1] S M rfl (by kernel_rfl) ?_; clear S a; intro a S
  refine st_y S rfl rfl rfl (y_max S rfl rfl) ?_; clear S a; intro a S
  refine st_run [36, 3] S M rfl (by kernel_rfl) ?_; clear S a; intro a S
  refine st_y S rfl rfl rfl (y_build (ps := [(0, (Operand.const (Value.int IntKind.i8 3))), (1, (Operand.tmp 32)), (3, (Operand.const (Value.int IntKind.i64 1))), (4, (Operand.const (Value.int IntKind.i64 1))), (5, (Operand.tmp 34)), (6, (Operand.tmp 38)), (10, (Operand.tmp 40))]) (pl := [(0, 1), (1, 1), (2, 1), (3, 1), (4, 1), (5, 3), (8, 1), (9, 1), (10, 1), (11, 8), (19, 1), (20, 1), (21, 1), (22, 1), (23, 1)]) (z := [.int .i8 0, .int .i64 0, .int .i64 0, .int .i64 0, .int .i64 0, .int .i64 0, .int .i64 0, .int .i64 0, .int .i64 0, .int .i8 0, .int .i64 0, .int .u8 0, .int .u8 0, .int .u8 0, .int .u8 0, .int .u8 0, .int .u8 0, .int .u8 0, .int .u8 0, .int .i64 0, .bool false, .int .i64 0, .int .i64 0, .slice none 0 0]) (cs := [_, _, _, _, _, _, _, _, _, _, _, _, _, _, _, _, _, _, _, _, _, _, _, _]) S (by kernel_rfl) rfl (rfl)) ?_; clear S a; intro a S
  refine st_alloc S M rfl rfl #[.int .i8 0, .int .i64 0, .int .i64 0, .int .i64 0, .int .i64 0, .int .i64 0, .int .i64 0, .int .i64 0, .int .i64 0, .int .i8 0, .int .i64 0, .int .u8 0, .int .u8 0, .int .u8 0, .int .u8 0, .int .u8 0, .int .u8 0, .int .u8 0, .int .u8 0, .int .i64 0, .bool false, .int .i64 0, .int .i64 0, .slice none 0 0] (by kernel_rfl) ?_; clear S M a; intro a w8 b2 S M hB
  refine st_store (sz := 24) (us := [_, _, _, _, _, _, _, _, _, _, _, _, _, _, _, _, _, _, _, _, _, _, _, _]) S M 0 rfl (by kernel_rfl) rfl rfl rfl rfl rfl rfl (by first | decide | (simp; done) | (simp; omega)) ?_; clear M; intro w9 M
  simp only [putL, List.set_cons_zero, List.set_cons_succ, Nat.reduceAdd] at M
  refine nxC ?_
  refine wp_seq ?_
  refine nxD ?_
  refine st_run [36, 4, 1] S M rfl (by kernel_rfl) ?_; clear S a; intro a S
  replace S := S.sub [(0, _), (1, _), (2, _), (3, _), (4, _), (10, _), (5, _), (6, _), (44, _)] rfl
  refine nxC ?_
  refine st_fi (t := 44) S rfl ?_ ?_
  · clear S; intro h44 S
    refine st_condF S rfl ?_
    refine wp_skip ?_
    refine then_normal ?_
    refine wp_seq ?_
    refine nxD ?_
    refine st_run [6, 2, 1] S M rfl (by kernel_rfl) ?_; clear S a; intro a S
    refine nxC ?_
    refine st_fi (t := 50) S rfl ?_ ?_
    · clear S; intro h50 S
      refine st_condF S rfl ?_
      refine wp_skip ?_
      refine nxE ?_
      refine st_y S rfl rfl rfl (y_loadAgg (cs := [_, _, _, _, _, _, _, _, _, _, _, _, _, _, _, _, _, _, _, _, _, _, _, _]) S (by kernel_rfl) rfl rfl (M.cellsAt (k := 24) 0 rfl rfl)) ?_; clear S a; intro a S
      refine st_store (sz := 24) (us := [_, _, _, _, _, _, _, _, _, _, _, _, _, _, _, _, _, _, _, _, _, _, _, _]) S M 2 rfl (by kernel_rfl) rfl rfl rfl rfl rfl rfl (by first | decide | (simp; done) | (simp; omega)) ?_; clear M; intro w20 M
      simp only [putL, List.set_cons_zero, List.set_cons_succ, Nat.reduceAdd] at M
      refine nxC ?_
      refine wp_ret ?_
      refine end_one S rfl (res_agg (cs := [_, _, _, _, _, _, _, _, _, _, _, _, _, _, _, _, _, _, _, _, _, _, _, _]) (by kernel_rfl) rfl rfl (M.cellsAt (k := 24) 2 rfl rfl)) ?_
      first
        | exact ⟨⟨3, max o.at_ 1, 0, 1, 1, o.nm, max o.ex.n 1, 0, 0, zV8, q.e, false, 0, 0⟩, rfl, M.below⟩
        | exact ⟨⟨3, max o.at_ 1, 0, 1, 1, o.nm, max o.ex.n 1, 0, 0, q.val, q.e, false, 0, 0⟩, rfl, M.below⟩
        | exact ⟨⟨10, max o.at_ 1, 0, 1, 1, o.nm, 0, 0, 0, zV8, q.e, false, 0, 0⟩, rfl, M.below⟩
    clear S; intro h50 S
    refine st_condT S rfl ?_
    refine nxD ?_
    refine st_go [1] S rfl (by kernel_rfl) ?_; clear S a; intro a S
    refine st_store (sz := 1) (us := [_]) S M 0 rfl (by kernel_rfl) rfl rfl rfl rfl rfl rfl (by first | decide | (simp; done) | (simp; omega)) ?_; clear M; intro w16 M
    simp only [putL, List.set_cons_zero, List.set_cons_succ, Nat.reduceAdd] at M
    refine nxA ?_
    refine st_go [9] S rfl (by kernel_rfl) ?_; clear S a; intro a S
    refine st_store (sz := 1) (us := [_]) S M 0 rfl (by kernel_rfl) rfl rfl rfl rfl rfl rfl (by first | decide | (simp; done) | (simp; omega)) ?_; clear M; intro w17 M
    simp only [putL, List.set_cons_zero, List.set_cons_succ, Nat.reduceAdd] at M
    refine nxB ?_
    refine st_y S rfl rfl rfl (y_buildA (ps := []) (sz := 1) (z := [.int .u8 0, .int .u8 0, .int .u8 0, .int .u8 0, .int .u8 0, .int .u8 0, .int .u8 0, .int .u8 0]) (cs := [_, _, _, _, _, _, _, _]) S (by kernel_rfl) rfl rfl) ?_; clear S a; intro a S
    refine st_go [12] S rfl (by kernel_rfl) ?_; clear S a; intro a S
    refine st_store (sz := 8) (us := [_, _, _, _, _, _, _, _]) S M 0 rfl (by kernel_rfl) rfl rfl rfl rfl rfl rfl (by first | decide | (simp; done) | (simp; omega)) ?_; clear M; intro w18 M
    simp only [putL, List.set_cons_zero, List.set_cons_succ, Nat.reduceAdd] at M
    refine nxA ?_
    refine st_y S rfl rfl rfl (y_loadAgg (cs := [_, _, _, _, _, _, _, _, _, _, _, _, _, _, _, _, _, _, _, _, _, _, _, _]) S (by kernel_rfl) rfl rfl (M.cellsAt (k := 24) 0 rfl rfl)) ?_; clear S a; intro a S
    refine st_store (sz := 24) (us := [_, _, _, _, _, _, _, _, _, _, _, _, _, _, _, _, _, _, _, _, _, _, _, _]) S M 2 rfl (by kernel_rfl) rfl rfl rfl rfl rfl rfl (by first | decide | (simp; done) | (simp; omega)) ?_; clear M; intro w19 M
    simp only [putL, List.set_cons_zero, List.set_cons_succ, Nat.reduceAdd] at M
    refine nxC ?_
    refine wp_ret ?_
    refine end_one S rfl (res_agg (cs := [_, _, _, _, _, _, _, _, _, _, _, _, _, _, _, _, _, _, _, _, _, _, _, _]) (by kernel_rfl) rfl rfl (M.cellsAt (k := 24) 2 rfl rfl)) ?_
    first
      | exact ⟨⟨3, max o.at_ 1, 0, 1, 1, o.nm, max o.ex.n 1, 0, 0, zV8, q.e, false, 0, 0⟩, rfl, M.below⟩
      | exact ⟨⟨3, max o.at_ 1, 0, 1, 1, o.nm, max o.ex.n 1, 0, 0, q.val, q.e, false, 0, 0⟩, rfl, M.below⟩
      | exact ⟨⟨10, max o.at_ 1, 0, 1, 1, o.nm, 0, 0, 0, zV8, q.e, false, 0, 0⟩, rfl, M.below⟩
  clear S; intro h44 S
  refine st_condT S rfl ?_
  refine wp_region_lit ?_
  refine st_go [47] S rfl (by kernel_rfl) ?_; clear S a; intro a S
  refine st_y S rfl rfl rfl (y_loadAgg (cs := [_, _, _, _, _, _, _, _]) S (by kernel_rfl) rfl rfl (M.cellsAt (k := 8) 3 rfl rfl)) ?_; clear S a; intro a S
  refine st_go [12] S rfl (by kernel_rfl) ?_; clear S a; intro a S
  refine st_store (sz := 8) (us := [_, _, _, _, _, _, _, _]) S M 0 rfl (by kernel_rfl) rfl rfl rfl rfl rfl rfl (by first | decide | (simp; done) | (simp; omega)) ?_; clear M; intro w10 M
  simp only [putL, List.set_cons_zero, List.set_cons_succ, Nat.reduceAdd] at M
  refine nxC ?_
  refine wp_seq ?_
  refine nxD ?_
  refine st_run [6, 2, 1] S M rfl (by kernel_rfl) ?_; clear S a; intro a S
  refine nxC ?_
  refine st_fi (t := 50) S rfl ?_ ?_
  · clear S; intro h50 S
    refine st_condF S rfl ?_
    refine wp_skip ?_
    refine nxE ?_
    refine st_y S rfl rfl rfl (y_loadAgg (cs := [_, _, _, _, _, _, _, _, _, _, _, _, _, _, _, _, _, _, _, _, _, _, _, _]) S (by kernel_rfl) rfl rfl (M.cellsAt (k := 24) 0 rfl rfl)) ?_; clear S a; intro a S
    refine st_store (sz := 24) (us := [_, _, _, _, _, _, _, _, _, _, _, _, _, _, _, _, _, _, _, _, _, _, _, _]) S M 2 rfl (by kernel_rfl) rfl rfl rfl rfl rfl rfl (by first | decide | (simp; done) | (simp; omega)) ?_; clear M; intro w15 M
    simp only [putL, List.set_cons_zero, List.set_cons_succ, Nat.reduceAdd] at M
    refine nxC ?_
    refine wp_ret ?_
    refine end_one S rfl (res_agg (cs := [_, _, _, _, _, _, _, _, _, _, _, _, _, _, _, _, _, _, _, _, _, _, _, _]) (by kernel_rfl) rfl rfl (M.cellsAt (k := 24) 2 rfl rfl)) ?_
    first
      | exact ⟨⟨3, max o.at_ 1, 0, 1, 1, o.nm, max o.ex.n 1, 0, 0, zV8, q.e, false, 0, 0⟩, rfl, M.below⟩
      | exact ⟨⟨3, max o.at_ 1, 0, 1, 1, o.nm, max o.ex.n 1, 0, 0, q.val, q.e, false, 0, 0⟩, rfl, M.below⟩
      | exact ⟨⟨10, max o.at_ 1, 0, 1, 1, o.nm, 0, 0, 0, zV8, q.e, false, 0, 0⟩, rfl, M.below⟩
  clear S; intro h50 S
  refine st_condT S rfl ?_
  refine nxD ?_
  refine st_go [1] S rfl (by kernel_rfl) ?_; clear S a; intro a S
  refine st_store (sz := 1) (us := [_]) S M 0 rfl (by kernel_rfl) rfl rfl rfl rfl rfl rfl (by first | decide | (simp; done) | (simp; omega)) ?_; clear M; intro w11 M
  simp only [putL, List.set_cons_zero, List.set_cons_succ, Nat.reduceAdd] at M
  refine nxA ?_
  refine st_go [9] S rfl (by kernel_rfl) ?_; clear S a; intro a S
  refine st_store (sz := 1) (us := [_]) S M 0 rfl (by kernel_rfl) rfl rfl rfl rfl rfl rfl (by first | decide | (simp; done) | (simp; omega)) ?_; clear M; intro w12 M
  simp only [putL, List.set_cons_zero, List.set_cons_succ, Nat.reduceAdd] at M
  refine nxB ?_
  refine st_y S rfl rfl rfl (y_buildA (ps := []) (sz := 1) (z := [.int .u8 0, .int .u8 0, .int .u8 0, .int .u8 0, .int .u8 0, .int .u8 0, .int .u8 0, .int .u8 0]) (cs := [_, _, _, _, _, _, _, _]) S (by kernel_rfl) rfl rfl) ?_; clear S a; intro a S
  refine st_go [12] S rfl (by kernel_rfl) ?_; clear S a; intro a S
  refine st_store (sz := 8) (us := [_, _, _, _, _, _, _, _]) S M 0 rfl (by kernel_rfl) rfl rfl rfl rfl rfl rfl (by first | decide | (simp; done) | (simp; omega)) ?_; clear M; intro w13 M
  simp only [putL, List.set_cons_zero, List.set_cons_succ, Nat.reduceAdd] at M
  refine nxA ?_
  refine st_y S rfl rfl rfl (y_loadAgg (cs := [_, _, _, _, _, _, _, _, _, _, _, _, _, _, _, _, _, _, _, _, _, _, _, _]) S (by kernel_rfl) rfl rfl (M.cellsAt (k := 24) 0 rfl rfl)) ?_; clear S a; intro a S
  refine st_store (sz := 24) (us := [_, _, _, _, _, _, _, _, _, _, _, _, _, _, _, _, _, _, _, _, _, _, _, _]) S M 2 rfl (by kernel_rfl) rfl rfl rfl rfl rfl rfl (by first | decide | (simp; done) | (simp; omega)) ?_; clear M; intro w14 M
  simp only [putL, List.set_cons_zero, List.set_cons_succ, Nat.reduceAdd] at M
  refine nxC ?_
  refine wp_ret ?_
  refine end_one S rfl (res_agg (cs := [_, _, _, _, _, _, _, _, _, _, _, _, _, _, _, _, _, _, _, _, _, _, _, _]) (by kernel_rfl) rfl rfl (M.cellsAt (k := 24) 2 rfl rfl)) ?_
  first
    | exact ⟨⟨3, max o.at_ 1, 0, 1, 1, o.nm, max o.ex.n 1, 0, 0, zV8, q.e, false, 0, 0⟩, rfl, M.below⟩
    | exact ⟨⟨3, max o.at_ 1, 0, 1, 1, o.nm, max o.ex.n 1, 0, 0, q.val, q.e, false, 0, 0⟩, rfl, M.below⟩
    | exact ⟨⟨10, max o.at_ 1, 0, 1, 1, o.nm, 0, 0, 0, zV8, q.e, false, 0, 0⟩, rfl, M.below⟩
end Go.Proofs.Ytniijiipkfhjgaa

namespace Go.Proofs.Ytniijiipkfhjgaa
open Go.RowKit Go.Sort
/-! the bits of the touched shards -/
theorem ShOk.or {sh : Int} (h : ShOk sh) {k : Nat} (h1 : 1 ≤ k) (h4 : k ≤ 4) : ShOk (orI sh (1 * (2 : Int) ^ k)) := by
  obtain ⟨q, hq, rfl⟩ := h
  have hall : ∀ q : Fin 16, ∀ k : Fin 5, 1 ≤ k.val → (∃ j : Fin 16, orI (2 * ((q.val : Nat) : Int)) (1 * (2 : Int) ^ k.val) = 2 * ((j.val : Nat) : Int)) := by decide +kernel
  obtain ⟨j, hj⟩ := hall ⟨q, hq⟩ ⟨k, by omega⟩ h1
  exact ⟨j.val, j.isLt, hj⟩
theorem hasBit_or {sh : Int} (h : ShOk sh) {k : Nat} (h1 : 1 ≤ k) (h4 : k ≤ 4) {i : Nat} (hi : i < 5) : hasBit (orI sh (1 * (2 : Int) ^ k)) i = (hasBit sh i || i == k) := by
  obtain ⟨q, hq, rfl⟩ := h
  have hall : ∀ q : Fin 16, ∀ k i : Fin 5, 1 ≤ k.val → hasBit (orI (2 * ((q.val : Nat) : Int)) (1 * (2 : Int) ^ k.val)) i.val = (hasBit (2 * ((q.val : Nat) : Int)) i.val || i.val == k.val) := by decide +kernel
  exact hall ⟨q, hq⟩ ⟨k, by omega⟩ ⟨i, hi⟩ h1
theorem ShOk.notV {sh : Int} (h : ShOk sh) : notV sh 30 = 0 := by
  obtain ⟨q, hq, rfl⟩ := h
  have hall : ∀ q : Fin 16, Go.Proofs.Ytniijiipkfhjgaa.notV (2 * ((q.val : Nat) : Int)) 30 = 0 := by decide +kernel
  exact hall ⟨q, hq⟩
theorem ShOk.zero : ShOk 0 := ⟨0, by omega, rfl⟩
/-! an exec's message -/
def exM (to inc : Int) (nm : Nm) (n op block : Int) (v : V8) : Msg := { zMg with kind := 2, to := to, inc := inc, name := nm, n := n, op := op, block := block, val := v }
theorem exM_may (to inc : Int) (nm : Nm) (n op block : Int) (v : V8) : (exM to inc nm n op block v).may [] = true ↔ (to ≠ 0 ∧ 0 ≤ to ∧ to ≤ 4) ∧ (1 ≤ inc ∧ inc ≤ 1048576) ∧ nm.named = true ∧ (1 ≤ n ∧ n ≤ 1048576) ∧ (0 ≤ op ∧ op ≤ 2 ∧ 0 ≤ block ∧ block < 32) ∧ (op = 1 ∨ v.zero = true) := by
  have hs : (exM to inc nm n op block v).same (bareM (khas 2) 10 (exM to inc nm n op block v)) [] (bareX (khas 2) []) = true := Msg.same_iff.2 ⟨rfl, rfl⟩
  have hf : fitB (khas 2) (exM to inc nm n op block v) [] = ((!(!nm.named) && !(!(withinB n 1048576))) && (decide (0 ≤ op ∧ op ≤ 2 ∧ 0 ≤ block ∧ block < 32) && (op == 1 || v.zero))) := rfl
  unfold Msg.may
  have hk : (exM to inc nm n op block v).kind = 2 := rfl
  have hb : betweenB (exM to inc nm n op block v).frm (exM to inc nm n op block v).to (kdown 2) = decide (to ≠ 0 ∧ 0 ≤ to ∧ to ≤ 4) := by
    show (if true = true then decide ((0 : Int) = 0 ∧ to ≠ 0 ∧ 0 ≤ to ∧ to ≤ 4) else _) = _
    rw [if_pos rfl, Bool.eq_iff_iff]; simp
  rw [hk, hb, hs, hf]
  have hi : (exM to inc nm n op block v).inc = inc := rfl
  have hy : (exM to inc nm n op block v).your = 0 := rfl
  rw [hi, hy]
  rcases Bool.eq_false_or_eq_true nm.named with hn | hn <;> rcases Bool.eq_false_or_eq_true v.zero with hz | hz <;> simp [withinB, hn, hz] <;> omega
/-! the keys of the open ones -/
structure Key where
  h : Int
  c : Int
  nm : Nm
def Ope.key (o : Ope) : Key := ⟨o.h, o.c, o.nm⟩
def keys (l : List Ope) : List Key := l.map Ope.key
def Apart (a b : Key) : Prop := a.h < b.h ∧ a.nm.stamp ≠ b.nm.stamp
/-- may a session be, by its keys -/
structure Ses.Well (s : Ses) : Prop where
  inc : 1 ≤ s.inc ∧ s.inc ≤ 1048576
  last : 0 ≤ s.last ∧ s.last ≤ 1099511627776
  len : s.l.length ≤ 8
  pos : ∀ o ∈ s.l, 1 ≤ o.h ∧ o.h ≤ s.last
  may : ∀ o ∈ s.l, o.may s.inc = true
  shok : ∀ o ∈ s.l, ShOk o.sh
  apart : (keys s.l).Pairwise Apart
  ends : ∀ x ∈ s.over, EndOk s x
theorem keys_get {l : List Ope} {i : Nat} {o : Ope} (h : l[i]? = some o) : (keys l)[i]? = some o.key := by
  unfold keys; rw [List.getElem?_map, h]; rfl
theorem apart_get {l : List Ope} (h : (keys l).Pairwise Apart) {i j : Nat} {a b : Ope} (hij : i < j) (ha : l[i]? = some a) (hb : l[j]? = some b) : a.h < b.h ∧ a.nm.stamp ≠ b.nm.stamp := by
  obtain ⟨h1, e1⟩ := List.getElem?_eq_some_iff.1 (keys_get ha)
  obtain ⟨h2, e2⟩ := List.getElem?_eq_some_iff.1 (keys_get hb)
  have := List.pairwise_iff_getElem.1 h i j h1 h2 hij
  rw [e1, e2] at this; exact this
theorem Ses.Well.toMay {s : Ses} (h : s.Well) : s.May := by
  refine ⟨h.inc, h.last, h.len, fun i o ho => ?_, h.ends⟩
  have hm := List.mem_of_getElem? ho
  refine ⟨?_, (h.pos o hm).2, fun j p hj hp => (apart_get h.apart hj hp ho).2, h.may o hm⟩
  cases i with
  | zero => have := (h.pos o hm).1; show (0 : Int) < o.h; omega
  | succ k =>
    have hil := (List.getElem?_eq_some_iff.1 ho).1
    obtain ⟨p, hp⟩ : ∃ p, s.l[k]? = some p := ⟨_, List.getElem?_eq_getElem (by omega)⟩
    show (match s.l[k]? with | Option.some o => o.h | Option.none => 0) < o.h
    rw [hp]; exact (apart_get h.apart (Nat.lt_succ_self k) hp ho).1
/-- the same one by its key -/
theorem keys_set {l : List Ope} {i : Nat} {o o' : Ope} (h : l[i]? = some o) (e : o'.key = o.key) : keys (l.set i o') = keys l := by
  unfold keys
  rw [List.map_set, e]
  exact set_self (keys_get h)
theorem keys_erase (l : List Ope) (i : Nat) : keys (l.eraseIdx i) = (keys l).eraseIdx i := by
  unfold keys
  rw [List.eraseIdx_eq_take_drop_succ, List.eraseIdx_eq_take_drop_succ, List.map_append, List.map_take, List.map_drop]
theorem keys_snoc (l : List Ope) (o : Ope) : keys (l ++ [o]) = keys l ++ [o.key] := by unfold keys; simp
theorem mem_keys {l : List Ope} {k : Key} : k ∈ keys l ↔ ∃ o ∈ l, o.key = k := by unfold keys; simp
theorem mem_set {l : List Ope} {i : Nat} {o' q : Ope} (h : q ∈ l.set i o') : q ∈ l ∨ q = o' := by
  rcases List.mem_or_eq_of_mem_set h with h | h
  · exact .inl h
  · exact .inr h
theorem mem_erase_ne {l : List Ope} (ha : (keys l).Pairwise Apart) {i : Nat} {o q : Ope} (ho : l[i]? = some o) (hq : q ∈ l.eraseIdx i) : q ∈ l ∧ q.h ≠ o.h ∧ q.nm.stamp ≠ o.nm.stamp := by
  have hql := List.mem_of_mem_eraseIdx hq
  refine ⟨hql, ?_⟩
  obtain ⟨j, hj⟩ := List.getElem?_of_mem hq
  rw [List.getElem?_eraseIdx] at hj
  split at hj
  · have := apart_get ha (by assumption) hj ho
    exact ⟨by omega, this.2⟩
  · have := apart_get ha (show i < j + 1 by omega) ho hj
    exact ⟨by omega, fun e => this.2 e.symm⟩
theorem mem_of_ne {l : List Ope} {i : Nat} {o q : Ope} (ho : l[i]? = some o) (hq : q ∈ l) (hne : q.h ≠ o.h) : q ∈ l.eraseIdx i := by
  obtain ⟨j, hj⟩ := List.getElem?_of_mem hq
  have hji : j ≠ i := fun e => by subst e; rw [ho] at hj; exact hne (by rw [Option.some.inj hj])
  rcases Nat.lt_or_ge j i with h | h
  · exact List.mem_of_getElem? (i := j) (by rw [List.getElem?_eraseIdx, if_pos h]; exact hj)
  · refine List.mem_of_getElem? (i := j - 1) (by rw [List.getElem?_eraseIdx, if_neg (by omega), show j - 1 + 1 = j by omega]; exact hj)
/-- one open transaction is another now, of the same name and handle -/
theorem Ses.Well.setO {s : Ses} (h : s.Well) {i : Nat} {o o' : Ope} (ho : s.l[i]? = some o) (e : o'.key = o.key) (hm : o'.may s.inc = true) (hs : ShOk o'.sh) : Ses.Well { s with l := s.l.set i o' } := by
  have hmem := List.mem_of_getElem? ho
  have e1 : o'.h = o.h := congrArg Key.h e
  refine ⟨h.inc, h.last, by show (s.l.set i o').length ≤ 8; rw [List.length_set]; exact h.len, fun q hq => ?_, fun q hq => ?_, fun q hq => ?_, ?_, fun x hx => ?_⟩
  · rcases mem_set hq with h1 | rfl
    · exact h.pos q h1
    · rw [e1]; exact h.pos o hmem
  · rcases mem_set hq with h1 | rfl
    · exact h.may q h1
    · exact hm
  · rcases mem_set hq with h1 | rfl
    · exact h.shok q h1
    · exact hs
  · show (keys (s.l.set i o')).Pairwise Apart
    rw [keys_set ho e]; exact h.apart
  · obtain ⟨h1, h2, h3⟩ := h.ends x hx
    refine ⟨h1, fun q hq => ?_, h3⟩
    rcases mem_set hq with h4 | rfl
    · exact h2 q h4
    · rw [e1]; exact h2 o hmem
theorem may_named {o : Ope} {inc : Int} (h : o.may inc = true) : o.nm.named = true ∧ o.nm.inc = inc ∧ (1 ≤ o.c ∧ o.c ≤ 1048576) ∧ o.touchedMay = true := by
  unfold Ope.may at h
  split at h
  · rename_i h1; simpa [and_assoc] using h1
  · exact absurd h (by decide)
theorem may_intro {o : Ope} {inc : Int} (h1 : o.nm.named = true) (h2 : o.nm.inc = inc) (h3 : 1 ≤ o.c ∧ o.c ≤ 1048576) (h4 : o.touchedMay = true)
    (h5 : o.ph ≠ 1 → o.ex = zMg) (h6 : (o.ph = 0 ∧ o.at_ = 0) ∨ (o.ph = 1 ∧ (1 ≤ o.at_ ∧ o.at_ ≤ 4) ∧ hasBit o.sh o.at_.toNat = true ∧ o.execMay inc = true) ∨ (o.ph = 2 ∧ (1 ≤ o.at_ ∧ o.at_ ≤ 4) ∧ o.sh = 1 * (2 : Int) ^ o.at_.toNat) ∨ (o.ph = 3 ∧ o.at_ = 0 ∧ andV o.sh (o.sh - 1) ≠ 0)) : o.may inc = true := by
  unfold Ope.may
  rw [if_pos (by simp [h1, h2, h3, h4]), if_neg (by
    rintro ⟨h7, h8⟩
    rw [h5 h7] at h8
    exact absurd h8 (by decide))]
  rcases h6 with ⟨e, h⟩ | ⟨e, h, h7, h8⟩ | ⟨e, h, h7⟩ | ⟨e, h, h7⟩
  · rw [if_pos e]; simp [h]
  · rw [if_neg (by omega), if_pos e]; simp [h, h7, h8]
  · rw [if_neg (by omega), if_neg (by omega), if_pos e, decide_eq_true h, h7]; simp
  · rw [if_neg (by omega), if_neg (by omega), if_neg (by omega), if_pos e]; simp [h, h7]
theorem may_at0 {o : Ope} {inc : Int} (h : o.may inc = true) (h0 : o.ph = 0) : o.at_ = 0 ∧ o.ex = zMg := by
  unfold Ope.may at h
  split at h
  · split at h
    · exact absurd h (by decide)
    · rename_i h2
      refine ⟨by simpa using h, ?_⟩
      have : o.ex.same zMg [] [] = true := by
        rcases Bool.eq_false_or_eq_true (o.ex.same zMg [] []) with h3 | h3
        · exact h3
        · exact absurd ⟨by omega, h3⟩ h2
      exact (Msg.same_iff.1 this).1
  · exact absurd h (by decide)
theorem may_at1 {o : Ope} {inc : Int} (h : o.may inc = true) (h0 : o.ph = 1) : (1 ≤ o.at_ ∧ o.at_ ≤ 4) ∧ hasBit o.sh o.at_.toNat = true ∧ o.execMay inc = true := by
  unfold Ope.may at h
  split at h
  · split at h
    · exact absurd h (by decide)
    · rw [h0] at h
      simpa using h
  · exact absurd h (by decide)
/-- the exec that is under way, spelled -/
theorem execMay_iff {o : Ope} {inc : Int} (h : o.execMay inc = true) : o.ex.name = o.nm ∧ o.ex.kind = 2 ∧ o.ex.to = o.at_ ∧ o.ex.n = o.nAt o.at_.toNat ∧ (0 ≤ o.ex.op ∧ o.ex.op ≤ 2 ∧ 0 ≤ o.ex.block ∧ o.ex.block < 32) ∧ (o.ex.op = 1 ∨ o.ex.val.zero = true) := by
  unfold Ope.execMay at h
  simp only [Bool.and_eq_true, beq_iff_eq] at h
  obtain ⟨⟨⟨⟨⟨⟨⟨h1, h2⟩, h3⟩, h4⟩, h5⟩, h6⟩, h7⟩, h8⟩ := h
  refine ⟨Nm.eqb_iff.1 h1, h5, h6, h7, ?_⟩
  unfold Msg.may at h8
  split at h8
  · simp only [Bool.and_eq_true] at h8
    obtain ⟨-, h9⟩ := h8
    unfold fitB at h9
    simp only [Bool.and_eq_true] at h9
    obtain ⟨-, h10⟩ := h9
    unfold fitKind at h10
    rw [if_pos h5] at h10
    simpa [and_assoc] using h10
  · exact absurd h8 (by decide)
theorem Ope.nAt_ne (o : Ope) {k i : Nat} (v : Int) (h : k ≤ 4) (hi : i ≤ 4) (hne : i ≠ k) : (o.nSet k v).nAt i = o.nAt i := by
  have : k = 0 ∨ k = 1 ∨ k = 2 ∨ k = 3 ∨ k = 4 := by omega
  have : i = 0 ∨ i = 1 ∨ i = 2 ∨ i = 3 ∨ i = 4 := by omega
  rcases ‹k = 0 ∨ _› with rfl | rfl | rfl | rfl | rfl <;> rcases ‹i = 0 ∨ _› with rfl | rfl | rfl | rfl | rfl <;> first | rfl | exact absurd rfl hne
/-- an exec is sent: it may be -/
theorem execd_may {o : Ope} {inc : Int} (h : o.may inc = true) (hs : ShOk o.sh) {k : Nat} (h1 : 1 ≤ k) (h4 : k ≤ 4) (hn : o.nAt k < 1048576) (x : Msg) (hx : (0 ≤ x.op ∧ x.op ≤ 2 ∧ 0 ≤ x.block ∧ x.block < 32) ∧ (x.op = 1 ∨ x.val.zero = true)) (hi : 1 ≤ inc ∧ inc ≤ 1048576) :
    (o.execd k x).may inc = true := by
  obtain ⟨a1, a2, a3, a4⟩ := may_named h
  have hb := touched_bd a4
  have hb5 : (o.execd k x).nAt k = o.nAt k + 1 := Ope.nAt_set o _ h4
  have hat : (o.execd k x).at_.toNat = k := by show ((k : Int)).toNat = k; omega
  have hbit : hasBit (o.execd k x).sh k = true := by
    show hasBit (orI o.sh (1 * (2 : Int) ^ k)) k = true
    rw [hasBit_or hs h1 h4 (by omega)]; simp
  refine may_intro a1 a2 a3 ?_ (fun h => absurd rfl h) (.inr (.inl ⟨rfl, by show 1 ≤ (k : Int) ∧ (k : Int) ≤ 4; omega, by rw [hat]; exact hbit, ?_⟩))
  · refine touched_yes (by show (notV (orI o.sh (1 * (2 : Int) ^ k)) 30 == 0) = true; rw [(hs.or h1 h4).notV]; rfl) fun i hi => ?_
    unfold nOk
    show (if hasBit (orI o.sh (1 * (2 : Int) ^ k)) i = true then _ else _) = true
    rw [hasBit_or hs h1 h4 hi]
    by_cases hik : i = k
    · subst hik
      have := hb i
      rw [hb5, beq_self_eq_true, Bool.or_true, if_pos rfl, decide_eq_true (by omega)]
    · rw [show (i == k) = false from beq_eq_false_iff_ne.2 hik, Bool.or_false, show (o.execd k x).nAt i = o.nAt i from Ope.nAt_ne o _ h4 (by omega) hik]
      rcases Bool.eq_false_or_eq_true (nOk o.sh i (o.nAt i)) with h9 | h9
      · exact h9
      · rw [touched_no hi h9] at a4; exact absurd a4 (by decide)
  · unfold Ope.execMay
    have hm : ({ (o.execd k x).ex with inc := inc } : Msg).may [] = true := (exM_may (k : Int) inc o.nm (o.nAt k + 1) x.op x.block x.val).2 ⟨by omega, hi, a1, by have := hb k; omega, hx.1, hx.2⟩
    rw [hm, hat, hb5]
    have e1 : (o.execd k x).ex.name.eqb (o.execd k x).nm = true := Nm.eqb_iff.2 rfl
    rw [e1]
    show (true && (0 : Int) == 0 && (0 : Int) == 0 && (0 : Int) == 0 && (2 : Int) == 2 && (k : Int) == (k : Int) && (o.nAt k + 1 == o.nAt k + 1) && true) = true
    simp
end Go.Proofs.Ytniijiipkfhjgaa

