/-
  What SessionNumbers rests on, part 7.
-/
import Derived.Test.YtniijiipkfhjgaaP6
namespace Go.Proofs.Ytniijiipkfhjgaa
open Go.RowKit Go.Sort
def tickM (o : Ope) : List Msg := if o.ph = 1 then [o.ex] else if o.ph = 2 then [o.fast] else []
def tickP (l : List Ope) : List Msg := l.flatMap tickM
theorem tickP_len : ∀ l : List Ope, (tickP l).length ≤ l.length
  | [] => Nat.le_refl _
  | o :: l => by
    have := tickP_len l
    show (tickM o ++ tickP l).length ≤ _
    rw [List.length_append, List.length_cons]
    have h1 : (tickM o).length ≤ 1 := by
      unfold tickM
      split
      · simp
      · split <;> simp
    omega
theorem tickP_snoc {l : List Ope} {k : Nat} {o : Ope} (h : l[k]? = some o) : tickP (l.take (k + 1)) = tickP (l.take k) ++ tickM o := by
  unfold tickP; rw [List.take_add_one, h]; simp
set_option maxHeartbeats 4000000 in
theorem tick_any {wo w : World} {A : List Ent} (s : Ses) (va oa : Option Addr) (vc oc : Nat) (of : Of8) (hR : RdS wo A s va vc oa oc) (M : Mem wo w A) (hov : s.over.length ≤ 500) (hsh : ∀ o ∈ s.l, ShOk o.sh) :
    Calls Try.prog 12 #[.agg #[.slice va s.l.length vc, .int .i64 s.last, .int .i64 s.inc, .slice oa s.over.length oc], .agg of.cellsL.toArray] w fun e w' => StepP wo A e w' fun s' t' => s.May ∧ s' = s ∧ t' = { Tol.none with mail := tickP s.l } := by
  refine calls_enter Try.func12 rfl 74 rfl rfl ?_; intro a S
  refine nxD ?_
  refine st_box S M rfl rfl rfl #[_, _, _, _] rfl ?_; clear S M a; intro a w1 bS0 S M hB
  refine st_box S M rfl rfl rfl #[_, _, _, _, _, _, _, _] rfl ?_; clear S M a; intro a w2 bF0 S M hB
  refine st_alloc S M rfl rfl #[.slice none 0 0, .int .i64 0, .int .i64 0, .slice none 0 0] (by kernel_rfl) ?_; clear S M a; intro a w3 bR0 S M hB
  refine st_alloc S M rfl rfl #[.slice none 0 0, .slice none 0 0, .slice none 0 0, .slice none 0 0, .slice none 0 0] (by kernel_rfl) ?_; clear S M a; intro a w4 bT0 S M hB
  refine st_go [1] S rfl (by kernel_rfl) ?_; clear S a; intro a S
  refine nxC ?_
  refine wp_seq ?_
  refine nxD ?_
  refine st_y S rfl rfl rfl (y_loadAgg (cs := [_, _, _, _]) S (by kernel_rfl) rfl rfl (M.cellsAt (k := 4) 3 rfl rfl)) ?_; clear S a; intro a S
  refine st_call (xs := [(Operand.tmp 11)]) S (enters_of Try.func16 (by decide) rfl) rfl rfl rfl (check_any s va oa vc oc _ (hR _ (M.sub (.cons _ (.cons _ (.cons _ (.cons _ (List.Sublist.refl _))))))).1 (hR _ (M.sub (.cons _ (.cons _ (.cons _ (.cons _ (List.Sublist.refl _))))))).2 hsh) ?_
  rintro _ w5 ⟨r, rfl, hK, hr⟩; refine ⟨_, rfl, ?_⟩; clear S a; intro a S; replace M := M.grow hK
  refine st_go [1] S rfl (by kernel_rfl) ?_; clear S a; intro a S
  refine nxA ?_
  refine st_go [1, 1] S rfl (by kernel_rfl) ?_; clear S a; intro a S
  refine nxC ?_
  refine st_if (t := 14) S rfl ?_ ?_
  · clear S; intro h14 S
    refine st_condT S rfl ?_
    refine nxD ?_
    refine st_y S rfl rfl rfl (y_build (ps := []) (pl := [(0, 1), (1, 1), (2, 1), (3, 1)]) (z := [.slice none 0 0, .int .i64 0, .int .i64 0, .slice none 0 0]) (cs := [_, _, _, _]) S (by kernel_rfl) rfl (rfl)) ?_; clear S a; intro a S
    refine st_y S rfl rfl rfl (y_build (ps := []) (pl := [(0, 1), (1, 1), (2, 1), (3, 1), (4, 1)]) (z := [.slice none 0 0, .slice none 0 0, .slice none 0 0, .slice none 0 0, .slice none 0 0]) (cs := [_, _, _, _, _]) S (by kernel_rfl) rfl (rfl)) ?_; clear S a; intro a S
    refine st_go [1] S rfl (by kernel_rfl) ?_; clear S a; intro a S
    refine st_store (sz := 4) (us := [_, _, _, _]) S M 1 rfl (by kernel_rfl) rfl rfl rfl rfl rfl rfl (by first | decide | (simp; done) | (simp; omega)) ?_; clear M; intro w6 M
    simp only [putL, List.set_cons_zero, List.set_cons_succ, Nat.reduceAdd] at M
    refine st_store (sz := 5) (us := [_, _, _, _, _]) S M 0 rfl (by kernel_rfl) rfl rfl rfl rfl rfl rfl (by first | decide | (simp; done) | (simp; omega)) ?_; clear M; intro w7 M
    simp only [putL, List.set_cons_zero, List.set_cons_succ, Nat.reduceAdd] at M
    refine st_go [1] S rfl (by kernel_rfl) ?_; clear S a; intro a S
    refine nxC ?_
    refine wp_ret ?_
    refine then_ret ?_
    refine end_three S rfl (res_agg (cs := [_, _, _, _]) (by kernel_rfl) rfl rfl (M.cellsAt (k := 4) 1 rfl rfl)) (res_agg (cs := [_, _, _, _, _]) (by kernel_rfl) rfl rfl (M.cellsAt (k := 5) 0 rfl rfl)) (res_tmp rfl) ?_
    obtain ⟨lo, hi, M2⟩ := nilSes (M.drop 0 |>.drop 0 |>.drop 0 |>.drop 0)
    exact ⟨Ses.none, Tol.none, r, _, _, _, _, _, _, _, rfl, M2, fun h => by omega⟩
  clear S; intro h14 S
  refine st_condF S rfl ?_
  refine wp_skip ?_
  refine then_normal ?_
  refine wp_seq ?_
  have hm : s.May := by
    rcases hr with ⟨-, h⟩ | ⟨h, -⟩
    · exact h
    · omega
  have hml := hm.len
  refine wp_regionKC (C := fun W => CellsAt W bF0 0 of.cellsL) [1] #[false, false, false, false, false, false] rfl M (by kernel_rfl) ?_; clear M; intro w8 M; have hC := M.cellsAt (o := 0) (k := 8) 2 rfl rfl
  refine kc_read (listed' := #[true, false, false, false, false, false]) 0 S rfl rfl rfl rfl (by kernel_rfl) rfl (fun _ d _ _ _ h => by cases d <;> exact h) hC (fun w hW => have M := M.grow hW; y_loadAgg (cs := [_, _, _, _]) S (by kernel_rfl) rfl rfl (M.cellsAt (k := 4) 3 rfl rfl)) ?_; clear S a; intro a S
  refine kc_readC (listed' := #[true, false, true, false, false, false]) 2 S rfl rfl rfl rfl (by kernel_rfl) rfl (fun _ d _ _ _ h => by cases d <;> exact h) hC (fun w hC => y_loadAgg (cs := [_, _, _, _, _, _, _, _]) S (by kernel_rfl) rfl rfl (hC)) ?_; clear S a; intro a S
  refine kc_one (listed' := #[true, true, true, false, false, false]) 1 rfl (by kernel_rfl) rfl ?_
  refine st_call (xs := [(Operand.tmp 18)]) S (enters_of Try.func18 (by decide) rfl) rfl rfl rfl (copied_any (A := _ :: _ :: _ :: _ :: A) s va oa vc oc (fun W M9 => hR W (M9.sub (.cons _ (.cons _ (.cons _ (.cons _ (List.Sublist.refl _))))))) M (by omega) hov) ?_
  rintro _ w9 ⟨⟨la, lc, llo, lhi⟩, ro, rfl, M1⟩; refine ⟨_, rfl, ?_⟩; clear S M a; intro a S; have M := M1; clear M1
  replace hC := M.cellsAt (o := 0) (k := 8) 4 rfl rfl
  refine wpList_nil ?_; refine then_normal ?_; refine ⟨fun h => absurd h (by decide), hC, ?_⟩
  refine kc_readC (listed' := #[true, true, true, true, false, false]) 3 S rfl rfl rfl rfl (by kernel_rfl) rfl (fun _ d _ _ _ h => by cases d <;> exact h) hC (fun w _ => y_build (ps := [(0, (Operand.tmp 19)), (2, (Operand.tmp 20))]) (pl := [(0, 4), (4, 5), (9, 8)]) (z := [.slice none 0 0, .int .i64 0, .int .i64 0, .slice none 0 0, .slice none 0 0, .slice none 0 0, .slice none 0 0, .slice none 0 0, .slice none 0 0, .int .i64 0, .int .i64 0, .int .i64 0, .int .i64 0, .int .i64 0, .int .i64 0, .int .i64 0, .int .i64 0]) (cs := [_, _, _, _, _, _, _, _, _, _, _, _, _, _, _, _, _]) S (by kernel_rfl) rfl (rfl)) ?_; clear S a; intro a S
  refine kc_one (listed' := #[true, true, true, true, true, false]) 4 rfl (by kernel_rfl) rfl ?_
  refine st_box S M rfl rfl rfl #[_, _, _, _, _, _, _, _, _, _, _, _, _, _, _, _, _] rfl ?_; clear S M a; intro a w10 bB S M hB
  replace hC := M.cellsAt (o := 0) (k := 8) 5 rfl rfl
  refine wpList_nil ?_; refine then_normal ?_; refine ⟨fun _ => hB, hC, ?_⟩
  refine kc_readC (listed' := #[true, true, true, true, true, true]) 5 S rfl rfl rfl rfl (by kernel_rfl) rfl (fun _ d _ _ _ h => by cases d <;> exact h) hC (fun w _ => y_assign S rfl) ?_; clear S a; intro a S
  refine kc_end (by kernel_rfl) ?_
  refine then_normal ?_
  refine wp_seq ?_
  refine wp_seq ?_
  skip
  refine wp_region_lit ?_
  refine st_run [1, 1, 1, 1, 1] S M rfl (by kernel_rfl) ?_; clear S a; intro a S
  refine st_y S rfl rfl rfl (y_lenS (E := 65) S rfl (by kernel_rfl)) ?_; clear S a; intro a S
  refine st_go [1] S rfl (by kernel_rfl) ?_; clear S a; intro a S
  refine nxC ?_
  refine wp_block ?_
  refine wp_loop_g (fun m a w' => ∃ (k : Nat) (E1 : List Ent), k ≤ s.l.length ∧ m = s.l.length - k ∧ DeskR bB la lc (Dsk.mails ⟨s, Tol.none, of⟩ (tickP (s.l.take k))) E1 ∧ Sees 74 a [(4, .pointer (some ⟨bR0, 0, none⟩)), (5, .pointer (some ⟨bT0, 0, none⟩)), (8, .pointer (some ⟨bB, 0, none⟩)), (27, .slice la s.l.length lc), (28, .int .i64 (s.l.length : Int)), (29, .int .i64 (k : Int))] ∧ Mem wo w' (.blk bT0 (tolL Tol.none ⟨none, 0, 0, 0⟩ ⟨none, 0, 0, 0⟩ ⟨none, 0, 0, 0⟩ ⟨none, 0, 0, 0⟩ ⟨none, 0, 0, 0⟩).toArray 54 :: .blk bR0 (sesL Ses.none ⟨none, 0, 0, 0⟩ ⟨none, 0, 0, 0⟩).toArray 29 :: (A ++ E1))) (s.l.length) ?_ ?_
  · skip
    obtain ⟨lo, hi, M2⟩ := nilTol ((M.drop 5).drop 5)
    obtain ⟨E1, hE1, M3⟩ := Dsk.closeR (b := bB) (D := ⟨s, Tol.none, of⟩) ⟨la, lc, llo, lhi⟩ ro ⟨none, 0, lo, hi⟩ ⟨none, 0, lo, hi⟩ ⟨none, 0, lo, hi⟩ ⟨none, 0, lo, hi⟩ ⟨none, 0, lo, hi⟩ (M2.perm (List.perm_append_comm_assoc (tolE Tol.none _ _ _ _ _) [_, _, _] _))
    exact ⟨0, E1, Nat.zero_le _, rfl, hE1, S.sub _ rfl, M3⟩
  clear S M a; intro m a wl
  rintro ⟨k, E1, hk, rfl, hE1, S, M⟩
  have hpl := tickP_len (s.l.take k)
  rw [List.length_take] at hpl
  have hsm : (Dsk.mails ⟨s, Tol.none, of⟩ (tickP (s.l.take k))).t.mail.length ≤ 8 := by show ([] ++ tickP (s.l.take k)).length ≤ 8; rw [List.nil_append]; omega
  obtain ⟨D1, hD1⟩ : ∃ D1, Dsk.mails ⟨s, Tol.none, of⟩ (tickP (s.l.take k)) = D1 := ⟨_, rfl⟩
  have hD1s : D1.s = s := by rw [← hD1]
  have hml : D1.t.mail.length ≤ 8 := by rw [← hD1]; exact hsm
  clear hsm
  obtain ⟨⟨la2, lc2, llo2, lhi2⟩, ro2, rm2, ra2, rs2, rc2, re2, hla, hlc, M1⟩ := Dsk.openR (A := _ :: _ :: A) hE1 M
  rw [hD1] at M1
  obtain rfl : la2 = la := hla
  obtain rfl : lc2 = lc := hlc
  clear M hE1; have M := M1; clear M1
  subst hD1s
  refine nxD ?_
  refine st_go [1] S rfl (by kernel_rfl) ?_; clear S a; intro a S
  refine nxC ?_
  refine wp_seq ?_
  refine st_fi (t := 30) S rfl ?_ ?_
  · clear S; intro h30 S
    refine st_condF S rfl ?_
    refine wp_exit ?_
    refine then_exit ?_
    refine then_exit ?_
    refine block_hit ?_
    refine then_normal ?_
    refine wp_seq ?_
    skip
    refine wp_regionKC (C := fun W => CellsAt W bB 4 (tolL D1.t rm2 ra2 rs2 rc2 re2)) [8, 9] #[false, false, false, false, false, false, false, false, false, false, false] rfl M (by kernel_rfl) ?_; clear M; intro w22 M; have hC := M.cellsAt (o := 4) (k := 5) 0 rfl rfl
    refine kc_readC (listed' := #[true, false, false, false, false, false, false, false, false, false, false]) 0 S rfl rfl rfl rfl (by kernel_rfl) rfl (fun _ d _ _ _ h => by cases d <;> exact h) hC (fun w _ => y_move S rfl) ?_; clear S a; intro a S
    refine kc_readC (listed' := #[true, true, false, false, false, false, false, false, false, false, false]) 1 S rfl rfl rfl rfl (by kernel_rfl) rfl (fun _ d _ _ _ h => by cases d <;> exact h) hC (fun w _ => y_nilCheck S rfl) ?_; clear S a; intro a S
    refine kc_readC (listed' := #[true, true, true, false, false, false, false, false, false, false, false]) 2 S rfl rfl rfl rfl (by kernel_rfl) rfl (fun _ d _ _ _ h => by cases d <;> exact h) hC (fun w _ => y_fieldAddr (k := 0) S (by kernel_rfl) rfl) ?_; clear S a; intro a S
    refine kc_read (listed' := #[true, true, true, true, false, false, false, false, false, false, false]) 3 S rfl rfl rfl rfl (by kernel_rfl) rfl (fun _ d _ _ _ h => by cases d <;> exact h) hC (fun w hW => have M := M.grow hW; y_loadAgg (cs := [_, _, _, _]) S (by kernel_rfl) rfl rfl (M.cellsAt (k := 4) 0 rfl rfl)) ?_; clear S a; intro a S
    refine kc_readC (listed' := #[true, true, true, true, true, false, false, false, false, false, false]) 4 S rfl rfl rfl rfl (by kernel_rfl) rfl (fun _ d _ _ _ h => by cases d <;> exact h) hC (fun w _ => y_move S rfl) ?_; clear S a; intro a S
    refine kc_readC (listed' := #[true, true, true, true, true, true, false, false, false, false, false]) 5 S rfl rfl rfl rfl (by kernel_rfl) rfl (fun _ d _ _ _ h => by cases d <;> exact h) hC (fun w _ => y_nilCheck S rfl) ?_; clear S a; intro a S
    refine kc_readC (listed' := #[true, true, true, true, true, true, true, false, false, false, false]) 6 S rfl rfl rfl rfl (by kernel_rfl) rfl (fun _ d _ _ _ h => by cases d <;> exact h) hC (fun w _ => y_fieldAddr (k := 4) S (by kernel_rfl) rfl) ?_; clear S a; intro a S
    refine kc_readC (listed' := #[true, true, true, true, true, true, true, true, false, false, false]) 7 S rfl rfl rfl rfl (by kernel_rfl) rfl (fun _ d _ _ _ h => by cases d <;> exact h) hC (fun w hC => y_loadAgg (cs := [_, _, _, _, _]) S (by kernel_rfl) rfl rfl (hC)) ?_; clear S a; intro a S
    refine kc_one (listed' := #[true, true, true, true, true, true, true, true, true, false, false]) 8 rfl (by kernel_rfl) rfl ?_
    refine st_store (sz := 4) (us := [_, _, _, _]) S M 9 rfl (by kernel_rfl) rfl rfl rfl rfl rfl rfl (by first | decide | (simp; done) | (simp; omega)) ?_; clear M; intro w23 M
    simp only [putL, List.set_cons_zero, List.set_cons_succ, Nat.reduceAdd] at M
    replace hC := M.cellsAt (o := 4) (k := 5) 0 rfl rfl
    refine wpList_nil ?_; refine then_normal ?_; refine ⟨fun h => absurd h (by decide), hC, ?_⟩
    refine kc_one (listed' := #[true, true, true, true, true, true, true, true, true, true, false]) 9 rfl (by kernel_rfl) rfl ?_
    refine st_store (sz := 5) (us := [_, _, _, _, _]) S M 8 rfl (by kernel_rfl) rfl rfl rfl rfl rfl rfl (by first | decide | (simp; done) | (simp; omega)) ?_; clear M; intro w24 M
    simp only [putL, List.set_cons_zero, List.set_cons_succ, Nat.reduceAdd] at M
    replace hC := M.cellsAt (o := 4) (k := 5) 0 rfl rfl
    refine wpList_nil ?_; refine then_normal ?_; refine ⟨fun h => absurd h (by decide), hC, ?_⟩
    refine kc_readC (listed' := #[true, true, true, true, true, true, true, true, true, true, true]) 10 S rfl rfl rfl rfl (by kernel_rfl) rfl (fun _ d _ _ _ h => by cases d <;> exact h) hC (fun w _ => y_assign S rfl) ?_; clear S a; intro a S
    refine kc_end (by kernel_rfl) ?_
    refine then_normal ?_
    refine wp_ret ?_
    refine end_three S rfl (res_agg (cs := [_, _, _, _]) (by kernel_rfl) rfl rfl (M.cellsAt (k := 4) 9 rfl rfl)) (res_agg (cs := [_, _, _, _, _]) (by kernel_rfl) rfl rfl (M.cellsAt (k := 5) 8 rfl rfl)) (res_tmp rfl) ?_
    have hke : D1.s.l.take k = D1.s.l := List.take_of_length_le (by omega)
    refine ⟨D1.s, D1.t, 0, ⟨la2, lc2, llo2, lhi2⟩, ro2, rm2, ra2, rs2, rc2, re2, rfl, ((M.drop 0).drop 7).drop 7, fun _ => ⟨hm, rfl, ?_⟩⟩
    rw [hke] at hD1
    have := congrArg Dsk.t hD1
    rw [← this]; rfl
  clear S; intro h30 S
  refine st_condT S rfl ?_
  refine wp_skip ?_
  refine then_normal ?_
  refine wp_seq ?_
  refine wp_block ?_
  refine wp_seq ?_
  obtain ⟨q, hq⟩ : ∃ q, D1.s.l[k]? = some q := ⟨_, List.getElem?_eq_getElem (by omega)⟩
  refine wp_region_lit ?_
  refine st_y S rfl rfl rfl (y_indexR (e := 65) (sz := 37) S (by kernel_rfl) rfl ((M.readAll 1 rfl (by unfold maxLen; omega))) rfl (by first | omega | (simp; done) | (simp; omega))) ?_; clear S a; intro a S
  try simp only [Int.toNat_natCast, Nat.mul_one, Nat.zero_add] at S
  refine st_y S rfl rfl rfl (y_loadAgg S (by kernel_rfl) rfl rfl ((M.readAll 1 rfl (by unfold maxLen; omega)).at_.row (i := k) (fm_get len_ope hq) rfl)) ?_; clear S a; intro a S
  refine st_alloc S M rfl rfl #[.int .i64 0, .int .i64 0, .int .i64 0, .int .i64 0, .int .i64 0, .int .i8 0, .int .i64 0, .int .i64 0, .int .i64 0, .int .i64 0, .int .i64 0, .int .i64 0, .int .i64 0, .int .i8 0, .int .i64 0, .int .i64 0, .int .i64 0, .int .i64 0, .int .i64 0, .int .i64 0, .int .i64 0, .int .i64 0, .int .i8 0, .int .i64 0, .int .u8 0, .int .u8 0, .int .u8 0, .int .u8 0, .int .u8 0, .int .u8 0, .int .u8 0, .int .u8 0, .int .i64 0, .bool false, .int .i64 0, .int .i64 0, .slice none 0 0] (by kernel_rfl) ?_; clear S M a; intro a w11 bX S M hB
  refine st_store (sz := 37) (us := [_, _, _, _, _, _, _, _, _, _, _, _, _, _, _, _, _, _, _, _, _, _, _, _, _, _, _, _, _, _, _, _, _, _, _, _, _]) S M 0 rfl (by kernel_rfl) rfl rfl rfl rfl rfl rfl (by first | decide | (simp; done) | (simp; omega)) ?_; clear M; intro w12 M
  simp only [putL, List.set_cons_zero, List.set_cons_succ, Nat.reduceAdd] at M
  refine nxA ?_
  refine st_run [6, 1] S M rfl (by kernel_rfl) ?_; clear S a; intro a S
  refine nxC ?_
  refine wp_block ?_
  refine nxD ?_
  refine st_go [1, 1] S rfl (by kernel_rfl) ?_; clear S a; intro a S
  refine nxC ?_
  refine st_if (t := 35) S rfl ?_ ?_
  · clear S; intro h35 S
    refine st_condT S rfl ?_
    refine wp_regionK [9, 13] #[false, false, false, false, false, false, false, false, false, false, false, false, false, false] rfl M (by kernel_rfl) ?_; clear M; intro w13 M
    refine k_pure (listed' := #[true, false, false, false, false, false, false, false, false, false, false, false, false, false]) 0 S rfl rfl rfl rfl (by kernel_rfl) rfl (fun _ d _ _ _ h => by cases d <;> exact h) (fun w => y_move S rfl) ?_; clear S a; intro a S
    refine k_pure (listed' := #[true, true, false, false, false, false, false, false, false, false, false, false, false, false]) 1 S rfl rfl rfl rfl (by kernel_rfl) rfl (fun _ d _ _ _ h => by cases d <;> exact h) (fun w => y_move S rfl) ?_; clear S a; intro a S
    refine k_pure (listed' := #[true, true, true, false, false, false, false, false, false, false, false, false, false, false]) 2 S rfl rfl rfl rfl (by kernel_rfl) rfl (fun _ d _ _ _ h => by cases d <;> exact h) (fun w => y_nilCheck S rfl) ?_; clear S a; intro a S
    refine k_pure (listed' := #[true, true, true, true, false, false, false, false, false, false, false, false, false, false]) 3 S rfl rfl rfl rfl (by kernel_rfl) rfl (fun _ d _ _ _ h => by cases d <;> exact h) (fun w => y_fieldAddr (k := 4) S (by kernel_rfl) rfl) ?_; clear S a; intro a S
    refine k_pure (listed' := #[true, true, true, true, true, false, false, false, false, false, false, false, false, false]) 4 S rfl rfl rfl rfl (by kernel_rfl) rfl (fun _ d _ _ _ h => by cases d <;> exact h) (fun w => y_fieldAddr (k := 0) S (by kernel_rfl) rfl) ?_; clear S a; intro a S
    refine k_read (listed' := #[true, true, true, true, true, true, false, false, false, false, false, false, false, false]) 5 S rfl rfl rfl rfl (by kernel_rfl) rfl (fun _ d _ _ _ h => by cases d <;> exact h) (fun w hW => have M := M.grow hW; y_load S (by kernel_rfl) rfl (M.cell 1 rfl rfl)) ?_; clear S a; intro a S
    refine k_pure (listed' := #[true, true, true, true, true, true, true, false, false, false, false, false, false, false]) 6 S rfl rfl rfl rfl (by kernel_rfl) rfl (fun _ d _ _ _ h => by cases d <;> exact h) (fun w => y_fieldAddr (k := 13) S (by kernel_rfl) rfl) ?_; clear S a; intro a S
    refine k_read (listed' := #[true, true, true, true, true, true, true, true, false, false, false, false, false, false]) 7 S rfl rfl rfl rfl (by kernel_rfl) rfl (fun _ d _ _ _ h => by cases d <;> exact h) (fun w hW => have M := M.grow hW; y_loadAgg (cs := [_, _, _, _, _, _, _, _, _, _, _, _, _, _, _, _, _, _, _, _, _, _, _, _]) S (by kernel_rfl) rfl rfl (M.cellsAt (k := 24) 0 rfl rfl)) ?_; clear S a; intro a S
    refine k_one (listed' := #[true, true, true, true, true, true, true, true, true, false, false, false, false, false]) 8 rfl (by kernel_rfl) rfl ?_
    refine st_lit (ps := [(0, (Operand.tmp 44))]) (e := 45) (sz := 24) (zl := [.int .i8 0, .int .i64 0, .int .i64 0, .int .i64 0, .int .i64 0, .int .i64 0, .int .i64 0, .int .i64 0, .int .i64 0, .int .i8 0, .int .i64 0, .int .u8 0, .int .u8 0, .int .u8 0, .int .u8 0, .int .u8 0, .int .u8 0, .int .u8 0, .int .u8 0, .int .i64 0, .bool false, .int .i64 0, .int .i64 0, .slice none 0 0]) (cs := msgL q.ex) S M rfl rfl (by kernel_rfl) rfl (by kernel_rfl) ?_; clear S M a; intro a w14 bZ S M hB
    refine wpList_nil ?_; refine then_normal ?_; refine ⟨fun _ => hB, ?_⟩
    refine k_one (listed' := #[true, true, true, true, true, true, true, true, true, true, false, false, false, false]) 9 rfl (by kernel_rfl) rfl ?_
    refine st_append (e := 45) (sz := 24) (by_ := 152) (zc := [.int .i8 0, .int .i64 0, .int .i64 0, .int .i64 0, .int .i64 0, .int .i64 0, .int .i64 0, .int .i64 0, .int .i64 0, .int .i8 0, .int .i64 0, .int .u8 0, .int .u8 0, .int .u8 0, .int .u8 0, .int .u8 0, .int .u8 0, .int .u8 0, .int .u8 0, .int .i64 0, .bool false, .int .i64 0, .int .i64 0, .slice none 0 0]) S M 5 rfl rfl (by kernel_rfl) rfl (by decide) rfl rfl rfl (show Rd _ _ _ 24 _ 1 (msgL q.ex) from M.sliceAt 0 rfl (M.cellsAt (k := 24) 0 rfl rfl) rfl (Nat.le_refl _) (by unfold maxLen; omega)) (rfl) (by omega) (by unfold maxLen; omega) ?_; clear S M a; intro a w15 vA loA hiA S M
    refine wpList_nil ?_; refine then_normal ?_; refine ⟨fun h => absurd h (by decide), ?_⟩
    refine k_pure (listed' := #[true, true, true, true, true, true, true, true, true, true, true, false, false, false]) 10 S rfl rfl rfl rfl (by kernel_rfl) rfl (fun _ d _ _ _ h => by cases d <;> exact h) (fun w => y_nilCheck S rfl) ?_; clear S a; intro a S
    refine k_pure (listed' := #[true, true, true, true, true, true, true, true, true, true, true, true, false, false]) 11 S rfl rfl rfl rfl (by kernel_rfl) rfl (fun _ d _ _ _ h => by cases d <;> exact h) (fun w => y_fieldAddr (k := 4) S (by kernel_rfl) rfl) ?_; clear S a; intro a S
    refine k_pure (listed' := #[true, true, true, true, true, true, true, true, true, true, true, true, true, false]) 12 S rfl rfl rfl rfl (by kernel_rfl) rfl (fun _ d _ _ _ h => by cases d <;> exact h) (fun w => y_fieldAddr (k := 0) S (by kernel_rfl) rfl) ?_; clear S a; intro a S
    refine k_one (listed' := #[true, true, true, true, true, true, true, true, true, true, true, true, true, true]) 13 rfl (by kernel_rfl) rfl ?_
    obtain ⟨aA, cA, rfl, -, -⟩ := (M.readAll 0 rfl (by unfold maxLen; omega)).form
    refine st_store (sz := 1) (us := [_]) S M 3 rfl (by kernel_rfl) rfl rfl rfl rfl rfl rfl (by first | decide | (simp; done) | (simp; omega)) ?_; clear M; intro w16 M
    simp only [putL, List.set_cons_zero, List.set_cons_succ, Nat.reduceAdd] at M
    refine wpList_nil ?_; refine then_normal ?_; refine ⟨fun h => absurd h (by decide), ?_⟩
    refine k_end (by kernel_rfl) ?_
    replace S := S.sub [(4, _), (5, _), (8, _), (27, _), (28, _), (29, _), (30, _), (10, _), (34, _), (35, _)] rfl
    refine block_normal ?_
    refine block_normal ?_
    refine nxF ?_
    (first | refine st_y S rfl rfl rfl (y_addN S rfl rfl (by omega)) ?_ | refine st_y S rfl rfl rfl (y_int S rfl rfl rfl) ?_); clear S a; intro a S
    refine st_go [1] S rfl (by kernel_rfl) ?_; clear S a; intro a S
    refine nxC ?_
    first
      | (have ht : tickM q = [q.ex] := by unfold tickM; rw [if_pos (by omega)]
         obtain ⟨E2, hE2, M2⟩ := Dsk.closeM (D := D1) (x := q.ex) ⟨la2, lc2, llo2, lhi2⟩ ro2 ra2 rs2 rc2 re2 aA cA loA hiA (((M.drop 1).drop 1).perm (List.perm_middle (l₁ := [_, _, _])).symm)
         have he : D1.mail q.ex = Dsk.mails ⟨D1.s, Tol.none, of⟩ (tickP (D1.s.l.take (k + 1))) := by
           rw [tickP_snoc hq, ht, mails_snoc, hD1]
         rw [he] at hE2
         exact ⟨D1.s.l.length - (k + 1), by omega, k + 1, E2, by omega, rfl, hE2, S.sub _ rfl, M2⟩)
      | (have ht : tickM q = [q.fast] := by unfold tickM; rw [if_neg (by omega), if_pos (by omega)]
         obtain ⟨E2, hE2, M2⟩ := Dsk.closeM (D := D1) (x := q.fast) ⟨la2, lc2, llo2, lhi2⟩ ro2 ra2 rs2 rc2 re2 aA cA loA hiA (((M.drop 1).drop 1).perm (List.perm_middle (l₁ := [_, _, _])).symm)
         have he : D1.mail q.fast = Dsk.mails ⟨D1.s, Tol.none, of⟩ (tickP (D1.s.l.take (k + 1))) := by
           rw [tickP_snoc hq, ht, mails_snoc, hD1]
         rw [he] at hE2
         exact ⟨D1.s.l.length - (k + 1), by omega, k + 1, E2, by omega, rfl, hE2, S.sub _ rfl, M2⟩)
      | (have ht : tickM q = [] := by unfold tickM; rw [if_neg (by omega), if_neg (by omega)]
         obtain ⟨E2, hE2, M2⟩ := Dsk.closeR (D := D1) ⟨la2, lc2, llo2, lhi2⟩ ro2 rm2 ra2 rs2 rc2 re2 (M.drop 0)
         have he : tickP (D1.s.l.take (k + 1)) = tickP (D1.s.l.take k) := by rw [tickP_snoc hq, ht, List.append_nil]
         exact ⟨D1.s.l.length - (k + 1), by omega, k + 1, E2, by omega, rfl, by rw [he, hD1]; exact hE2, S.sub _ rfl, M2⟩)
  clear S; intro h35 S
  refine st_condF S rfl ?_
  refine nxD ?_
  refine st_go [1, 1] S rfl (by kernel_rfl) ?_; clear S a; intro a S
  refine nxC ?_
  refine st_fi (t := 50) S rfl ?_ ?_
  · clear S; intro h50 S
    refine st_condF S rfl ?_
    refine wp_skip ?_
    refine block_normal ?_
    refine block_normal ?_
    refine nxF ?_
    (first | refine st_y S rfl rfl rfl (y_addN S rfl rfl (by omega)) ?_ | refine st_y S rfl rfl rfl (y_int S rfl rfl rfl) ?_); clear S a; intro a S
    refine st_go [1] S rfl (by kernel_rfl) ?_; clear S a; intro a S
    refine nxC ?_
    first
      | (have ht : tickM q = [q.ex] := by unfold tickM; rw [if_pos (by omega)]
         obtain ⟨E2, hE2, M2⟩ := Dsk.closeM (D := D1) (x := q.ex) ⟨la2, lc2, llo2, lhi2⟩ ro2 ra2 rs2 rc2 re2 aA cA loA hiA (((M.drop 1).drop 1).perm (List.perm_middle (l₁ := [_, _, _])).symm)
         have he : D1.mail q.ex = Dsk.mails ⟨D1.s, Tol.none, of⟩ (tickP (D1.s.l.take (k + 1))) := by
           rw [tickP_snoc hq, ht, mails_snoc, hD1]
         rw [he] at hE2
         exact ⟨D1.s.l.length - (k + 1), by omega, k + 1, E2, by omega, rfl, hE2, S.sub _ rfl, M2⟩)
      | (have ht : tickM q = [q.fast] := by unfold tickM; rw [if_neg (by omega), if_pos (by omega)]
         obtain ⟨E2, hE2, M2⟩ := Dsk.closeM (D := D1) (x := q.fast) ⟨la2, lc2, llo2, lhi2⟩ ro2 ra2 rs2 rc2 re2 aA cA loA hiA (((M.drop 1).drop 1).perm (List.perm_middle (l₁ := [_, _, _])).symm)
         have he : D1.mail q.fast = Dsk.mails ⟨D1.s, Tol.none, of⟩ (tickP (D1.s.l.take (k + 1))) := by
           rw [tickP_snoc hq, ht, mails_snoc, hD1]
         rw [he] at hE2
         exact ⟨D1.s.l.length - (k + 1), by omega, k + 1, E2, by omega, rfl, hE2, S.sub _ rfl, M2⟩)
      | (have ht : tickM q = [] := by unfold tickM; rw [if_neg (by omega), if_neg (by omega)]
         obtain ⟨E2, hE2, M2⟩ := Dsk.closeR (D := D1) ⟨la2, lc2, llo2, lhi2⟩ ro2 rm2 ra2 rs2 rc2 re2 (M.drop 0)
         have he : tickP (D1.s.l.take (k + 1)) = tickP (D1.s.l.take k) := by rw [tickP_snoc hq, ht, List.append_nil]
         exact ⟨D1.s.l.length - (k + 1), by omega, k + 1, E2, by omega, rfl, by rw [he, hD1]; exact hE2, S.sub _ rfl, M2⟩)
  clear S; intro h50 S
  refine st_condT S rfl ?_
  refine wp_regionK [9, 13] #[false, false, false, false, false, false, false, false, false, false, false, false, false, false] rfl M (by kernel_rfl) ?_; clear M; intro w17 M
  refine k_pure (listed' := #[true, false, false, false, false, false, false, false, false, false, false, false, false, false]) 0 S rfl rfl rfl rfl (by kernel_rfl) rfl (fun _ d _ _ _ h => by cases d <;> exact h) (fun w => y_move S rfl) ?_; clear S a; intro a S
  refine k_pure (listed' := #[true, true, false, false, false, false, false, false, false, false, false, false, false, false]) 1 S rfl rfl rfl rfl (by kernel_rfl) rfl (fun _ d _ _ _ h => by cases d <;> exact h) (fun w => y_move S rfl) ?_; clear S a; intro a S
  refine k_pure (listed' := #[true, true, true, false, false, false, false, false, false, false, false, false, false, false]) 2 S rfl rfl rfl rfl (by kernel_rfl) rfl (fun _ d _ _ _ h => by cases d <;> exact h) (fun w => y_nilCheck S rfl) ?_; clear S a; intro a S
  refine k_pure (listed' := #[true, true, true, true, false, false, false, false, false, false, false, false, false, false]) 3 S rfl rfl rfl rfl (by kernel_rfl) rfl (fun _ d _ _ _ h => by cases d <;> exact h) (fun w => y_fieldAddr (k := 4) S (by kernel_rfl) rfl) ?_; clear S a; intro a S
  refine k_pure (listed' := #[true, true, true, true, true, false, false, false, false, false, false, false, false, false]) 4 S rfl rfl rfl rfl (by kernel_rfl) rfl (fun _ d _ _ _ h => by cases d <;> exact h) (fun w => y_fieldAddr (k := 0) S (by kernel_rfl) rfl) ?_; clear S a; intro a S
  refine k_read (listed' := #[true, true, true, true, true, true, false, false, false, false, false, false, false, false]) 5 S rfl rfl rfl rfl (by kernel_rfl) rfl (fun _ d _ _ _ h => by cases d <;> exact h) (fun w hW => have M := M.grow hW; y_load S (by kernel_rfl) rfl (M.cell 1 rfl rfl)) ?_; clear S a; intro a S
  refine k_read (listed' := #[true, true, true, true, true, true, true, false, false, false, false, false, false, false]) 6 S rfl rfl rfl rfl (by kernel_rfl) rfl (fun _ d _ _ _ h => by cases d <;> exact h) (fun w hW => have M := M.grow hW; y_loadAgg (cs := [_, _, _, _, _, _, _, _, _, _, _, _, _, _, _, _, _, _, _, _, _, _, _, _, _, _, _, _, _, _, _, _, _, _, _, _, _]) S (by kernel_rfl) rfl rfl (M.cellsAt (k := 37) 0 rfl rfl)) ?_; clear S a; intro a S
  refine k_one (listed' := #[true, true, true, true, true, true, true, true, false, false, false, false, false, false]) 7 rfl (by kernel_rfl) rfl ?_
  refine st_call (xs := [(Operand.tmp 58)]) S (enters_of Try.func26 (by decide) rfl) rfl rfl rfl (fast_any q _) ?_
  rintro _ w18 ⟨rfl, hK⟩; refine ⟨_, rfl, ?_⟩; clear S a; intro a S; replace M := M.grow hK
  refine wpList_nil ?_; refine then_normal ?_; refine ⟨fun _ => hK, ?_⟩
  refine k_one (listed' := #[true, true, true, true, true, true, true, true, true, false, false, false, false, false]) 8 rfl (by kernel_rfl) rfl ?_
  refine st_lit (ps := [(0, (Operand.tmp 59))]) (e := 45) (sz := 24) (zl := [.int .i8 0, .int .i64 0, .int .i64 0, .int .i64 0, .int .i64 0, .int .i64 0, .int .i64 0, .int .i64 0, .int .i64 0, .int .i8 0, .int .i64 0, .int .u8 0, .int .u8 0, .int .u8 0, .int .u8 0, .int .u8 0, .int .u8 0, .int .u8 0, .int .u8 0, .int .i64 0, .bool false, .int .i64 0, .int .i64 0, .slice none 0 0]) (cs := msgL q.fast) S M rfl rfl (by kernel_rfl) rfl (by kernel_rfl) ?_; clear S M a; intro a w19 bZ S M hB
  refine wpList_nil ?_; refine then_normal ?_; refine ⟨fun _ => hB, ?_⟩
  refine k_one (listed' := #[true, true, true, true, true, true, true, true, true, true, false, false, false, false]) 9 rfl (by kernel_rfl) rfl ?_
  refine st_append (e := 45) (sz := 24) (by_ := 152) (zc := [.int .i8 0, .int .i64 0, .int .i64 0, .int .i64 0, .int .i64 0, .int .i64 0, .int .i64 0, .int .i64 0, .int .i64 0, .int .i8 0, .int .i64 0, .int .u8 0, .int .u8 0, .int .u8 0, .int .u8 0, .int .u8 0, .int .u8 0, .int .u8 0, .int .u8 0, .int .i64 0, .bool false, .int .i64 0, .int .i64 0, .slice none 0 0]) S M 5 rfl rfl (by kernel_rfl) rfl (by decide) rfl rfl rfl (show Rd _ _ _ 24 _ 1 (msgL q.fast) from M.sliceAt 0 rfl (M.cellsAt (k := 24) 0 rfl rfl) rfl (Nat.le_refl _) (by unfold maxLen; omega)) (rfl) (by omega) (by unfold maxLen; omega) ?_; clear S M a; intro a w20 vA loA hiA S M
  refine wpList_nil ?_; refine then_normal ?_; refine ⟨fun h => absurd h (by decide), ?_⟩
  refine k_pure (listed' := #[true, true, true, true, true, true, true, true, true, true, true, false, false, false]) 10 S rfl rfl rfl rfl (by kernel_rfl) rfl (fun _ d _ _ _ h => by cases d <;> exact h) (fun w => y_nilCheck S rfl) ?_; clear S a; intro a S
  refine k_pure (listed' := #[true, true, true, true, true, true, true, true, true, true, true, true, false, false]) 11 S rfl rfl rfl rfl (by kernel_rfl) rfl (fun _ d _ _ _ h => by cases d <;> exact h) (fun w => y_fieldAddr (k := 4) S (by kernel_rfl) rfl) ?_; clear S a; intro a S
  refine k_pure (listed' := #[true, true, true, true, true, true, true, true, true, true, true, true, true, false]) 12 S rfl rfl rfl rfl (by kernel_rfl) rfl (fun _ d _ _ _ h => by cases d <;> exact h) (fun w => y_fieldAddr (k := 0) S (by kernel_rfl) rfl) ?_; clear S a; intro a S
  refine k_one (listed' := #[true, true, true, true, true, true, true, true, true, true, true, true, true, true]) 13 rfl (by kernel_rfl) rfl ?_
  obtain ⟨aA, cA, rfl, -, -⟩ := (M.readAll 0 rfl (by unfold maxLen; omega)).form
  refine st_store (sz := 1) (us := [_]) S M 3 rfl (by kernel_rfl) rfl rfl rfl rfl rfl rfl (by first | decide | (simp; done) | (simp; omega)) ?_; clear M; intro w21 M
  simp only [putL, List.set_cons_zero, List.set_cons_succ, Nat.reduceAdd] at M
  refine wpList_nil ?_; refine then_normal ?_; refine ⟨fun h => absurd h (by decide), ?_⟩
  refine k_end (by kernel_rfl) ?_
  replace S := S.sub [(4, _), (5, _), (8, _), (27, _), (28, _), (29, _), (30, _), (10, _), (34, _), (35, _), (50, _)] rfl
  refine block_normal ?_
  refine block_normal ?_
  refine nxF ?_
  (first | refine st_y S rfl rfl rfl (y_addN S rfl rfl (by omega)) ?_ | refine st_y S rfl rfl rfl (y_int S rfl rfl rfl) ?_); clear S a; intro a S
  refine st_go [1] S rfl (by kernel_rfl) ?_; clear S a; intro a S
  refine nxC ?_
  first
    | (have ht : tickM q = [q.ex] := by unfold tickM; rw [if_pos (by omega)]
       obtain ⟨E2, hE2, M2⟩ := Dsk.closeM (D := D1) (x := q.ex) ⟨la2, lc2, llo2, lhi2⟩ ro2 ra2 rs2 rc2 re2 aA cA loA hiA (((M.drop 1).drop 1).perm (List.perm_middle (l₁ := [_, _, _])).symm)
       have he : D1.mail q.ex = Dsk.mails ⟨D1.s, Tol.none, of⟩ (tickP (D1.s.l.take (k + 1))) := by
         rw [tickP_snoc hq, ht, mails_snoc, hD1]
       rw [he] at hE2
       exact ⟨D1.s.l.length - (k + 1), by omega, k + 1, E2, by omega, rfl, hE2, S.sub _ rfl, M2⟩)
    | (have ht : tickM q = [q.fast] := by unfold tickM; rw [if_neg (by omega), if_pos (by omega)]
       obtain ⟨E2, hE2, M2⟩ := Dsk.closeM (D := D1) (x := q.fast) ⟨la2, lc2, llo2, lhi2⟩ ro2 ra2 rs2 rc2 re2 aA cA loA hiA (((M.drop 1).drop 1).perm (List.perm_middle (l₁ := [_, _, _])).symm)
       have he : D1.mail q.fast = Dsk.mails ⟨D1.s, Tol.none, of⟩ (tickP (D1.s.l.take (k + 1))) := by
         rw [tickP_snoc hq, ht, mails_snoc, hD1]
       rw [he] at hE2
       exact ⟨D1.s.l.length - (k + 1), by omega, k + 1, E2, by omega, rfl, hE2, S.sub _ rfl, M2⟩)
    | (have ht : tickM q = [] := by unfold tickM; rw [if_neg (by omega), if_neg (by omega)]
       obtain ⟨E2, hE2, M2⟩ := Dsk.closeR (D := D1) ⟨la2, lc2, llo2, lhi2⟩ ro2 rm2 ra2 rs2 rc2 re2 (M.drop 0)
       have he : tickP (D1.s.l.take (k + 1)) = tickP (D1.s.l.take k) := by rw [tickP_snoc hq, ht, List.append_nil]
       exact ⟨D1.s.l.length - (k + 1), by omega, k + 1, E2, by omega, rfl, by rw [he, hD1]; exact hE2, S.sub _ rfl, M2⟩)
end Go.Proofs.Ytniijiipkfhjgaa

namespace Go.Proofs.Ytniijiipkfhjgaa
open Go.RowKit Go.Sort
/-- one open transaction, at a shard that forgot -/
def Dsk.lost (D : Dsk) (i : Nat) (o : Ope) (shard : Int) : Dsk :=
  if o.ph ≠ 2 then (D.mails (refuseP o shard 4)).ended i o o.kind 121 121 (o.ph != 0) else D.ended i o o.kind 122 122 (o.ph != 0)
/-- how far it came: the place, and the desk -/
inductive AnewTo (s : Ses) (shard : Nat) : Nat → Dsk → Prop
  | start : AnewTo s shard 0 ⟨s, Tol.none, zOf⟩
  | pass {i : Nat} {D : Dsk} {o : Ope} : AnewTo s shard i D → D.s.l[i]? = some o → (hasBit o.sh shard = false ∨ o.ph = 3) → AnewTo s shard (i + 1) D
  | lose {i : Nat} {D : Dsk} {o : Ope} : AnewTo s shard i D → D.s.l[i]? = some o → hasBit o.sh shard = true → o.ph ≠ 3 → AnewTo s shard i (D.lost i o shard)
theorem lost_len {D : Dsk} {i : Nat} {o : Ope} {shard : Int} (h : i < D.s.l.length) : (D.lost i o shard).s.l.length + 1 = D.s.l.length ∧ (D.lost i o shard).s.over.length = D.s.over.length + 1 := by
  have e : (D.s.l.eraseIdx i).length + 1 = D.s.l.length := by rw [List.length_eraseIdx, if_pos h]; omega
  unfold Dsk.lost
  split
  · exact ⟨e, by show (D.s.over ++ [_]).length = _; simp⟩
  · exact ⟨e, by show (D.s.over ++ [_]).length = _; simp⟩
structure AnewB (D : Dsk) : Prop where
  mail : D.t.mail.length + 4 * D.s.l.length ≤ 32
  over : D.s.over.length + D.s.l.length ≤ 508
  ans : D.t.ans.length + D.s.l.length ≤ 8
  seen : D.t.seen.length + D.s.l.length ≤ 8
  com : D.t.com.length ≤ 0
  ends : D.t.ends.length ≤ 0
theorem AnewB.mid {D : Dsk} (h : AnewB D) : D.mid := by
  obtain ⟨h1, h2, h3, h4, h5, h6⟩ := h
  exact ⟨by omega, by omega, by omega, by omega, by omega, by omega, by omega⟩
theorem AnewB.lost {D : Dsk} {i : Nat} {o : Ope} {shard : Int} (h : AnewB D) (hi : i < D.s.l.length) : AnewB (D.lost i o shard) := by
  obtain ⟨h1, h2, h3, h4, h5, h6⟩ := h
  obtain ⟨e1, e2⟩ := lost_len (o := o) (shard := shard) hi
  have hp := refuseP_len o shard 4
  have hm : (D.lost i o shard).t.mail.length ≤ D.t.mail.length + 4 := by
    unfold Dsk.lost
    split
    · show (D.t.mail ++ refuseP o shard 4).length ≤ _; rw [List.length_append]; omega
    · show D.t.mail.length ≤ _; omega
  have ha : (D.lost i o shard).t.ans.length ≤ D.t.ans.length + 1 := by
    unfold Dsk.lost
    split
    · show (D.t.ans ++ (if _ then [_] else [])).length ≤ _; rw [List.length_append]; split <;> simp
    · show (D.t.ans ++ (if _ then [_] else [])).length ≤ _; rw [List.length_append]; split <;> simp
  have hs : (D.lost i o shard).t.seen.length = D.t.seen.length + 1 := by
    unfold Dsk.lost
    split
    · show (D.t.seen ++ [_]).length = _; simp
    · show (D.t.seen ++ [_]).length = _; simp
  have hc : (D.lost i o shard).t.com = D.t.com := by
    unfold Dsk.lost; split <;> rfl
  have he : (D.lost i o shard).t.ends = D.t.ends := by
    unfold Dsk.lost; split <;> rfl
  exact ⟨by omega, by omega, by omega, by omega, by rw [hc]; exact h5, by rw [he]; exact h6⟩
set_option maxHeartbeats 4000000 in
theorem anew_any {wo w : World} {A : List Ent} (s : Ses) (va oa : Option Addr) (vc oc : Nat) (sh : Int) (hR : RdS wo A s va vc oa oc) (M : Mem wo w A) (hov : s.over.length ≤ 500) (hsh : ∀ o ∈ s.l, ShOk o.sh) :
    Calls Try.prog 13 #[.agg #[.slice va s.l.length vc, .int .i64 s.last, .int .i64 s.inc, .slice oa s.over.length oc], .int .i64 sh] w fun e w' => StepP wo A e w' fun s' t' => s.May ∧ (1 ≤ sh ∧ sh ≤ 4) ∧ ∃ i D', AnewTo s sh.toNat i D' ∧ D'.s.l.length ≤ i ∧ s' = D'.s ∧ t' = D'.t := by
  refine calls_enter Try.func13 rfl 83 rfl rfl ?_; intro a S
  refine nxD ?_
  refine st_box S M rfl rfl rfl #[_, _, _, _] rfl ?_; clear S M a; intro a w1 bS0 S M hB
  refine st_alloc S M rfl rfl #[.slice none 0 0, .int .i64 0, .int .i64 0, .slice none 0 0] (by kernel_rfl) ?_; clear S M a; intro a w2 bR0 S M hB
  refine st_alloc S M rfl rfl #[.slice none 0 0, .slice none 0 0, .slice none 0 0, .slice none 0 0, .slice none 0 0] (by kernel_rfl) ?_; clear S M a; intro a w3 bT0 S M hB
  refine st_go [1] S rfl (by kernel_rfl) ?_; clear S a; intro a S
  refine nxC ?_
  refine wp_seq ?_
  refine nxD ?_
  refine st_y S rfl rfl rfl (y_loadAgg (cs := [_, _, _, _]) S (by kernel_rfl) rfl rfl (M.cellsAt (k := 4) 2 rfl rfl)) ?_; clear S a; intro a S
  refine st_call (xs := [(Operand.tmp 11)]) S (enters_of Try.func16 (by decide) rfl) rfl rfl rfl (check_any s va oa vc oc _ (hR _ (M.sub (.cons _ (.cons _ (.cons _ (List.Sublist.refl _)))))).1 (hR _ (M.sub (.cons _ (.cons _ (.cons _ (List.Sublist.refl _)))))).2 hsh) ?_
  rintro _ w4 ⟨r, rfl, hK, hr⟩; refine ⟨_, rfl, ?_⟩; clear S a; intro a S; replace M := M.grow hK
  refine st_go [1, 1] S rfl (by kernel_rfl) ?_; clear S a; intro a S
  refine st_if (t := 14) S rfl ?_ ?_
  · clear S; intro h14 S
    refine st_go [0, 0, 1, 1, 0, 0, 1] S rfl (by kernel_rfl) ?_; clear S a; intro a S
    refine nxC ?_
    refine st_condT S rfl ?_
    refine nxD ?_
    refine st_y S rfl rfl rfl (y_build (ps := []) (pl := [(0, 1), (1, 1), (2, 1), (3, 1)]) (z := [.slice none 0 0, .int .i64 0, .int .i64 0, .slice none 0 0]) (cs := [_, _, _, _]) S (by kernel_rfl) rfl (rfl)) ?_; clear S a; intro a S
    refine st_y S rfl rfl rfl (y_build (ps := []) (pl := [(0, 1), (1, 1), (2, 1), (3, 1), (4, 1)]) (z := [.slice none 0 0, .slice none 0 0, .slice none 0 0, .slice none 0 0, .slice none 0 0]) (cs := [_, _, _, _, _]) S (by kernel_rfl) rfl (rfl)) ?_; clear S a; intro a S
    refine st_store (sz := 4) (us := [_, _, _, _]) S M 1 rfl (by kernel_rfl) rfl rfl rfl rfl rfl rfl (by first | decide | (simp; done) | (simp; omega)) ?_; clear M; intro w5 M
    simp only [putL, List.set_cons_zero, List.set_cons_succ, Nat.reduceAdd] at M
    refine st_store (sz := 5) (us := [_, _, _, _, _]) S M 0 rfl (by kernel_rfl) rfl rfl rfl rfl rfl rfl (by first | decide | (simp; done) | (simp; omega)) ?_; clear M; intro w6 M
    simp only [putL, List.set_cons_zero, List.set_cons_succ, Nat.reduceAdd] at M
    refine st_go [1] S rfl (by kernel_rfl) ?_; clear S a; intro a S
    refine nxC ?_
    refine wp_ret ?_
    refine then_ret ?_
    refine end_three S rfl (res_agg (cs := [_, _, _, _]) (by kernel_rfl) rfl rfl (M.cellsAt (k := 4) 1 rfl rfl)) (res_agg (cs := [_, _, _, _, _]) (by kernel_rfl) rfl rfl (M.cellsAt (k := 5) 0 rfl rfl)) (res_tmp rfl) ?_
    obtain ⟨lo, hi, M2⟩ := nilSes (M.drop 0 |>.drop 0 |>.drop 0)
    exact ⟨Ses.none, Tol.none, 2, _, _, _, _, _, _, _, rfl, M2, fun h => by omega⟩
  clear S; intro h14 S
  refine st_go [1, 1, 1, 1] S rfl (by kernel_rfl) ?_; clear S a; intro a S
  refine st_if (t := 18) S rfl ?_ ?_
  · clear S; intro h18 S
    refine st_go [0, 0, 1] S rfl (by kernel_rfl) ?_; clear S a; intro a S
    refine nxC ?_
    refine st_condT S rfl ?_
    refine nxD ?_
    refine st_y S rfl rfl rfl (y_build (ps := []) (pl := [(0, 1), (1, 1), (2, 1), (3, 1)]) (z := [.slice none 0 0, .int .i64 0, .int .i64 0, .slice none 0 0]) (cs := [_, _, _, _]) S (by kernel_rfl) rfl (rfl)) ?_; clear S a; intro a S
    refine st_y S rfl rfl rfl (y_build (ps := []) (pl := [(0, 1), (1, 1), (2, 1), (3, 1), (4, 1)]) (z := [.slice none 0 0, .slice none 0 0, .slice none 0 0, .slice none 0 0, .slice none 0 0]) (cs := [_, _, _, _, _]) S (by kernel_rfl) rfl (rfl)) ?_; clear S a; intro a S
    refine st_store (sz := 4) (us := [_, _, _, _]) S M 1 rfl (by kernel_rfl) rfl rfl rfl rfl rfl rfl (by first | decide | (simp; done) | (simp; omega)) ?_; clear M; intro w7 M
    simp only [putL, List.set_cons_zero, List.set_cons_succ, Nat.reduceAdd] at M
    refine st_store (sz := 5) (us := [_, _, _, _, _]) S M 0 rfl (by kernel_rfl) rfl rfl rfl rfl rfl rfl (by first | decide | (simp; done) | (simp; omega)) ?_; clear M; intro w8 M
    simp only [putL, List.set_cons_zero, List.set_cons_succ, Nat.reduceAdd] at M
    refine st_go [1] S rfl (by kernel_rfl) ?_; clear S a; intro a S
    refine nxC ?_
    refine wp_ret ?_
    refine then_ret ?_
    refine end_three S rfl (res_agg (cs := [_, _, _, _]) (by kernel_rfl) rfl rfl (M.cellsAt (k := 4) 1 rfl rfl)) (res_agg (cs := [_, _, _, _, _]) (by kernel_rfl) rfl rfl (M.cellsAt (k := 5) 0 rfl rfl)) (res_tmp rfl) ?_
    obtain ⟨lo, hi, M2⟩ := nilSes (M.drop 0 |>.drop 0 |>.drop 0)
    exact ⟨Ses.none, Tol.none, 2, _, _, _, _, _, _, _, rfl, M2, fun h => by omega⟩
  clear S; intro h18 S
  refine st_go [1, 1, 1] S rfl (by kernel_rfl) ?_; clear S a; intro a S
  refine nxC ?_
  refine st_if (t := 21) S rfl ?_ ?_
  · clear S; intro h21 S
    refine st_condT S rfl ?_
    refine nxD ?_
    refine st_y S rfl rfl rfl (y_build (ps := []) (pl := [(0, 1), (1, 1), (2, 1), (3, 1)]) (z := [.slice none 0 0, .int .i64 0, .int .i64 0, .slice none 0 0]) (cs := [_, _, _, _]) S (by kernel_rfl) rfl (rfl)) ?_; clear S a; intro a S
    refine st_y S rfl rfl rfl (y_build (ps := []) (pl := [(0, 1), (1, 1), (2, 1), (3, 1), (4, 1)]) (z := [.slice none 0 0, .slice none 0 0, .slice none 0 0, .slice none 0 0, .slice none 0 0]) (cs := [_, _, _, _, _]) S (by kernel_rfl) rfl (rfl)) ?_; clear S a; intro a S
    refine st_store (sz := 4) (us := [_, _, _, _]) S M 1 rfl (by kernel_rfl) rfl rfl rfl rfl rfl rfl (by first | decide | (simp; done) | (simp; omega)) ?_; clear M; intro w9 M
    simp only [putL, List.set_cons_zero, List.set_cons_succ, Nat.reduceAdd] at M
    refine st_store (sz := 5) (us := [_, _, _, _, _]) S M 0 rfl (by kernel_rfl) rfl rfl rfl rfl rfl rfl (by first | decide | (simp; done) | (simp; omega)) ?_; clear M; intro w10 M
    simp only [putL, List.set_cons_zero, List.set_cons_succ, Nat.reduceAdd] at M
    refine st_go [1] S rfl (by kernel_rfl) ?_; clear S a; intro a S
    refine nxC ?_
    refine wp_ret ?_
    refine then_ret ?_
    refine end_three S rfl (res_agg (cs := [_, _, _, _]) (by kernel_rfl) rfl rfl (M.cellsAt (k := 4) 1 rfl rfl)) (res_agg (cs := [_, _, _, _, _]) (by kernel_rfl) rfl rfl (M.cellsAt (k := 5) 0 rfl rfl)) (res_tmp rfl) ?_
    obtain ⟨lo, hi, M2⟩ := nilSes (M.drop 0 |>.drop 0 |>.drop 0)
    exact ⟨Ses.none, Tol.none, 2, _, _, _, _, _, _, _, rfl, M2, fun h => by omega⟩
  clear S; intro h21 S
  refine st_condF S rfl ?_
  refine wp_skip ?_
  refine then_normal ?_
  refine wp_seq ?_
  have hm : s.May := by
    rcases hr with ⟨-, h⟩ | ⟨h, -⟩
    · exact h
    · omega
  have hml := hm.len
  obtain ⟨k, rfl, hk1, hk4⟩ : ∃ k : Nat, sh = (k : Int) ∧ 1 ≤ k ∧ k ≤ 4 := ⟨sh.toNat, by omega, by omega, by omega⟩
  refine wp_region_lit ?_
  refine st_y S rfl rfl rfl (y_loadAgg (cs := [_, _, _, _]) S (by kernel_rfl) rfl rfl (M.cellsAt (k := 4) 2 rfl rfl)) ?_; clear S a; intro a S
  refine st_call (xs := [(Operand.tmp 24)]) S (enters_of Try.func18 (by decide) rfl) rfl rfl rfl (copied_any (A := _ :: _ :: _ :: A) s va oa vc oc (fun W M9 => hR W (M9.sub (.cons _ (.cons _ (.cons _ (List.Sublist.refl _)))))) M (by omega) hov) ?_
  rintro _ w11 ⟨rl, ro, rfl, M1⟩; refine ⟨_, rfl, ?_⟩; clear S M a; intro a S; have M := M1; clear M1
  refine st_y S rfl rfl rfl (y_build (ps := [(0, (Operand.tmp 25))]) (pl := [(0, 4), (4, 5), (9, 8)]) (z := [.slice none 0 0, .int .i64 0, .int .i64 0, .slice none 0 0, .slice none 0 0, .slice none 0 0, .slice none 0 0, .slice none 0 0, .slice none 0 0, .int .i64 0, .int .i64 0, .int .i64 0, .int .i64 0, .int .i64 0, .int .i64 0, .int .i64 0, .int .i64 0]) (cs := [_, _, _, _, _, _, _, _, _, _, _, _, _, _, _, _, _]) S (by kernel_rfl) rfl (rfl)) ?_; clear S a; intro a S
  refine st_box S M rfl rfl rfl #[_, _, _, _, _, _, _, _, _, _, _, _, _, _, _, _, _] rfl ?_; clear S M a; intro a w12 bB S M hB
  refine st_go [1] S rfl (by kernel_rfl) ?_; clear S a; intro a S
  replace S := S.sub [(0, _), (1, _), (2, _), (4, _), (5, _), (6, _), (21, _), (7, _)] rfl
  refine nxC ?_
  refine wp_seq ?_
  refine nxD ?_
  refine st_go [1] S rfl (by kernel_rfl) ?_; clear S a; intro a S
  refine nxC ?_
  refine wp_block ?_
  refine wp_loop_g (fun m a w' => ∃ (i : Nat) (D1 : Dsk) (E1 : List Ent), AnewTo s k i D1 ∧ AnewB D1 ∧ i ≤ D1.s.l.length ∧ m = D1.s.l.length - i ∧ DeskE bB D1 E1 ∧ Sees 83 a [(1, .int .i64 (k : Int)), (4, .pointer (some ⟨bR0, 0, none⟩)), (5, .pointer (some ⟨bT0, 0, none⟩)), (7, .pointer (some ⟨bB, 0, none⟩)), (8, .int .i64 (i : Int))] ∧ Mem wo w' (.blk bT0 (tolL Tol.none ⟨none, 0, 0, 0⟩ ⟨none, 0, 0, 0⟩ ⟨none, 0, 0, 0⟩ ⟨none, 0, 0, 0⟩ ⟨none, 0, 0, 0⟩).toArray 54 :: .blk bR0 (sesL Ses.none ⟨none, 0, 0, 0⟩ ⟨none, 0, 0, 0⟩).toArray 29 :: (A ++ E1))) (s.l.length) ?_ ?_
  · skip
    obtain ⟨lo, hi, M2⟩ := nilTol (M.drop 5)
    obtain ⟨E1, hE1, M3⟩ := Dsk.close (b := bB) (D := ⟨s, Tol.none, zOf⟩) rl ro ⟨none, 0, lo, hi⟩ ⟨none, 0, lo, hi⟩ ⟨none, 0, lo, hi⟩ ⟨none, 0, lo, hi⟩ ⟨none, 0, lo, hi⟩ (M2.perm (List.perm_append_comm_assoc (tolE Tol.none _ _ _ _ _) [_, _, _] _))
    exact ⟨0, _, E1, .start, ⟨by show 0 + 4 * s.l.length ≤ 32; omega, by show s.over.length + s.l.length ≤ 508; omega, by show 0 + s.l.length ≤ 8; omega, by show 0 + s.l.length ≤ 8; omega, Nat.le_refl _, Nat.le_refl _⟩, Nat.zero_le _, rfl, hE1, S.sub _ rfl, M3⟩
  clear S M a; intro m a wl
  rintro ⟨i, D1, E1, hto, hB1, hi, rfl, hE1, S, M⟩
  have hmid := hB1.mid
  have hml1 := hB1.ans
  obtain ⟨rl2, ro2, rm2, ra2, rs2, rc2, re2, M1⟩ := Dsk.open (A := _ :: _ :: A) hE1 M
  clear M hE1; have M := M1; clear M1
  refine wp_seq ?_
  refine nxD ?_
  refine st_run [1, 1, 1, 1, 1, 1] S M rfl (by kernel_rfl) ?_; clear S a; intro a S
  refine st_y S rfl rfl rfl (y_lenS (E := 65) S rfl (by kernel_rfl)) ?_; clear S a; intro a S
  refine st_go [1] S rfl (by kernel_rfl) ?_; clear S a; intro a S
  refine nxC ?_
  refine st_fi (t := 35) S rfl ?_ ?_
  · clear S; intro h35 S
    refine st_condF S rfl ?_
    refine wp_exit ?_
    refine then_exit ?_
    refine then_exit ?_
    refine block_hit ?_
    refine then_normal ?_
    refine wp_seq ?_
    skip
    refine wp_regionKC (C := fun W => CellsAt W bB 4 (tolL D1.t rm2 ra2 rs2 rc2 re2)) [8, 9] #[false, false, false, false, false, false, false, false, false, false, false] rfl M (by kernel_rfl) ?_; clear M; intro w22 M; have hC := M.cellsAt (o := 4) (k := 5) 0 rfl rfl
    refine kc_readC (listed' := #[true, false, false, false, false, false, false, false, false, false, false]) 0 S rfl rfl rfl rfl (by kernel_rfl) rfl (fun _ d _ _ _ h => by cases d <;> exact h) hC (fun w _ => y_move S rfl) ?_; clear S a; intro a S
    refine kc_readC (listed' := #[true, true, false, false, false, false, false, false, false, false, false]) 1 S rfl rfl rfl rfl (by kernel_rfl) rfl (fun _ d _ _ _ h => by cases d <;> exact h) hC (fun w _ => y_nilCheck S rfl) ?_; clear S a; intro a S
    refine kc_readC (listed' := #[true, true, true, false, false, false, false, false, false, false, false]) 2 S rfl rfl rfl rfl (by kernel_rfl) rfl (fun _ d _ _ _ h => by cases d <;> exact h) hC (fun w _ => y_fieldAddr (k := 0) S (by kernel_rfl) rfl) ?_; clear S a; intro a S
    refine kc_read (listed' := #[true, true, true, true, false, false, false, false, false, false, false]) 3 S rfl rfl rfl rfl (by kernel_rfl) rfl (fun _ d _ _ _ h => by cases d <;> exact h) hC (fun w hW => have M := M.grow hW; y_loadAgg (cs := [_, _, _, _]) S (by kernel_rfl) rfl rfl (M.cellsAt (k := 4) 0 rfl rfl)) ?_; clear S a; intro a S
    refine kc_readC (listed' := #[true, true, true, true, true, false, false, false, false, false, false]) 4 S rfl rfl rfl rfl (by kernel_rfl) rfl (fun _ d _ _ _ h => by cases d <;> exact h) hC (fun w _ => y_move S rfl) ?_; clear S a; intro a S
    refine kc_readC (listed' := #[true, true, true, true, true, true, false, false, false, false, false]) 5 S rfl rfl rfl rfl (by kernel_rfl) rfl (fun _ d _ _ _ h => by cases d <;> exact h) hC (fun w _ => y_nilCheck S rfl) ?_; clear S a; intro a S
    refine kc_readC (listed' := #[true, true, true, true, true, true, true, false, false, false, false]) 6 S rfl rfl rfl rfl (by kernel_rfl) rfl (fun _ d _ _ _ h => by cases d <;> exact h) hC (fun w _ => y_fieldAddr (k := 4) S (by kernel_rfl) rfl) ?_; clear S a; intro a S
    refine kc_readC (listed' := #[true, true, true, true, true, true, true, true, false, false, false]) 7 S rfl rfl rfl rfl (by kernel_rfl) rfl (fun _ d _ _ _ h => by cases d <;> exact h) hC (fun w hC => y_loadAgg (cs := [_, _, _, _, _]) S (by kernel_rfl) rfl rfl (hC)) ?_; clear S a; intro a S
    refine kc_one (listed' := #[true, true, true, true, true, true, true, true, true, false, false]) 8 rfl (by kernel_rfl) rfl ?_
    refine st_store (sz := 4) (us := [_, _, _, _]) S M 9 rfl (by kernel_rfl) rfl rfl rfl rfl rfl rfl (by first | decide | (simp; done) | (simp; omega)) ?_; clear M; intro w23 M
    simp only [putL, List.set_cons_zero, List.set_cons_succ, Nat.reduceAdd] at M
    replace hC := M.cellsAt (o := 4) (k := 5) 0 rfl rfl
    refine wpList_nil ?_; refine then_normal ?_; refine ⟨fun h => absurd h (by decide), hC, ?_⟩
    refine kc_one (listed' := #[true, true, true, true, true, true, true, true, true, true, false]) 9 rfl (by kernel_rfl) rfl ?_
    refine st_store (sz := 5) (us := [_, _, _, _, _]) S M 8 rfl (by kernel_rfl) rfl rfl rfl rfl rfl rfl (by first | decide | (simp; done) | (simp; omega)) ?_; clear M; intro w24 M
    simp only [putL, List.set_cons_zero, List.set_cons_succ, Nat.reduceAdd] at M
    replace hC := M.cellsAt (o := 4) (k := 5) 0 rfl rfl
    refine wpList_nil ?_; refine then_normal ?_; refine ⟨fun h => absurd h (by decide), hC, ?_⟩
    refine kc_readC (listed' := #[true, true, true, true, true, true, true, true, true, true, true]) 10 S rfl rfl rfl rfl (by kernel_rfl) rfl (fun _ d _ _ _ h => by cases d <;> exact h) hC (fun w _ => y_assign S rfl) ?_; clear S a; intro a S
    refine kc_end (by kernel_rfl) ?_
    replace S := S.sub [(1, _), (4, _), (5, _), (7, _), (8, _), (35, _), (6, _)] rfl
    refine then_normal ?_
    refine wp_ret ?_
    refine end_three S rfl (res_agg (cs := [_, _, _, _]) (by kernel_rfl) rfl rfl (M.cellsAt (k := 4) 9 rfl rfl)) (res_agg (cs := [_, _, _, _, _]) (by kernel_rfl) rfl rfl (M.cellsAt (k := 5) 8 rfl rfl)) (res_tmp rfl) ?_
    exact ⟨D1.s, D1.t, 0, rl2, ro2, rm2, ra2, rs2, rc2, re2, rfl, ((M.drop 0).drop 7).drop 7, fun _ => ⟨hm, by omega, i, D1, by simpa using hto, by omega, rfl, rfl⟩⟩
  clear S; intro h35 S
  refine st_condT S rfl ?_
  refine wp_skip ?_
  refine then_normal ?_
  refine wp_block ?_
  refine wp_seq ?_
  obtain ⟨q, hq⟩ : ∃ q, D1.s.l[i]? = some q := ⟨_, List.getElem?_eq_getElem (by omega)⟩
  refine wp_region_lit ?_
  refine st_run [1, 1, 1, 1, 1, 1] S M rfl (by kernel_rfl) ?_; clear S a; intro a S
  refine st_y S rfl rfl rfl (y_indexR (e := 65) (sz := 37) S (by kernel_rfl) rfl (M.readAll 1 rfl (by unfold maxLen; omega)) rfl (by first | omega | (simp; done) | (simp; omega))) ?_; clear S a; intro a S
  try simp only [Int.toNat_natCast, Nat.mul_one, Nat.zero_add] at S
  refine st_y S rfl rfl rfl (y_loadAgg S (by kernel_rfl) rfl rfl ((M.readAll 1 rfl (by unfold maxLen; omega)).at_.row (i := i) (fm_get len_ope hq) rfl)) ?_; clear S a; intro a S
  refine st_alloc S M rfl rfl #[.int .i64 0, .int .i64 0, .int .i64 0, .int .i64 0, .int .i64 0, .int .i8 0, .int .i64 0, .int .i64 0, .int .i64 0, .int .i64 0, .int .i64 0, .int .i64 0, .int .i64 0, .int .i8 0, .int .i64 0, .int .i64 0, .int .i64 0, .int .i64 0, .int .i64 0, .int .i64 0, .int .i64 0, .int .i64 0, .int .i8 0, .int .i64 0, .int .u8 0, .int .u8 0, .int .u8 0, .int .u8 0, .int .u8 0, .int .u8 0, .int .u8 0, .int .u8 0, .int .i64 0, .bool false, .int .i64 0, .int .i64 0, .slice none 0 0] (by kernel_rfl) ?_; clear S M a; intro a w13 bX S M hB
  refine st_store (sz := 37) (us := [_, _, _, _, _, _, _, _, _, _, _, _, _, _, _, _, _, _, _, _, _, _, _, _, _, _, _, _, _, _, _, _, _, _, _, _, _]) S M 0 rfl (by kernel_rfl) rfl rfl rfl rfl rfl rfl (by first | decide | (simp; done) | (simp; omega)) ?_; clear M; intro w14 M
  simp only [putL, List.set_cons_zero, List.set_cons_succ, Nat.reduceAdd] at M
  replace S := S.sub [(1, _), (4, _), (5, _), (7, _), (8, _), (35, _), (9, _)] rfl
  refine nxC ?_
  refine wp_seq ?_
  refine wp_seq ?_
  refine wp_quiet M (by kernel_rfl) (by kernel_rfl) ?_
  refine qt_y S rfl rfl rfl (fun w M => y_fieldAddr (k := 6) S (by kernel_rfl) rfl) ?_; clear S a; intro a S
  refine qt_y S rfl rfl rfl (fun w M => y_load S (by kernel_rfl) rfl (M.cell 0 rfl rfl)) ?_; clear S a; intro a S
  refine qt_y S rfl rfl rfl (fun w M => y_move S rfl) ?_; clear S a; intro a S
  (first | refine qt_y S rfl rfl rfl (fun w M => y_shlN S rfl rfl (by omega) (by first | exact shl_bd (by omega) | (rw [Int.toNat_natCast]; exact shl_bd (by omega)))) ?_ | refine qt_y S rfl rfl rfl (fun w M => y_shl S rfl rfl (by omega)) ?_); clear S a; intro a S
  refine qt_y S rfl rfl rfl (fun w M => y_int S rfl rfl rfl) ?_; clear S a; intro a S
  refine qt_y S rfl rfl rfl (fun w M => y_int S rfl rfl rfl) ?_; clear S a; intro a S
  refine qt_y S rfl rfl rfl (fun w M => y_move S rfl) ?_; clear S a; intro a S
  refine st_split (t := 50) S rfl ?_ ?_
  · clear S; intro h50 S
    refine qt_skip 3 S rfl ?_; clear S a; intro a S
    refine qt_y S rfl rfl rfl (fun w M => y_pickT S rfl rfl) ?_; clear S a; intro a S
    refine wpQuiet_nil ?_; clear M; intro w15 M
    refine then_normal ?_
    refine st_condT S rfl ?_
    refine nxD ?_
    refine st_go [1] S rfl (by kernel_rfl) ?_; clear S a; intro a S
    (first | refine st_y S rfl rfl rfl (y_addN S rfl rfl (by omega)) ?_ | refine st_y S rfl rfl rfl (y_int S rfl rfl rfl) ?_); clear S a; intro a S
    refine st_go [1] S rfl (by kernel_rfl) ?_; clear S a; intro a S
    refine nxC ?_
    refine wp_exit ?_
    refine then_exit ?_
    refine block_hit ?_
    refine then_normal ?_
    have hil := (List.getElem?_eq_some_iff.1 hq).1
    first
      | (have he : D2.ended i q q.kind e9 e9 (q.ph != 0) = D1.lost i q k := by
           unfold Dsk.lost
           rcases hD2 with ⟨h, rfl, rfl⟩ | ⟨h, rfl, rfl⟩
           · rw [if_pos h]
           · rw [if_neg (by omega)]
         have hb : hasBit q.sh k = true := by unfold hasBit andV; simpa [Int.toNat_natCast] using h50
         obtain ⟨l1, l2⟩ := lost_len (D := D1) (o := q) (shard := k) hil
         exact ⟨(D1.lost i q k).s.l.length - i, by omega, i, _, E6, .lose hto hq hb (by omega), hB1.lost hil, by omega, rfl, he ▸ hE6, S.sub _ rfl, M.drop 0⟩)
      | (obtain ⟨E1, hE1, M2⟩ := Dsk.close (D := D1) rl2 ro2 rm2 ra2 rs2 rc2 re2 (M.drop 0)
         have hc : hasBit q.sh k = false ∨ q.ph = 3 := by
           first
             | exact .inr (by omega)
             | exact .inl (by unfold hasBit andV; simpa [Int.toNat_natCast] using h50)
         exact ⟨D1.s.l.length - (i + 1), by omega, i + 1, D1, E1, .pass hto hq hc, hB1, by omega, rfl, hE1, S.sub _ rfl, M2⟩)
  clear S; intro h50 S
  refine qt_y S rfl rfl rfl (fun w M => y_fieldAddr (k := 5) S (by kernel_rfl) rfl) ?_; clear S a; intro a S
  refine qt_y S rfl rfl rfl (fun w M => y_load S (by kernel_rfl) rfl (M.cell 0 rfl rfl)) ?_; clear S a; intro a S
  refine qt_y S rfl rfl rfl (fun w M => y_int S rfl rfl rfl) ?_; clear S a; intro a S
  refine qt_y S rfl rfl rfl (fun w M => y_pickF S rfl rfl) ?_; clear S a; intro a S
  refine wpQuiet_nil ?_; clear M; intro w16 M
  refine then_normal ?_
  refine st_if (t := 54) S rfl ?_ ?_
  · clear S; intro h54 S
    refine st_condT S rfl ?_
    refine nxD ?_
    refine st_go [1] S rfl (by kernel_rfl) ?_; clear S a; intro a S
    (first | refine st_y S rfl rfl rfl (y_addN S rfl rfl (by omega)) ?_ | refine st_y S rfl rfl rfl (y_int S rfl rfl rfl) ?_); clear S a; intro a S
    refine st_go [1] S rfl (by kernel_rfl) ?_; clear S a; intro a S
    refine nxC ?_
    refine wp_exit ?_
    refine then_exit ?_
    refine block_hit ?_
    refine then_normal ?_
    have hil := (List.getElem?_eq_some_iff.1 hq).1
    first
      | (have he : D2.ended i q q.kind e9 e9 (q.ph != 0) = D1.lost i q k := by
           unfold Dsk.lost
           rcases hD2 with ⟨h, rfl, rfl⟩ | ⟨h, rfl, rfl⟩
           · rw [if_pos h]
           · rw [if_neg (by omega)]
         have hb : hasBit q.sh k = true := by unfold hasBit andV; simpa [Int.toNat_natCast] using h50
         obtain ⟨l1, l2⟩ := lost_len (D := D1) (o := q) (shard := k) hil
         exact ⟨(D1.lost i q k).s.l.length - i, by omega, i, _, E6, .lose hto hq hb (by omega), hB1.lost hil, by omega, rfl, he ▸ hE6, S.sub _ rfl, M.drop 0⟩)
      | (obtain ⟨E1, hE1, M2⟩ := Dsk.close (D := D1) rl2 ro2 rm2 ra2 rs2 rc2 re2 (M.drop 0)
         have hc : hasBit q.sh k = false ∨ q.ph = 3 := by
           first
             | exact .inr (by omega)
             | exact .inl (by unfold hasBit andV; simpa [Int.toNat_natCast] using h50)
         exact ⟨D1.s.l.length - (i + 1), by omega, i + 1, D1, E1, .pass hto hq hc, hB1, by omega, rfl, hE1, S.sub _ rfl, M2⟩)
  clear S; intro h54 S
  refine st_condF S rfl ?_
  refine wp_skip ?_
  refine nxE ?_
  refine st_go [1] S rfl (by kernel_rfl) ?_; clear S a; intro a S
  refine nxC ?_
  refine wp_cut (fun a w' => ∃ (D2 : Dsk) (e9 : Int) (E2 : List Ent), (q.ph ≠ 2 ∧ e9 = 121 ∧ D2 = D1.mails (refuseP q k 4) ∨ q.ph = 2 ∧ e9 = 122 ∧ D2 = D1) ∧ DeskE bB D2 E2 ∧ Sees 83 a [(1, .int .i64 (k : Int)), (4, .pointer (some ⟨bR0, 0, none⟩)), (5, .pointer (some ⟨bT0, 0, none⟩)), (7, .pointer (some ⟨bB, 0, none⟩)), (8, .int .i64 (i : Int)), (9, .pointer (some ⟨bX, 0, none⟩)), (10, .int .i64 e9)] ∧ Mem wo w' (.blk bX q.cellsL.toArray 65 :: .blk bT0 (tolL Tol.none ⟨none, 0, 0, 0⟩ ⟨none, 0, 0, 0⟩ ⟨none, 0, 0, 0⟩ ⟨none, 0, 0, 0⟩ ⟨none, 0, 0, 0⟩).toArray 54 :: .blk bR0 (sesL Ses.none ⟨none, 0, 0, 0⟩ ⟨none, 0, 0, 0⟩).toArray 29 :: (A ++ E2))) ?_ ?_
  · skip
    refine nxD ?_
    refine st_run [6, 1, 1] S M rfl (by kernel_rfl) ?_; clear S a; intro a S
    refine nxC ?_
    refine st_fi (t := 59) S rfl ?_ ?_
    · clear S; intro h59 S
      refine st_condF S rfl ?_
      refine wp_skip ?_
      refine then_normal ?_
      first
        | exact ⟨_, 121, E2, .inl ⟨by omega, rfl, rfl⟩, hE2, S.sub _ rfl, M⟩
        | (obtain ⟨E1, hE1, M2⟩ := Dsk.close (D := D1) rl2 ro2 rm2 ra2 rs2 rc2 re2 (M.perm (List.perm_middle (l₁ := dskE bB D1 rl2 ro2 rm2 ra2 rs2 rc2 re2)).symm)
           exact ⟨_, 122, E1, .inr ⟨by omega, rfl, rfl⟩, hE1, S.sub _ rfl, M2⟩)
    clear S; intro h59 S
    refine st_condT S rfl ?_
    refine nxD ?_
    refine st_go [1] S rfl (by kernel_rfl) ?_; clear S a; intro a S
    refine nxB ?_
    refine st_go [1] S rfl (by kernel_rfl) ?_; clear S a; intro a S
    refine st_y S rfl rfl rfl (y_loadAgg (cs := [_, _, _, _, _, _, _, _, _, _, _, _, _, _, _, _, _, _, _, _, _, _, _, _, _, _, _, _, _, _, _, _, _, _, _, _, _]) S (by kernel_rfl) rfl rfl (M.cellsAt (k := 37) 0 rfl rfl)) ?_; clear S a; intro a S
    refine st_go [1] S rfl (by kernel_rfl) ?_; clear S a; intro a S
    obtain ⟨E1, hE1, M2⟩ := Dsk.close (D := D1) rl2 ro2 rm2 ra2 rs2 rc2 re2 (M.perm (List.perm_middle (l₁ := dskE bB D1 rl2 ro2 rm2 ra2 rs2 rc2 re2)).symm)
    clear M; have M := M2; clear M2
    refine st_call (xs := [(Operand.tmp 60), (Operand.tmp 61), (Operand.tmp 62)]) S (enters_of Try.func25 (by decide) rfl) rfl rfl rfl (refuse_any (A := _ :: _ :: _ :: A) q k hE1 M hmid.small) ?_
    rintro _ w17 ⟨rfl, E2, hE2, M1⟩; refine ⟨_, rfl, ?_⟩; clear S M a; intro a S; have M := M1; clear M1
    replace S := S.sub [(1, _), (4, _), (5, _), (7, _), (8, _), (35, _), (9, _), (54, _), (59, _), (10, _)] rfl
    refine nxC ?_
    first
      | exact ⟨_, 121, E2, .inl ⟨by omega, rfl, rfl⟩, hE2, S.sub _ rfl, M⟩
      | (obtain ⟨E1, hE1, M2⟩ := Dsk.close (D := D1) rl2 ro2 rm2 ra2 rs2 rc2 re2 (M.perm (List.perm_middle (l₁ := dskE bB D1 rl2 ro2 rm2 ra2 rs2 rc2 re2)).symm)
         exact ⟨_, 122, E1, .inr ⟨by omega, rfl, rfl⟩, hE1, S.sub _ rfl, M2⟩)
  clear S a M; intro a wc
  rintro ⟨D2, e9, E2, hD2, hE2, S, M⟩
  have hpl := refuseP_len q k 4
  have hm2 : D2.mid := by
    rcases hD2 with ⟨-, -, rfl⟩ | ⟨-, -, rfl⟩
    · exact ⟨hmid.l, hmid.over, by show (D1.t.mail ++ _).length ≤ 900; rw [List.length_append]; have := hB1.mail; omega, hmid.ans, hmid.seen, hmid.com, hmid.ends⟩
    · exact hmid
  have hq2 : D2.s.l[i]? = some q := by rcases hD2 with ⟨-, -, rfl⟩ | ⟨-, -, rfl⟩ <;> exact hq
  refine wp_regionKC (C := fun W => Blk W bX q.cellsL.toArray 65) [4, 10] #[false, false, false, false, false, false, false, false, false, false, false] rfl M (by kernel_rfl) ?_; clear M; intro w18 M; have hC := M.blk 0 rfl
  refine kc_readC (listed' := #[true, false, false, false, false, false, false, false, false, false, false]) 0 S rfl rfl rfl rfl (by kernel_rfl) rfl (fun _ d _ _ _ h => by cases d <;> exact h) hC (fun w _ => y_move S rfl) ?_; clear S a; intro a S
  refine kc_readC (listed' := #[true, true, false, false, false, false, false, false, false, false, false]) 1 S rfl rfl rfl rfl (by kernel_rfl) rfl (fun _ d _ _ _ h => by cases d <;> exact h) hC (fun w _ => y_move S rfl) ?_; clear S a; intro a S
  refine kc_read (listed' := #[true, true, true, false, false, false, false, false, false, false, false]) 2 S rfl rfl rfl rfl (by kernel_rfl) rfl (fun _ d _ _ _ h => by cases d <;> exact h) hC (fun w hW => have M := M.grow hW; y_loadAgg (cs := [_, _, _, _, _, _, _, _, _, _, _, _, _, _, _, _, _, _, _, _, _, _, _, _, _, _, _, _, _, _, _, _, _, _, _, _, _]) S (by kernel_rfl) rfl rfl (M.cellsAt (k := 37) 0 rfl rfl)) ?_; clear S a; intro a S
  refine kc_readC (listed' := #[true, true, true, false, false, true, false, false, false, false, false]) 5 S rfl rfl rfl rfl (by kernel_rfl) rfl (fun _ d _ _ _ h => by cases d <;> exact h) hC (fun w _ => y_move S rfl) ?_; clear S a; intro a S
  refine kc_readC (listed' := #[true, true, true, false, false, true, true, false, false, false, false]) 6 S rfl rfl rfl rfl (by kernel_rfl) rfl (fun _ d _ _ _ h => by cases d <;> exact h) hC (fun w _ => y_move S rfl) ?_; clear S a; intro a S
  refine kc_readC (listed' := #[true, true, true, false, false, true, true, true, false, false, false]) 7 S rfl rfl rfl rfl (by kernel_rfl) rfl (fun _ d _ _ _ h => by cases d <;> exact h) hC (fun w _ => y_fieldAddr (k := 5) S (by kernel_rfl) rfl) ?_; clear S a; intro a S
  refine kc_readC (listed' := #[true, true, true, false, false, true, true, true, true, false, false]) 8 S rfl rfl rfl rfl (by kernel_rfl) rfl (fun _ d _ _ _ h => by cases d <;> exact h) hC (fun w hC => y_load S (by kernel_rfl) rfl (hC.cells 5)) ?_; clear S a; intro a S
  refine kc_readC (listed' := #[true, true, true, false, false, true, true, true, true, true, false]) 9 S rfl rfl rfl rfl (by kernel_rfl) rfl (fun _ d _ _ _ h => by cases d <;> exact h) hC (fun w _ => y_int S rfl rfl rfl) ?_; clear S a; intro a S
  refine kc_one (listed' := #[true, true, true, true, false, true, true, true, true, true, false]) 3 rfl (by kernel_rfl) rfl ?_
  refine st_call (xs := [(Operand.tmp 66)]) S (enters_of Try.func27 (by decide) rfl) rfl rfl rfl (kind_any q _) ?_
  rintro _ w19 ⟨rfl, hK⟩; refine ⟨_, rfl, ?_⟩; clear S a; intro a S; replace M := M.grow hK
  replace hC := M.blk 0 rfl
  refine wpList_nil ?_; refine then_normal ?_; refine ⟨fun _ => hK, hC, ?_⟩
  refine kc_one (listed' := #[true, true, true, true, true, true, true, true, true, true, false]) 4 rfl (by kernel_rfl) rfl ?_
  refine st_call (xs := [(Operand.tmp 64), (Operand.tmp 65), (Operand.tmp 67)]) S (enters_of Try.func24 (by decide) rfl) rfl rfl rfl (ending_any (A := _ :: _ :: _ :: A) i q q.kind hE2 M hm2 hq2) ?_
  rintro _ w20 ⟨b3, b4, b5, b7, rfl, E5, hE5, M1⟩; refine ⟨_, rfl, ?_⟩; clear S M a; intro a S; have M := M1; clear M1
  replace hC := M.blk 4 rfl
  refine wpList_nil ?_; refine then_normal ?_; refine ⟨fun h => absurd h (by decide), hC, ?_⟩
  refine kc_one (listed' := #[true, true, true, true, true, true, true, true, true, true, true]) 10 rfl (by kernel_rfl) rfl ?_
  refine st_callB (xs := [(Operand.tmp 69), (Operand.tmp 70), (Operand.tmp 73)]) (fi := []) (ca := [.pointer (some ⟨b3, 0, none⟩), .pointer (some ⟨b7, 0, none⟩), .pointer (some ⟨b4, 0, none⟩), .pointer (some ⟨b5, 0, none⟩)]) S (enters_of Try.func48 (by decide) rfl) rfl rfl (rfl) rfl (ending1_any (A := _ :: _ :: _ :: A) i q q.kind e9 e9 (q.ph != 0) hE5 M hm2 (List.getElem?_eq_some_iff.1 hq2).1) ?_
  rintro _ w21 ⟨rfl, E6, hE6, M1⟩; refine ⟨_, rfl, ?_⟩; clear S M a; intro a S; have M := M1; clear M1
  replace hC := M.blk 0 rfl
  refine wpList_nil ?_; refine then_normal ?_; refine ⟨fun h => absurd h (by decide), hC, ?_⟩
  refine kc_end (by kernel_rfl) ?_
  refine block_normal ?_
  refine then_normal ?_
  have hil := (List.getElem?_eq_some_iff.1 hq).1
  first
    | (have he : D2.ended i q q.kind e9 e9 (q.ph != 0) = D1.lost i q k := by
         unfold Dsk.lost
         rcases hD2 with ⟨h, rfl, rfl⟩ | ⟨h, rfl, rfl⟩
         · rw [if_pos h]
         · rw [if_neg (by omega)]
       have hb : hasBit q.sh k = true := by unfold hasBit andV; simpa [Int.toNat_natCast] using h50
       obtain ⟨l1, l2⟩ := lost_len (D := D1) (o := q) (shard := k) hil
       exact ⟨(D1.lost i q k).s.l.length - i, by omega, i, _, E6, .lose hto hq hb (by omega), hB1.lost hil, by omega, rfl, he ▸ hE6, S.sub _ rfl, M.drop 0⟩)
    | (obtain ⟨E1, hE1, M2⟩ := Dsk.close (D := D1) rl2 ro2 rm2 ra2 rs2 rc2 re2 (M.drop 0)
       have hc : hasBit q.sh k = false ∨ q.ph = 3 := by
         first
           | exact .inr (by omega)
           | exact .inl (by unfold hasBit andV; simpa [Int.toNat_natCast] using h50)
       exact ⟨D1.s.l.length - (i + 1), by omega, i + 1, D1, E1, .pass hto hq hc, hB1, by omega, rfl, hE1, S.sub _ rfl, M2⟩)
end Go.Proofs.Ytniijiipkfhjgaa

namespace Go.Proofs.Ytniijiipkfhjgaa
open Go.RowKit Go.Sort
structure Act_ where
  do_ : Int
  c : Cal
  bs : List UInt8
  stamp : Int
  m : Msg
  x : List Wr
  nm : Nm
  e : Int
  shard : Int
  of : Of8
  n : Int
  val : V8
abbrev Act_.cellsL (a : Act_) (dv wv : Value) : List Value := [.int .i64 a.do_, .int .i8 a.c.kind, .int .i64 a.c.c, .int .i64 a.c.h, .int .i64 a.c.block, dv, .int .i64 a.c.stamp, .int .i64 a.stamp, .int .i8 a.m.kind, .int .i64 a.m.frm, .int .i64 a.m.to, .int .i64 a.m.inc, .int .i64 a.m.your, .int .i64 a.m.name.stamp, .int .i64 a.m.name.inc, .int .i64 a.m.name.try_, .int .i64 a.m.n, .int .i8 a.m.op, .int .i64 a.m.block, .int .u8 (a.m.val.v0.toNat : Int), .int .u8 (a.m.val.v1.toNat : Int), .int .u8 (a.m.val.v2.toNat : Int), .int .u8 (a.m.val.v3.toNat : Int), .int .u8 (a.m.val.v4.toNat : Int), .int .u8 (a.m.val.v5.toNat : Int), .int .u8 (a.m.val.v6.toNat : Int), .int .u8 (a.m.val.v7.toNat : Int), .int .i64 a.m.e, .bool a.m.yes, .int .i64 a.m.give, .int .i64 a.m.take, wv, .int .i64 a.nm.stamp, .int .i64 a.nm.inc, .int .i64 a.nm.try_, .int .i64 a.e, .int .i64 a.shard, .int .i64 a.of.o0, .int .i64 a.of.o1, .int .i64 a.of.o2, .int .i64 a.of.o3, .int .i64 a.of.o4, .int .i64 a.of.o5, .int .i64 a.of.o6, .int .i64 a.of.o7, .int .i64 a.n, .int .u8 (a.val.v0.toNat : Int), .int .u8 (a.val.v1.toNat : Int), .int .u8 (a.val.v2.toNat : Int), .int .u8 (a.val.v3.toNat : Int), .int .u8 (a.val.v4.toNat : Int), .int .u8 (a.val.v5.toNat : Int), .int .u8 (a.val.v6.toNat : Int), .int .u8 (a.val.v7.toNat : Int)]
/-- the acts that a slice reads as -/
def RowA (cs : List Value) (lo hi : Nat) (w : World) (v : Value) (l : List Act_) : Prop :=
  Rd lo hi w 54 v l.length cs ∧ ∀ (i : Nat) (q : Act_), l[i]? = some q → ∃ da dc wa wc, (cs.drop (i * 54)).take 54 = q.cellsL (.slice da q.bs.length dc) (.slice wa q.x.length wc) ∧ Bs lo hi w (.slice da q.bs.length dc) q.bs ∧ Ws lo hi w (.slice wa q.x.length wc) q.x
theorem Mem.actsW {w0 w : World} {H : List Ent} {v : Value} {cs : List Value} {l : List Act_} (M : Mem w0 w H) (h : RowA cs 0 w0.heap.size w0 v l) : RowA cs 0 w.heap.size w v l :=
  ⟨M.argW h.1, fun i q hq => let ⟨da, dc, wa, wc, h1, h2, h3⟩ := h.2 i q hq; ⟨da, dc, wa, wc, h1, M.argW h2, M.argW h3⟩⟩
theorem greatM_any (m : Msg) (wa : Option Addr) (wn wc : Nat) (w : World) : Calls Try.prog 17 #[.agg (msgW m (.slice wa wn wc)).toArray] w fun e w' => e = .returned (.bool (decide (40 < wn))) ∧ Below w.heap.size w w' := by
  have M := Mem.start w
  refine calls_enter Try.func17 rfl 7 rfl rfl ?_; intro a S
  refine nxD ?_
  refine st_box S M rfl rfl rfl #[_, _, _, _, _, _, _, _, _, _, _, _, _, _, _, _, _, _, _, _, _, _, _, _] rfl ?_; clear S M a; intro a w1 b1 S M hB
  refine st_go [1] S rfl (by kernel_rfl) ?_; clear S a; intro a S
  refine nxA ?_
  refine st_run [24, 1] S M rfl (by kernel_rfl) ?_; clear S a; intro a S
  refine st_y S rfl rfl rfl (y_lenS (E := 122) S rfl (by kernel_rfl)) ?_; clear S a; intro a S
  refine st_go [1, 1] S rfl (by kernel_rfl) ?_; clear S a; intro a S
  refine nxC ?_
  refine wp_ret ?_
  refine end_one S rfl (res_tmp rfl) ?_
  refine ⟨ret_bool ?_, M.below⟩; clear S M; rw [Bool.eq_iff_iff]; simp only [decide_eq_true_eq]; omega
theorem great_any (va : Option Addr) (vc : Nat) (cs : List Value) (l : List Act_) (w : World) (hv : RowA cs 0 w.heap.size w (.slice va l.length vc) l) :
    Calls Try.prog 5 #[.slice va l.length vc] w fun e w' => ∃ b, e = .returned (.bool b) ∧ Below w.heap.size w w' ∧ (b = false → l.length ≤ 150 ∧ ∀ q ∈ l, q.bs.length ≤ 100 ∧ q.x.length ≤ 40) := by
  have M := Mem.start w
  have hl := hv.1.2.1
  unfold maxLen at hl
  refine calls_enter Try.func5 rfl 33 rfl rfl ?_; intro a S
  refine nxD ?_
  refine st_go [1] S rfl (by kernel_rfl) ?_; clear S a; intro a S
  refine nxC ?_
  refine wp_seq ?_
  refine nxD ?_
  refine st_go [1] S rfl (by kernel_rfl) ?_; clear S a; intro a S
  refine nxC ?_
  refine wp_block ?_
  refine wp_loop_g (fun m a w' => ∃ k : Nat, k ≤ l.length ∧ k ≤ 151 ∧ m = l.length - k ∧ (∀ (i : Nat) (q : Act_), i < k → l[i]? = some q → q.bs.length ≤ 100 ∧ q.x.length ≤ 40) ∧ Sees 33 a [(0, .slice va l.length vc), (3, .int .i64 (k : Int))] ∧ Mem w w' []) (l.length) ?_ ?_
  · skip
    exact ⟨0, Nat.zero_le _, by omega, rfl, fun i q h => absurd h (by omega), S.sub _ rfl, M⟩
  clear S M a; intro m a wl
  rintro ⟨k, hk, hk2, rfl, hpre, S, M⟩
  refine wp_seq ?_
  refine nxD ?_
  refine st_go [1, 1] S rfl (by kernel_rfl) ?_; clear S a; intro a S
  refine st_y S rfl rfl rfl (y_lenR (E := 47) S rfl ((M.actsW hv).1) (by kernel_rfl)) ?_; clear S a; intro a S
  refine st_go [1, 1] S rfl (by kernel_rfl) ?_; clear S a; intro a S
  refine st_fi (t := 8) S rfl ?_ ?_
  · clear S; intro h8 S
    refine st_go [0, 0, 1] S rfl (by kernel_rfl) ?_; clear S a; intro a S
    refine nxC ?_
    refine st_condF S rfl ?_
    refine wp_exit ?_
    refine then_exit ?_
    refine then_exit ?_
    refine block_hit ?_
    refine nxE ?_
    refine st_go [1] S rfl (by kernel_rfl) ?_; clear S a; intro a S
    refine st_y S rfl rfl rfl (y_lenR (E := 47) S rfl ((M.actsW hv).1) (by kernel_rfl)) ?_; clear S a; intro a S
    refine st_go [1, 1] S rfl (by kernel_rfl) ?_; clear S a; intro a S
    refine nxC ?_
    refine wp_ret ?_
    refine end_one S rfl (res_tmp rfl) ?_
    refine ⟨_, rfl, M.below, fun h => ?_⟩
    simp only [decide_eq_false_iff_not] at h
    refine ⟨by omega, fun q hq => ?_⟩
    obtain ⟨i, hi⟩ := List.getElem?_of_mem hq
    have := (List.getElem?_eq_some_iff.1 hi).1
    exact hpre i q (by omega) hi
  clear S; intro h8 S
  refine st_go [1, 1, 1] S rfl (by kernel_rfl) ?_; clear S a; intro a S
  refine nxC ?_
  refine st_fi (t := 11) S rfl ?_ ?_
  · clear S; intro h11 S
    refine st_condF S rfl ?_
    refine wp_exit ?_
    refine then_exit ?_
    refine then_exit ?_
    refine block_hit ?_
    refine nxE ?_
    refine st_go [1] S rfl (by kernel_rfl) ?_; clear S a; intro a S
    refine st_y S rfl rfl rfl (y_lenR (E := 47) S rfl ((M.actsW hv).1) (by kernel_rfl)) ?_; clear S a; intro a S
    refine st_go [1, 1] S rfl (by kernel_rfl) ?_; clear S a; intro a S
    refine nxC ?_
    refine wp_ret ?_
    refine end_one S rfl (res_tmp rfl) ?_
    refine ⟨_, rfl, M.below, fun h => ?_⟩
    simp only [decide_eq_false_iff_not] at h
    refine ⟨by omega, fun q hq => ?_⟩
    obtain ⟨i, hi⟩ := List.getElem?_of_mem hq
    have := (List.getElem?_eq_some_iff.1 hi).1
    exact hpre i q (by omega) hi
  clear S; intro h11 S
  refine st_condT S rfl ?_
  refine wp_skip ?_
  refine then_normal ?_
  refine wp_seq ?_
  refine wp_block ?_
  refine wp_seq ?_
  obtain ⟨q, hq⟩ : ∃ q, l[k]? = some q := ⟨_, List.getElem?_eq_getElem (by omega)⟩
  obtain ⟨da, dc, wa, wc, hc, -, -⟩ := hv.2 k q hq
  refine wp_region_lit ?_
  refine st_go [1, 1] S rfl (by kernel_rfl) ?_; clear S a; intro a S
  refine st_y S rfl rfl rfl (y_indexR (e := 47) (sz := 54) S (by kernel_rfl) rfl ((M.actsW hv).1) rfl (by first | omega | (simp; done) | (simp; omega))) ?_; clear S a; intro a S
  try simp only [Int.toNat_natCast, Nat.mul_one, Nat.zero_add] at S
  refine st_go [2, 5] S rfl (by kernel_rfl) ?_; clear S a; intro a S
  refine st_y S rfl rfl rfl (y_load S (by kernel_rfl) rfl (((M.actsW hv).1.at_.row (i := k) hc rfl) 5 (by show 5 < 54; omega))) ?_; clear S a; intro a S
  refine st_y S rfl rfl rfl (y_lenS (E := 5) S rfl (by kernel_rfl)) ?_; clear S a; intro a S
  refine st_go [1, 1] S rfl (by kernel_rfl) ?_; clear S a; intro a S
  refine st_if (t := 22) S rfl ?_ ?_
  · clear S; intro h22 S
    refine st_go [0, 0, 0, 0, 0, 0, 1] S rfl (by kernel_rfl) ?_; clear S a; intro a S
    replace S := S.sub [(0, _), (3, _), (11, _), (29, _)] rfl
    refine nxC ?_
    refine st_condT S rfl ?_
    refine nxD ?_
    refine st_go [1] S rfl (by kernel_rfl) ?_; clear S a; intro a S
    refine nxC ?_
    refine wp_ret ?_
    refine block_ret ?_
    refine then_ret ?_
    refine then_ret ?_
    refine block_ret ?_
    refine then_ret ?_
    refine end_one S rfl (res_tmp rfl) ?_
    exact ⟨true, rfl, M.below, fun h => absurd h (by decide)⟩
  clear S; intro h22 S
  refine st_go [1, 1] S rfl (by kernel_rfl) ?_; clear S a; intro a S
  refine st_y S rfl rfl rfl (y_indexR (e := 47) (sz := 54) S (by kernel_rfl) rfl ((M.actsW hv).1) rfl (by first | omega | (simp; done) | (simp; omega))) ?_; clear S a; intro a S
  try simp only [Int.toNat_natCast, Nat.mul_one, Nat.zero_add] at S
  refine st_go [9] S rfl (by kernel_rfl) ?_; clear S a; intro a S
  refine st_y S rfl rfl rfl (y_loadAgg S (by kernel_rfl) rfl rfl (show CellsAt _ _ _ (msgW q.m (.slice wa q.x.length wc)) from ((M.actsW hv).1.at_.row (i := k) hc rfl).sub (i := 8) (k := 24))) ?_; clear S a; intro a S
  refine st_call (xs := [(Operand.tmp 27)]) S (enters_of Try.func17 (by decide) rfl) rfl rfl rfl (greatM_any q.m wa q.x.length wc _) ?_
  rintro _ w1 ⟨rfl, hK⟩; refine ⟨_, rfl, ?_⟩; clear S a; intro a S; replace M := M.grow hK
  refine st_go [1] S rfl (by kernel_rfl) ?_; clear S a; intro a S
  replace S := S.sub [(0, _), (3, _), (11, _), (29, _)] rfl
  refine nxC ?_
  refine st_if (t := 29) S rfl ?_ ?_
  · clear S; intro h29 S
    refine st_condT S rfl ?_
    refine nxD ?_
    refine st_go [1] S rfl (by kernel_rfl) ?_; clear S a; intro a S
    refine nxC ?_
    refine wp_ret ?_
    refine block_ret ?_
    refine then_ret ?_
    refine then_ret ?_
    refine block_ret ?_
    refine then_ret ?_
    refine end_one S rfl (res_tmp rfl) ?_
    exact ⟨true, rfl, M.below, fun h => absurd h (by decide)⟩
  clear S; intro h29 S
  refine st_condF S rfl ?_
  refine wp_skip ?_
  refine block_normal ?_
  refine nxF ?_
  refine st_go [1] S rfl (by kernel_rfl) ?_; clear S a; intro a S
  (first | refine st_y S rfl rfl rfl (y_addN S rfl rfl (by omega)) ?_ | refine st_y S rfl rfl rfl (y_int S rfl rfl rfl) ?_); clear S a; intro a S
  refine st_go [1] S rfl (by kernel_rfl) ?_; clear S a; intro a S
  refine nxC ?_
  refine ⟨l.length - (k + 1), by omega, k + 1, by omega, by omega, rfl, fun i q' hi hq' => ?_, S.sub _ rfl, M⟩
  rcases Nat.lt_or_ge i k with h | h
  · exact hpre i q' h hq'
  · obtain rfl : i = k := by omega
    rw [hq] at hq'; obtain rfl := Option.some.inj hq'; omega
set_option maxHeartbeats 1000000 in
theorem again_any {wo w : World} {A : List Ent} {bU : Nat} {ml : Mes Int} {c9 : Nat} {f : Int → Int} (q : Act_) (da wa : Option Addr) (dn dc wn wc : Nat) (M : Mem wo w (mapX bU ml c9 :: A)) (hG : Good eN ml c9) (hC : CV ml f) (hb : 0 ≤ f q.stamp ∧ f q.stamp ≤ 1000) :
    Calls Try.prog 8 #[.map (some bU), .agg (q.cellsL (.slice da dn dc) (.slice wa wn wc)).toArray] w fun e w' => ∃ (r : Bool) (ml' : Mes Int) (c' : Nat) (f' : Int → Int), e = .returned (.bool r) ∧ Good eN ml' c' ∧ CV ml' f' ∧ Mem wo w' (mapX bU ml' c' :: A) ∧
      (((q.do_ ≠ 0 ∨ q.c.kind ≠ 0 ∨ q.c.stamp ≠ 0) ∧ r = false ∧ f' = f) ∨ ((q.do_ = 0 ∧ q.c.kind = 0 ∧ q.c.stamp = 0) ∧ (f' = fun z => if z = q.stamp then f q.stamp + 1 else f z) ∧ r = decide (1 < f q.stamp + 1))) := by
  refine calls_enter Try.func8 rfl 30 rfl rfl ?_; intro a S
  refine wp_seq ?_
  skip
  refine wp_region_lit ?_
  refine st_box S M rfl rfl rfl #[_, _, _, _, _, _, _, _, _, _, _, _, _, _, _, _, _, _, _, _, _, _, _, _, _, _, _, _, _, _, _, _, _, _, _, _, _, _, _, _, _, _, _, _, _, _, _, _, _, _, _, _, _, _] rfl ?_; clear S M a; intro a w1 bX S M hB
  refine st_go [1] S rfl (by kernel_rfl) ?_; clear S a; intro a S
  refine nxC ?_
  refine wp_seq ?_
  refine nxD ?_
  refine st_run [1, 1, 1, 1] S M rfl (by kernel_rfl) ?_; clear S a; intro a S
  refine st_if (t := 8) S rfl ?_ ?_
  · clear S; intro h8 S
    refine st_go [0, 0, 0, 0, 1, 1, 0, 0, 0, 0, 1] S rfl (by kernel_rfl) ?_; clear S a; intro a S
    replace S := S.sub [(0, _), (1, _), (3, _), (4, _), (19, _)] rfl
    refine nxC ?_
    refine st_condT S rfl ?_
    refine nxD ?_
    refine st_go [1] S rfl (by kernel_rfl) ?_; clear S a; intro a S
    refine nxC ?_
    refine wp_ret ?_
    refine then_ret ?_
    refine end_one S rfl (res_tmp rfl) ?_
    exact ⟨false, ml, c9, f, rfl, hG, hC, M.drop 0, .inl ⟨by omega, rfl, rfl⟩⟩
  clear S; intro h8 S
  refine st_run [2, 1, 1, 1, 1, 1] S M rfl (by kernel_rfl) ?_; clear S a; intro a S
  refine st_if (t := 14) S rfl ?_ ?_
  · clear S; intro h14 S
    refine st_go [0, 0, 0, 0, 1] S rfl (by kernel_rfl) ?_; clear S a; intro a S
    replace S := S.sub [(0, _), (1, _), (3, _), (4, _), (19, _)] rfl
    refine nxC ?_
    refine st_condT S rfl ?_
    refine nxD ?_
    refine st_go [1] S rfl (by kernel_rfl) ?_; clear S a; intro a S
    refine nxC ?_
    refine wp_ret ?_
    refine then_ret ?_
    refine end_one S rfl (res_tmp rfl) ?_
    exact ⟨false, ml, c9, f, rfl, hG, hC, M.drop 0, .inl ⟨by omega, rfl, rfl⟩⟩
  clear S; intro h14 S
  refine st_run [2, 6, 1, 1, 1] S M rfl (by kernel_rfl) ?_; clear S a; intro a S
  replace S := S.sub [(0, _), (1, _), (3, _), (4, _), (19, _)] rfl
  refine nxC ?_
  refine st_if (t := 19) S rfl ?_ ?_
  · clear S; intro h19 S
    refine st_condT S rfl ?_
    refine nxD ?_
    refine st_go [1] S rfl (by kernel_rfl) ?_; clear S a; intro a S
    refine nxC ?_
    refine wp_ret ?_
    refine then_ret ?_
    refine end_one S rfl (res_tmp rfl) ?_
    exact ⟨false, ml, c9, f, rfl, hG, hC, M.drop 0, .inl ⟨by omega, rfl, rfl⟩⟩
  clear S; intro h19 S
  refine st_condF S rfl ?_
  refine wp_skip ?_
  refine nxE ?_
  refine st_run [1, 8, 1] S M rfl (by kernel_rfl) ?_; clear S a; intro a S
  refine st_y S rfl rfl rfl (y_lookupM (pos := 1) S M (keyN) (hG) Try.underlying34 (zero_i64) rfl rfl rfl) ?_; clear S a; intro a S
  simp only [Bool.false_eq_true, if_false, hC q.stamp] at S
  (first | refine st_y S rfl rfl rfl (y_addN S rfl rfl (by omega)) ?_ | refine st_y S rfl rfl rfl (y_int S rfl rfl rfl) ?_); clear S a; intro a S
  refine st_updateM (pos := 1) S M (keyN) (hG) Try.underlying34 rfl rfl rfl rfl rfl ?_; clear M; intro w2 M
  simp only [List.set_cons_zero, List.set_cons_succ] at M
  refine nxC ?_
  refine wp_seq ?_
  have hG2 := hG.put q.stamp (.int .i64 (f q.stamp + 1))
  have hC2 := hC.put (c := c9) q.stamp (f q.stamp + 1)
  refine wp_region_lit ?_
  refine st_run [1, 8, 1] S M rfl (by kernel_rfl) ?_; clear S a; intro a S
  refine st_y S rfl rfl rfl (y_lookupM (pos := 1) S M (keyN) (hG2) Try.underlying34 (zero_i64) rfl rfl rfl) ?_; clear S a; intro a S
  simp only [Bool.false_eq_true, if_false, hC2 q.stamp, if_true] at S
  refine st_y S rfl rfl rfl (y_int S rfl rfl rfl) ?_; clear S a; intro a S
  refine st_go [1] S rfl (by kernel_rfl) ?_; clear S a; intro a S
  refine nxC ?_
  refine wp_ret ?_
  refine end_one S rfl (res_tmp rfl) ?_
  exact ⟨_, _, _, _, rfl, hG2, hC2, M.drop 0, .inr ⟨by omega, rfl, rfl⟩⟩
end Go.Proofs.Ytniijiipkfhjgaa

namespace Go.Proofs.Ytniijiipkfhjgaa
open Go.RowKit Go.Sort
theorem tmod_bd (n : Int) {k : Int} (h : 0 < k) : -k < n.tmod k ∧ n.tmod k < k := by
  rcases Int.le_total 0 n with h0 | h0
  · have h1 := Int.tmod_nonneg k h0
    have h2 := Int.tmod_lt_of_pos n h
    omega
  · have h1 := Int.tmod_nonneg k (show 0 ≤ -n by omega)
    have h2 := Int.tmod_lt_of_pos (-n) h
    rw [Int.neg_tmod] at h1 h2
    omega
set_option maxHeartbeats 2000000 in
theorem waited_any (s : Ses) (va : Option Addr) (vc : Nat) (ov : Option Addr) (on oc : Nat) (q : Act_) (da wa : Option Addr) (dn dc wn wc : Nat) (w : World) (hv : Rd 0 w.heap.size w 37 (.slice va s.l.length vc) s.l.length (fm Ope.cellsL s.l)) (hl : s.l.length ≤ 500) :
    Calls Try.prog 14 #[.agg #[.slice va s.l.length vc, .int .i64 s.last, .int .i64 s.inc, .slice ov on oc], .agg (q.cellsL (.slice da dn dc) (.slice wa wn wc)).toArray] w fun e w' => ∃ m, e = .returned (.agg (msgL m).toArray) ∧ Below w.heap.size w w' := by
  have M := Mem.start w
  refine calls_enter Try.func14 rfl 56 rfl rfl ?_; intro a S
  refine nxD ?_
  refine st_box S M rfl rfl rfl #[_, _, _, _] rfl ?_; clear S M a; intro a w1 bS0 S M hB
  refine st_box S M rfl rfl rfl #[_, _, _, _, _, _, _, _, _, _, _, _, _, _, _, _, _, _, _, _, _, _, _, _, _, _, _, _, _, _, _, _, _, _, _, _, _, _, _, _, _, _, _, _, _, _, _, _, _, _, _, _, _, _] rfl ?_; clear S M a; intro a w2 bQ S M hB
  refine st_alloc S M rfl rfl #[.int .i8 0, .int .i64 0, .int .i64 0, .int .i64 0, .int .i64 0, .int .i64 0, .int .i64 0, .int .i64 0, .int .i64 0, .int .i8 0, .int .i64 0, .int .u8 0, .int .u8 0, .int .u8 0, .int .u8 0, .int .u8 0, .int .u8 0, .int .u8 0, .int .u8 0, .int .i64 0, .bool false, .int .i64 0, .int .i64 0, .slice none 0 0] (by kernel_rfl) ?_; clear S M a; intro a w3 bR S M hB
  refine nxC ?_
  refine wp_seq ?_
  refine nxD ?_
  refine st_run [1, 3] S M rfl (by kernel_rfl) ?_; clear S a; intro a S
  refine st_y S rfl rfl rfl (y_lenS (E := 65) S rfl (by kernel_rfl)) ?_; clear S a; intro a S
  refine st_go [1] S rfl (by kernel_rfl) ?_; clear S a; intro a S
  refine nxC ?_
  refine st_if (t := 10) S rfl ?_ ?_
  · clear S; intro h10 S
    refine st_condT S rfl ?_
    refine nxD ?_
    refine st_y S rfl rfl rfl (y_build (ps := [(0, (Operand.const (Value.int IntKind.i8 11))), (1, (Operand.const (Value.int IntKind.i64 1))), (3, (Operand.const (Value.int IntKind.i64 1)))]) (pl := [(0, 1), (1, 1), (2, 1), (3, 1), (4, 1), (5, 3), (8, 1), (9, 1), (10, 1), (11, 8), (19, 1), (20, 1), (21, 1), (22, 1), (23, 1)]) (z := [.int .i8 0, .int .i64 0, .int .i64 0, .int .i64 0, .int .i64 0, .int .i64 0, .int .i64 0, .int .i64 0, .int .i64 0, .int .i8 0, .int .i64 0, .int .u8 0, .int .u8 0, .int .u8 0, .int .u8 0, .int .u8 0, .int .u8 0, .int .u8 0, .int .u8 0, .int .i64 0, .bool false, .int .i64 0, .int .i64 0, .slice none 0 0]) (cs := [_, _, _, _, _, _, _, _, _, _, _, _, _, _, _, _, _, _, _, _, _, _, _, _]) S (by kernel_rfl) rfl (rfl)) ?_; clear S a; intro a S
    refine st_store (sz := 24) (us := [_, _, _, _, _, _, _, _, _, _, _, _, _, _, _, _, _, _, _, _, _, _, _, _]) S M 0 rfl (by kernel_rfl) rfl rfl rfl rfl rfl rfl (by first | decide | (simp; done) | (simp; omega)) ?_; clear M; intro w4 M
    simp only [putL, List.set_cons_zero, List.set_cons_succ, Nat.reduceAdd] at M
    refine nxC ?_
    refine wp_ret ?_
    refine then_ret ?_
    refine end_one S rfl (res_agg (cs := [_, _, _, _, _, _, _, _, _, _, _, _, _, _, _, _, _, _, _, _, _, _, _, _]) (by kernel_rfl) rfl rfl (M.cellsAt (k := 24) 0 rfl rfl)) ?_
    exact ⟨{ zMg with kind := 11, frm := 1, inc := 1 }, rfl, M.below⟩
  clear S; intro h10 S
  refine st_condF S rfl ?_
  refine wp_skip ?_
  refine then_normal ?_
  refine wp_seq ?_
  have hlp : (0 : Int) < (s.l.length : Int) := by omega
  have hb1 := tmod_bd q.n hlp
  obtain ⟨i, hi, hil⟩ : ∃ i : Nat, (q.n.tmod (s.l.length : Int) + (s.l.length : Int)) % (s.l.length : Int) = (i : Int) ∧ i < s.l.length := by
    have h1 := Int.emod_nonneg (q.n.tmod (s.l.length : Int) + (s.l.length : Int)) (show (s.l.length : Int) ≠ 0 by omega)
    have h2 := Int.emod_lt_of_pos (q.n.tmod (s.l.length : Int) + (s.l.length : Int)) hlp
    exact ⟨((q.n.tmod (s.l.length : Int) + (s.l.length : Int)) % (s.l.length : Int)).toNat, by omega, by omega⟩
  obtain ⟨o, ho⟩ : ∃ o, s.l[i]? = some o := ⟨_, List.getElem?_eq_getElem hil⟩
  refine wp_regionK [19] #[false, false, false, false, false, false, false, false, false, false, false, false, false, false, false, false, false, false, false, false] rfl M (by kernel_rfl) ?_; clear M; intro w5 M
  refine k_pure (listed' := #[true, false, false, false, false, false, false, false, false, false, false, false, false, false, false, false, false, false, false, false]) 0 S rfl rfl rfl rfl (by kernel_rfl) rfl (fun _ d _ _ _ h => by cases d <;> exact h) (fun w => y_fieldAddr (k := 0) S (by kernel_rfl) rfl) ?_; clear S a; intro a S
  refine k_read (listed' := #[true, true, false, false, false, false, false, false, false, false, false, false, false, false, false, false, false, false, false, false]) 1 S rfl rfl rfl rfl (by kernel_rfl) rfl (fun _ d _ _ _ h => by cases d <;> exact h) (fun w hW => have M := M.grow hW; y_load S (by kernel_rfl) rfl (M.cell 2 rfl rfl)) ?_; clear S a; intro a S
  refine k_pure (listed' := #[true, true, true, false, false, false, false, false, false, false, false, false, false, false, false, false, false, false, false, false]) 2 S rfl rfl rfl rfl (by kernel_rfl) rfl (fun _ d _ _ _ h => by cases d <;> exact h) (fun w => y_fieldAddr (k := 45) S (by kernel_rfl) rfl) ?_; clear S a; intro a S
  refine k_read (listed' := #[true, true, true, true, false, false, false, false, false, false, false, false, false, false, false, false, false, false, false, false]) 3 S rfl rfl rfl rfl (by kernel_rfl) rfl (fun _ d _ _ _ h => by cases d <;> exact h) (fun w hW => have M := M.grow hW; y_load S (by kernel_rfl) rfl (M.cell 1 rfl rfl)) ?_; clear S a; intro a S
  refine k_pure (listed' := #[true, true, true, true, true, false, false, false, false, false, false, false, false, false, false, false, false, false, false, false]) 4 S rfl rfl rfl rfl (by kernel_rfl) rfl (fun _ d _ _ _ h => by cases d <;> exact h) (fun w => y_fieldAddr (k := 0) S (by kernel_rfl) rfl) ?_; clear S a; intro a S
  refine k_read (listed' := #[true, true, true, true, true, true, false, false, false, false, false, false, false, false, false, false, false, false, false, false]) 5 S rfl rfl rfl rfl (by kernel_rfl) rfl (fun _ d _ _ _ h => by cases d <;> exact h) (fun w hW => have M := M.grow hW; y_load S (by kernel_rfl) rfl (M.cell 2 rfl rfl)) ?_; clear S a; intro a S
  refine k_pure (listed' := #[true, true, true, true, true, true, true, false, false, false, false, false, false, false, false, false, false, false, false, false]) 6 S rfl rfl rfl rfl (by kernel_rfl) rfl (fun _ d _ _ _ h => by cases d <;> exact h) (fun w => y_lenS (E := 65) S rfl (by kernel_rfl)) ?_; clear S a; intro a S
  (first | refine k_pure (listed' := #[true, true, true, true, true, true, true, true, false, false, false, false, false, false, false, false, false, false, false, false]) 7 S rfl rfl rfl rfl (by kernel_rfl) rfl (fun _ d _ _ _ h => by cases d <;> exact h) (fun w => y_remN S rfl rfl (by omega)) ?_ | refine k_pure (listed' := #[true, true, true, true, true, true, true, true, false, false, false, false, false, false, false, false, false, false, false, false]) 7 S rfl rfl rfl rfl (by kernel_rfl) rfl (fun _ d _ _ _ h => by cases d <;> exact h) (fun w => y_remZ S rfl rfl (by omega)) ?_); clear S a; intro a S
  refine k_pure (listed' := #[true, true, true, true, true, true, true, true, true, false, false, false, false, false, false, false, false, false, false, false]) 8 S rfl rfl rfl rfl (by kernel_rfl) rfl (fun _ d _ _ _ h => by cases d <;> exact h) (fun w => y_fieldAddr (k := 0) S (by kernel_rfl) rfl) ?_; clear S a; intro a S
  refine k_read (listed' := #[true, true, true, true, true, true, true, true, true, true, false, false, false, false, false, false, false, false, false, false]) 9 S rfl rfl rfl rfl (by kernel_rfl) rfl (fun _ d _ _ _ h => by cases d <;> exact h) (fun w hW => have M := M.grow hW; y_load S (by kernel_rfl) rfl (M.cell 2 rfl rfl)) ?_; clear S a; intro a S
  refine k_pure (listed' := #[true, true, true, true, true, true, true, true, true, true, true, false, false, false, false, false, false, false, false, false]) 10 S rfl rfl rfl rfl (by kernel_rfl) rfl (fun _ d _ _ _ h => by cases d <;> exact h) (fun w => y_lenS (E := 65) S rfl (by kernel_rfl)) ?_; clear S a; intro a S
  (first | refine k_pure (listed' := #[true, true, true, true, true, true, true, true, true, true, true, true, false, false, false, false, false, false, false, false]) 11 S rfl rfl rfl rfl (by kernel_rfl) rfl (fun _ d _ _ _ h => by cases d <;> exact h) (fun w => y_addN S rfl rfl (by omega)) ?_ | refine k_pure (listed' := #[true, true, true, true, true, true, true, true, true, true, true, true, false, false, false, false, false, false, false, false]) 11 S rfl rfl rfl rfl (by kernel_rfl) rfl (fun _ d _ _ _ h => by cases d <;> exact h) (fun w => y_int S rfl rfl rfl) ?_); clear S a; intro a S
  refine k_pure (listed' := #[true, true, true, true, true, true, true, true, true, true, true, true, true, false, false, false, false, false, false, false]) 12 S rfl rfl rfl rfl (by kernel_rfl) rfl (fun _ d _ _ _ h => by cases d <;> exact h) (fun w => y_fieldAddr (k := 0) S (by kernel_rfl) rfl) ?_; clear S a; intro a S
  refine k_read (listed' := #[true, true, true, true, true, true, true, true, true, true, true, true, true, true, false, false, false, false, false, false]) 13 S rfl rfl rfl rfl (by kernel_rfl) rfl (fun _ d _ _ _ h => by cases d <;> exact h) (fun w hW => have M := M.grow hW; y_load S (by kernel_rfl) rfl (M.cell 2 rfl rfl)) ?_; clear S a; intro a S
  refine k_pure (listed' := #[true, true, true, true, true, true, true, true, true, true, true, true, true, true, true, false, false, false, false, false]) 14 S rfl rfl rfl rfl (by kernel_rfl) rfl (fun _ d _ _ _ h => by cases d <;> exact h) (fun w => y_lenS (E := 65) S rfl (by kernel_rfl)) ?_; clear S a; intro a S
  (first | refine k_pure (listed' := #[true, true, true, true, true, true, true, true, true, true, true, true, true, true, true, true, false, false, false, false]) 15 S rfl rfl rfl rfl (by kernel_rfl) rfl (fun _ d _ _ _ h => by cases d <;> exact h) (fun w => y_remN S rfl rfl (by omega)) ?_ | refine k_pure (listed' := #[true, true, true, true, true, true, true, true, true, true, true, true, true, true, true, true, false, false, false, false]) 15 S rfl rfl rfl rfl (by kernel_rfl) rfl (fun _ d _ _ _ h => by cases d <;> exact h) (fun w => y_remZ S rfl rfl (by omega)) ?_); clear S a; intro a S
  rw [hi] at S
  refine k_read (listed' := #[true, true, true, true, true, true, true, true, true, true, true, true, true, true, true, true, true, false, false, false]) 16 S rfl rfl rfl rfl (by kernel_rfl) rfl (fun _ d _ _ _ h => by cases d <;> exact h) (fun w hW => have M := M.grow hW; y_indexR (e := 65) (sz := 37) S (by kernel_rfl) rfl (M.arg hv) rfl (by first | omega | (simp; done) | (simp; omega))) ?_; clear S a; intro a S
  try simp only [Int.toNat_natCast, Nat.mul_one, Nat.zero_add] at S
  refine k_read (listed' := #[true, true, true, true, true, true, true, true, true, true, true, true, true, true, true, true, true, true, false, false]) 17 S rfl rfl rfl rfl (by kernel_rfl) rfl (fun _ d _ _ _ h => by cases d <;> exact h) (fun w hW => have M := M.grow hW; y_loadAgg S (by kernel_rfl) rfl rfl ((M.arg hv).at_.row (i := i) (fm_get len_ope ho) rfl)) ?_; clear S a; intro a S
  refine k_one (listed' := #[true, true, true, true, true, true, true, true, true, true, true, true, true, true, true, true, true, true, true, false]) 18 rfl (by kernel_rfl) rfl ?_
  refine st_alloc S M rfl rfl #[.int .i64 0, .int .i64 0, .int .i64 0, .int .i64 0, .int .i64 0, .int .i8 0, .int .i64 0, .int .i64 0, .int .i64 0, .int .i64 0, .int .i64 0, .int .i64 0, .int .i64 0, .int .i8 0, .int .i64 0, .int .i64 0, .int .i64 0, .int .i64 0, .int .i64 0, .int .i64 0, .int .i64 0, .int .i64 0, .int .i8 0, .int .i64 0, .int .u8 0, .int .u8 0, .int .u8 0, .int .u8 0, .int .u8 0, .int .u8 0, .int .u8 0, .int .u8 0, .int .i64 0, .bool false, .int .i64 0, .int .i64 0, .slice none 0 0] (by kernel_rfl) ?_; clear S M a; intro a w6 b1 S M hB
  refine wpList_nil ?_; refine then_normal ?_; refine ⟨fun _ => hB, ?_⟩
  refine k_one (listed' := #[true, true, true, true, true, true, true, true, true, true, true, true, true, true, true, true, true, true, true, true]) 19 rfl (by kernel_rfl) rfl ?_
  refine st_store (sz := 37) (us := [_, _, _, _, _, _, _, _, _, _, _, _, _, _, _, _, _, _, _, _, _, _, _, _, _, _, _, _, _, _, _, _, _, _, _, _, _]) S M 0 rfl (by kernel_rfl) rfl rfl rfl rfl rfl rfl (by first | decide | (simp; done) | (simp; omega)) ?_; clear M; intro w7 M
  simp only [putL, List.set_cons_zero, List.set_cons_succ, Nat.reduceAdd] at M
  refine wpList_nil ?_; refine then_normal ?_; refine ⟨fun h => absurd h (by decide), ?_⟩
  refine k_end (by kernel_rfl) ?_
  replace S := S.sub [(0, _), (1, _), (2, _), (3, _), (4, _), (10, _), (5, _)] rfl
  refine nxE ?_
  refine st_run [13, 1] S M rfl (by kernel_rfl) ?_; clear S a; intro a S
  refine st_y S rfl rfl rfl (y_max S rfl rfl) ?_; clear S a; intro a S
  refine st_go [3] S rfl (by kernel_rfl) ?_; clear S a; intro a S
  refine st_y S rfl rfl rfl (y_loadAgg (cs := [_, _, _]) S (by kernel_rfl) rfl rfl (M.cellsAt (k := 3) 0 rfl rfl)) ?_; clear S a; intro a S
  refine st_run [14, 9, 1] S M rfl (by kernel_rfl) ?_; clear S a; intro a S
  refine st_y S rfl rfl rfl (y_max S rfl rfl) ?_; clear S a; intro a S
  refine st_run [36, 3] S M rfl (by kernel_rfl) ?_; clear S a; intro a S
  refine st_y S rfl rfl rfl (y_build (ps := [(0, (Operand.const (Value.int IntKind.i8 3))), (1, (Operand.tmp 32)), (3, (Operand.const (Value.int IntKind.i64 1))), (4, (Operand.const (Value.int IntKind.i64 1))), (5, (Operand.tmp 34)), (6, (Operand.tmp 38)), (10, (Operand.tmp 40))]) (pl := [(0, 1), (1, 1), (2, 1), (3, 1), (4, 1), (5, 3), (8, 1), (9, 1), (10, 1), (11, 8), (19, 1), (20, 1), (21, 1), (22, 1), (23, 1)]) (z := [.int .i8 0, .int .i64 0, .int .i64 0, .int .i64 0, .int .i64 0, .int .i64 0, .int .i64 0, .int .i64 0, .int .i64 0, .int .i8 0, .int .i64 0, .int .u8 0, .int .u8 0, .int .u8 0, .int .u8 0, .int .u8 0, .int .u8 0, .int .u8 0, .int .u8 0, .int .i64 0, .bool false, .int .i64 0, .int .i64 0, .slice none 0 0]) (cs := [_, _, _, _, _, _, _, _, _, _, _, _, _, _, _, _, _, _, _, _, _, _, _, _]) S (by kernel_rfl) rfl (rfl)) ?_; clear S a; intro a S
  refine st_alloc S M rfl rfl #[.int .i8 0, .int .i64 0, .int .i64 0, .int .i64 0, .int .i64 0, .int .i64 0, .int .i64 0, .int .i64 0, .int .i64 0, .int .i8 0, .int .i64 0, .int .u8 0, .int .u8 0, .int .u8 0, .int .u8 0, .int .u8 0, .int .u8 0, .int .u8 0, .int .u8 0, .int .i64 0, .bool false, .int .i64 0, .int .i64 0, .slice none 0 0] (by kernel_rfl) ?_; clear S M a; intro a w8 b2 S M hB
  refine st_store (sz := 24) (us := [_, _, _, _, _, _, _, _, _, _, _, _, _, _, _, _, _, _, _, _, _, _, _, _]) S M 0 rfl (by kernel_rfl) rfl rfl rfl rfl rfl rfl (by first | decide | (simp; done) | (simp; omega)) ?_; clear M; intro w9 M
  simp only [putL, List.set_cons_zero, List.set_cons_succ, Nat.reduceAdd] at M
  refine nxC ?_
  refine wp_seq ?_
  refine nxD ?_
  refine st_run [36, 4, 1] S M rfl (by kernel_rfl) ?_; clear S a; intro a S
  replace S := S.sub [(0, _), (1, _), (2, _), (3, _), (4, _), (10, _), (5, _), (6, _), (44, _)] rfl
  refine nxC ?_
  refine st_fi (t := 44) S rfl ?_ ?_
  · clear S; intro h44 S
    refine st_condF S rfl ?_
    refine wp_skip ?_
    refine then_normal ?_
    refine wp_seq ?_
    refine nxD ?_
    refine st_run [6, 2, 1] S M rfl (by kernel_rfl) ?_; clear S a; intro a S
    refine nxC ?_
    refine st_fi (t := 50) S rfl ?_ ?_
    · clear S; intro h50 S
      refine st_condF S rfl ?_
      refine wp_skip ?_
      refine nxE ?_
      refine st_y S rfl rfl rfl (y_loadAgg (cs := [_, _, _, _, _, _, _, _, _, _, _, _, _, _, _, _, _, _, _, _, _, _, _, _]) S (by kernel_rfl) rfl rfl (M.cellsAt (k := 24) 0 rfl rfl)) ?_; clear S a; intro a S
      refine st_store (sz := 24) (us := [_, _, _, _, _, _, _, _, _, _, _, _, _, _, _, _, _, _, _, _, _, _, _, _]) S M 2 rfl (by kernel_rfl) rfl rfl rfl rfl rfl rfl (by first | decide | (simp; done) | (simp; omega)) ?_; clear M; intro w20 M
      simp only [putL, List.set_cons_zero, List.set_cons_succ, Nat.reduceAdd] at M
      refine nxC ?_
      refine wp_ret ?_
      refine end_one S rfl (res_agg (cs := [_, _, _, _, _, _, _, _, _, _, _, _, _, _, _, _, _, _, _, _, _, _, _, _]) (by kernel_rfl) rfl rfl (M.cellsAt (k := 24) 2 rfl rfl)) ?_
      first
        | exact ⟨⟨3, max o.at_ 1, 0, 1, 1, o.nm, max o.ex.n 1, 0, 0, zV8, q.e, false, 0, 0⟩, rfl, M.below⟩
        | exact ⟨⟨3, max o.at_ 1, 0, 1, 1, o.nm, max o.ex.n 1, 0, 0, q.val, q.e, false, 0, 0⟩, rfl, M.below⟩
        | exact ⟨⟨10, max o.at_ 1, 0, 1, 1, o.nm, 0, 0, 0, zV8, q.e, false, 0, 0⟩, rfl, M.below⟩
    clear S; intro h50 S
    refine st_condT S rfl ?_
    refine nxD ?_
    refine st_go [1] S rfl (by kernel_rfl) ?_; clear S a; intro a S
    refine st_store (sz := 1) (us := [_]) S M 0 rfl (by kernel_rfl) rfl rfl rfl rfl rfl rfl (by first | decide | (simp; done) | (simp; omega)) ?_; clear M; intro w16 M
    simp only [putL, List.set_cons_zero, List.set_cons_succ, Nat.reduceAdd] at M
    refine nxA ?_
    refine st_go [9] S rfl (by kernel_rfl) ?_; clear S a; intro a S
    refine st_store (sz := 1) (us := [_]) S M 0 rfl (by kernel_rfl) rfl rfl rfl rfl rfl rfl (by first | decide | (simp; done) | (simp; omega)) ?_; clear M; intro w17 M
    simp only [putL, List.set_cons_zero, List.set_cons_succ, Nat.reduceAdd] at M
    refine nxB ?_
    refine st_y S rfl rfl rfl (y_buildA (ps := []) (sz := 1) (z := [.int .u8 0, .int .u8 0, .int .u8 0, .int .u8 0, .int .u8 0, .int .u8 0, .int .u8 0, .int .u8 0]) (cs := [_, _, _, _, _, _, _, _]) S (by kernel_rfl) rfl rfl) ?_; clear S a; intro a S
    refine st_go [12] S rfl (by kernel_rfl) ?_; clear S a; intro a S
    refine st_store (sz := 8) (us := [_, _, _, _, _, _, _, _]) S M 0 rfl (by kernel_rfl) rfl rfl rfl rfl rfl rfl (by first | decide | (simp; done) | (simp; omega)) ?_; clear M; intro w18 M
    simp only [putL, List.set_cons_zero, List.set_cons_succ, Nat.reduceAdd] at M
    refine nxA ?_
    refine st_y S rfl rfl rfl (y_loadAgg (cs := [_, _, _, _, _, _, _, _, _, _, _, _, _, _, _, _, _, _, _, _, _, _, _, _]) S (by kernel_rfl) rfl rfl (M.cellsAt (k := 24) 0 rfl rfl)) ?_; clear S a; intro a S
    refine st_store (sz := 24) (us := [_, _, _, _, _, _, _, _, _, _, _, _, _, _, _, _, _, _, _, _, _, _, _, _]) S M 2 rfl (by kernel_rfl) rfl rfl rfl rfl rfl rfl (by first | decide | (simp; done) | (simp; omega)) ?_; clear M; intro w19 M
    simp only [putL, List.set_cons_zero, List.set_cons_succ, Nat.reduceAdd] at M
    refine nxC ?_
    refine wp_ret ?_
    refine end_one S rfl (res_agg (cs := [_, _, _, _, _, _, _, _, _, _, _, _, _, _, _, _, _, _, _, _, _, _, _, _]) (by kernel_rfl) rfl rfl (M.cellsAt (k := 24) 2 rfl rfl)) ?_
    first
      | exact ⟨⟨3, max o.at_ 1, 0, 1, 1, o.nm, max o.ex.n 1, 0, 0, zV8, q.e, false, 0, 0⟩, rfl, M.below⟩
      | exact ⟨⟨3, max o.at_ 1, 0, 1, 1, o.nm, max o.ex.n 1, 0, 0, q.val, q.e, false, 0, 0⟩, rfl, M.below⟩
      | exact ⟨⟨10, max o.at_ 1, 0, 1, 1, o.nm, 0, 0, 0, zV8, q.e, false, 0, 0⟩, rfl, M.below⟩
  clear S; intro h44 S
  refine st_condT S rfl ?_
  refine wp_region_lit ?_
  refine st_go [47] S rfl (by kernel_rfl) ?_; clear S a; intro a S
  refine st_y S rfl rfl rfl (y_loadAgg (cs := [_, _, _, _, _, _, _, _]) S (by kernel_rfl) rfl rfl (M.cellsAt (k := 8) 3 rfl rfl)) ?_; clear S a; intro a S
  refine st_go [12] S rfl (by kernel_rfl) ?_; clear S a; intro a S
  refine st_store (sz := 8) (us := [_, _, _, _, _, _, _, _]) S M 0 rfl (by kernel_rfl) rfl rfl rfl rfl rfl rfl (by first | decide | (simp; done) | (simp; omega)) ?_; clear M; intro w10 M
  simp only [putL, List.set_cons_zero, List.set_cons_succ, Nat.reduceAdd] at M
  refine nxC ?_
  refine wp_seq ?_
  refine nxD ?_
  refine st_run [6, 2, 1] S M rfl (by kernel_rfl) ?_; clear S a; intro a S
  refine nxC ?_
  refine st_fi (t := 50) S rfl ?_ ?_
  · clear S; intro h50 S
    refine st_condF S rfl ?_
    refine wp_skip ?_
    refine nxE ?_
    refine st_y S rfl rfl rfl (y_loadAgg (cs := [_, _, _, _, _, _, _, _, _, _, _, _, _, _, _, _, _, _, _, _, _, _, _, _]) S (by kernel_rfl) rfl rfl (M.cellsAt (k := 24) 0 rfl rfl)) ?_; clear S a; intro a S
    refine st_store (sz := 24) (us := [_, _, _, _, _, _, _, _, _, _, _, _, _, _, _, _, _, _, _, _, _, _, _, _]) S M 2 rfl (by kernel_rfl) rfl rfl rfl rfl rfl rfl (by first | decide | (simp; done) | (simp; omega)) ?_; clear M; intro w15 M
    simp only [putL, List.set_cons_zero, List.set_cons_succ, Nat.reduceAdd] at M
    refine nxC ?_
    refine wp_ret ?_
    refine end_one S rfl (res_agg (cs := [_, _, _, _, _, _, _, _, _, _, _, _, _, _, _, _, _, _, _, _, _, _, _, _]) (by kernel_rfl) rfl rfl (M.cellsAt (k := 24) 2 rfl rfl)) ?_
    first
      | exact ⟨⟨3, max o.at_ 1, 0, 1, 1, o.nm, max o.ex.n 1, 0, 0, zV8, q.e, false, 0, 0⟩, rfl, M.below⟩
      | exact ⟨⟨3, max o.at_ 1, 0, 1, 1, o.nm, max o.ex.n 1, 0, 0, q.val, q.e, false, 0, 0⟩, rfl, M.below⟩
      | exact ⟨⟨10, max o.at_ 1, 0, 1, 1, o.nm, 0, 0, 0, zV8, q.e, false, 0, 0⟩, rfl, M.below⟩
  clear S; intro h50 S
  refine st_condT S rfl ?_
  refine nxD ?_
  refine st_go [1] S rfl (by kernel_rfl) ?_; clear S a; intro a S
  refine st_store (sz := 1) (us := [_]) S M 0 rfl (by kernel_rfl) rfl rfl rfl rfl rfl rfl (by first | decide | (simp; done) | (simp; omega)) ?_; clear M; intro w11 M
  simp only [putL, List.set_cons_zero, List.set_cons_succ, Nat.reduceAdd] at M
  refine nxA ?_
  refine st_go [9] S rfl (by kernel_rfl) ?_; clear S a; intro a S
  refine st_store (sz := 1) (us := [_]) S M 0 rfl (by kernel_rfl) rfl rfl rfl rfl rfl rfl (by first | decide | (simp; done) | (simp; omega)) ?_; clear M; intro w12 M
  simp only [putL, List.set_cons_zero, List.set_cons_succ, Nat.reduceAdd] at M
  refine nxB ?_
  refine st_y S rfl rfl rfl (y_buildA (ps := []) (sz := 1) (z := [.int .u8 0, .int .u8 0, .int .u8 0, .int .u8 0, .int .u8 0, .int .u8 0, .int .u8 0, .int .u8 0]) (cs := [_, _, _, _, _, _, _, _]) S (by kernel_rfl) rfl rfl) ?_; clear S a; intro a S
  refine st_go [12] S rfl (by kernel_rfl) ?_; clear S a; intro a S
  refine st_store (sz := 8) (us := [_, _, _, _, _, _, _, _]) S M 0 rfl (by kernel_rfl) rfl rfl rfl rfl rfl rfl (by first | decide | (simp; done) | (simp; omega)) ?_; clear M; intro w13 M
  simp only [putL, List.set_cons_zero, List.set_cons_succ, Nat.reduceAdd] at M
  refine nxA ?_
  refine st_y S rfl rfl rfl (y_loadAgg (cs := [_, _, _, _, _, _, _, _, _, _, _, _, _, _, _, _, _, _, _, _, _, _, _, _]) S (by kernel_rfl) rfl rfl (M.cellsAt (k := 24) 0 rfl rfl)) ?_; clear S a; intro a S
  refine st_store (sz := 24) (us := [_, _, _, _, _, _, _, _, _, _, _, _, _, _, _, _, _, _, _, _, _, _, _, _]) S M 2 rfl (by kernel_rfl) rfl rfl rfl rfl rfl rfl (by first | decide | (simp; done) | (simp; omega)) ?_; clear M; intro w14 M
  simp only [putL, List.set_cons_zero, List.set_cons_succ, Nat.reduceAdd] at M
  refine nxC ?_
  refine wp_ret ?_
  refine end_one S rfl (res_agg (cs := [_, _, _, _, _, _, _, _, _, _, _, _, _, _, _, _, _, _, _, _, _, _, _, _]) (by kernel_rfl) rfl rfl (M.cellsAt (k := 24) 2 rfl rfl)) ?_
  first
    | exact ⟨⟨3, max o.at_ 1, 0, 1, 1, o.nm, max o.ex.n 1, 0, 0, zV8, q.e, false, 0, 0⟩, rfl, M.below⟩
    | exact ⟨⟨3, max o.at_ 1, 0, 1, 1, o.nm, max o.ex.n 1, 0, 0, q.val, q.e, false, 0, 0⟩, rfl, M.below⟩
    | exact ⟨⟨10, max o.at_ 1, 0, 1, 1, o.nm, 0, 0, 0, zV8, q.e, false, 0, 0⟩, rfl, M.below⟩
end Go.Proofs.Ytniijiipkfhjgaa

namespace Go.Proofs.Ytniijiipkfhjgaa
open Go.RowKit Go.Sort
/-! the bits of the touched shards -/
theorem ShOk.or {sh : Int} (h : ShOk sh) {k : Nat} (h1 : 1 ≤ k) (h4 : k ≤ 4) : ShOk (orI sh (1 * (2 : Int) ^ k)) := by
  obtain ⟨q, hq, rfl⟩ := h
  have hall : ∀ q : Fin 16, ∀ k : Fin 5, 1 ≤ k.val → (∃ j : Fin 16, orI (2 * ((q.val : Nat) : Int)) (1 * (2 : Int) ^ k.val) = 2 * ((j.val : Nat) : Int)) := by decide +kernel
  obtain ⟨j, hj⟩ := hall ⟨q, hq⟩ ⟨k, by omega⟩ h1
  exact ⟨j.val, j.isLt, hj⟩
theorem hasBit_or {sh : Int} (h : ShOk sh) {k : Nat} (h1 : 1 ≤ k) (h4 : k ≤ 4) {i : Nat} (hi : i < 5) : hasBit (orI sh (1 * (2 : Int) ^ k)) i = (hasBit sh i || i == k) := by
  obtain ⟨q, hq, rfl⟩ := h
  have hall : ∀ q : Fin 16, ∀ k i : Fin 5, 1 ≤ k.val → hasBit (orI (2 * ((q.val : Nat) : Int)) (1 * (2 : Int) ^ k.val)) i.val = (hasBit (2 * ((q.val : Nat) : Int)) i.val || i.val == k.val) := by decide +kernel
  exact hall ⟨q, hq⟩ ⟨k, by omega⟩ ⟨i, hi⟩ h1
theorem ShOk.notV {sh : Int} (h : ShOk sh) : notV sh 30 = 0 := by
  obtain ⟨q, hq, rfl⟩ := h
  have hall : ∀ q : Fin 16, Go.Proofs.Ytniijiipkfhjgaa.notV (2 * ((q.val : Nat) : Int)) 30 = 0 := by decide +kernel
  exact hall ⟨q, hq⟩
theorem ShOk.zero : ShOk 0 := ⟨0, by omega, rfl⟩
/-! an exec's message -/
def exM (to inc : Int) (nm : Nm) (n op block : Int) (v : V8) : Msg := { zMg with kind := 2, to := to, inc := inc, name := nm, n := n, op := op, block := block, val := v }
theorem exM_may (to inc : Int) (nm : Nm) (n op block : Int) (v : V8) : (exM to inc nm n op block v).may [] = true ↔ (to ≠ 0 ∧ 0 ≤ to ∧ to ≤ 4) ∧ (1 ≤ inc ∧ inc ≤ 1048576) ∧ nm.named = true ∧ (1 ≤ n ∧ n ≤ 1048576) ∧ (0 ≤ op ∧ op ≤ 2 ∧ 0 ≤ block ∧ block < 32) ∧ (op = 1 ∨ v.zero = true) := by
  have hs : (exM to inc nm n op block v).same (bareM (khas 2) 10 (exM to inc nm n op block v)) [] (bareX (khas 2) []) = true := Msg.same_iff.2 ⟨rfl, rfl⟩
  have hf : fitB (khas 2) (exM to inc nm n op block v) [] = ((!(!nm.named) && !(!(withinB n 1048576))) && (decide (0 ≤ op ∧ op ≤ 2 ∧ 0 ≤ block ∧ block < 32) && (op == 1 || v.zero))) := rfl
  unfold Msg.may
  have hk : (exM to inc nm n op block v).kind = 2 := rfl
  have hb : betweenB (exM to inc nm n op block v).frm (exM to inc nm n op block v).to (kdown 2) = decide (to ≠ 0 ∧ 0 ≤ to ∧ to ≤ 4) := by
    show (if true = true then decide ((0 : Int) = 0 ∧ to ≠ 0 ∧ 0 ≤ to ∧ to ≤ 4) else _) = _
    rw [if_pos rfl, Bool.eq_iff_iff]; simp
  rw [hk, hb, hs, hf]
  have hi : (exM to inc nm n op block v).inc = inc := rfl
  have hy : (exM to inc nm n op block v).your = 0 := rfl
  rw [hi, hy]
  rcases Bool.eq_false_or_eq_true nm.named with hn | hn <;> rcases Bool.eq_false_or_eq_true v.zero with hz | hz <;> simp [withinB, hn, hz] <;> omega
/-! the keys of the open ones -/
structure Key where
  h : Int
  c : Int
  nm : Nm
def Ope.key (o : Ope) : Key := ⟨o.h, o.c, o.nm⟩
def keys (l : List Ope) : List Key := l.map Ope.key
def Apart (a b : Key) : Prop := a.h < b.h ∧ a.nm.stamp ≠ b.nm.stamp
/-- may a session be, by its keys -/
structure Ses.Well (s : Ses) : Prop where
  inc : 1 ≤ s.inc ∧ s.inc ≤ 1048576
  last : 0 ≤ s.last ∧ s.last ≤ 1099511627776
  len : s.l.length ≤ 8
  pos : ∀ o ∈ s.l, 1 ≤ o.h ∧ o.h ≤ s.last
  may : ∀ o ∈ s.l, o.may s.inc = true
  shok : ∀ o ∈ s.l, ShOk o.sh
  apart : (keys s.l).Pairwise Apart
  ends : ∀ x ∈ s.over, EndOk s x
theorem keys_get {l : List Ope} {i : Nat} {o : Ope} (h : l[i]? = some o) : (keys l)[i]? = some o.key := by
  unfold keys; rw [List.getElem?_map, h]; rfl
theorem apart_get {l : List Ope} (h : (keys l).Pairwise Apart) {i j : Nat} {a b : Ope} (hij : i < j) (ha : l[i]? = some a) (hb : l[j]? = some b) : a.h < b.h ∧ a.nm.stamp ≠ b.nm.stamp := by
  obtain ⟨h1, e1⟩ := List.getElem?_eq_some_iff.1 (keys_get ha)
  obtain ⟨h2, e2⟩ := List.getElem?_eq_some_iff.1 (keys_get hb)
  have := List.pairwise_iff_getElem.1 h i j h1 h2 hij
  rw [e1, e2] at this; exact this
theorem Ses.Well.toMay {s : Ses} (h : s.Well) : s.May := by
  refine ⟨h.inc, h.last, h.len, fun i o ho => ?_, h.ends⟩
  have hm := List.mem_of_getElem? ho
  refine ⟨?_, (h.pos o hm).2, fun j p hj hp => (apart_get h.apart hj hp ho).2, h.may o hm⟩
  cases i with
  | zero => have := (h.pos o hm).1; show (0 : Int) < o.h; omega
  | succ k =>
    have hil := (List.getElem?_eq_some_iff.1 ho).1
    obtain ⟨p, hp⟩ : ∃ p, s.l[k]? = some p := ⟨_, List.getElem?_eq_getElem (by omega)⟩
    show (match s.l[k]? with | Option.some o => o.h | Option.none => 0) < o.h
    rw [hp]; exact (apart_get h.apart (Nat.lt_succ_self k) hp ho).1
/-- the same one by its key -/
theorem keys_set {l : List Ope} {i : Nat} {o o' : Ope} (h : l[i]? = some o) (e : o'.key = o.key) : keys (l.set i o') = keys l := by
  unfold keys
  rw [List.map_set, e]
  exact set_self (keys_get h)
theorem keys_erase (l : List Ope) (i : Nat) : keys (l.eraseIdx i) = (keys l).eraseIdx i := by
  unfold keys
  rw [List.eraseIdx_eq_take_drop_succ, List.eraseIdx_eq_take_drop_succ, List.map_append, List.map_take, List.map_drop]
theorem keys_snoc (l : List Ope) (o : Ope) : keys (l ++ [o]) = keys l ++ [o.key] := by unfold keys; simp
theorem mem_keys {l : List Ope} {k : Key} : k ∈ keys l ↔ ∃ o ∈ l, o.key = k := by unfold keys; simp
theorem mem_set {l : List Ope} {i : Nat} {o' q : Ope} (h : q ∈ l.set i o') : q ∈ l ∨ q = o' := by
  rcases List.mem_or_eq_of_mem_set h with h | h
  · exact .inl h
  · exact .inr h
theorem mem_erase_ne {l : List Ope} (ha : (keys l).Pairwise Apart) {i : Nat} {o q : Ope} (ho : l[i]? = some o) (hq : q ∈ l.eraseIdx i) : q ∈ l ∧ q.h ≠ o.h ∧ q.nm.stamp ≠ o.nm.stamp := by
  have hql := List.mem_of_mem_eraseIdx hq
  refine ⟨hql, ?_⟩
  obtain ⟨j, hj⟩ := List.getElem?_of_mem hq
  rw [List.getElem?_eraseIdx] at hj
  split at hj
  · have := apart_get ha (by assumption) hj ho
    exact ⟨by omega, this.2⟩
  · have := apart_get ha (show i < j + 1 by omega) ho hj
    exact ⟨by omega, fun e => this.2 e.symm⟩
theorem mem_of_ne {l : List Ope} {i : Nat} {o q : Ope} (ho : l[i]? = some o) (hq : q ∈ l) (hne : q.h ≠ o.h) : q ∈ l.eraseIdx i := by
  obtain ⟨j, hj⟩ := List.getElem?_of_mem hq
  have hji : j ≠ i := fun e => by subst e; rw [ho] at hj; exact hne (by rw [Option.some.inj hj])
  rcases Nat.lt_or_ge j i with h | h
  · exact List.mem_of_getElem? (i := j) (by rw [List.getElem?_eraseIdx, if_pos h]; exact hj)
  · refine List.mem_of_getElem? (i := j - 1) (by rw [List.getElem?_eraseIdx, if_neg (by omega), show j - 1 + 1 = j by omega]; exact hj)
/-- one open transaction is another now, of the same name and handle -/
theorem Ses.Well.setO {s : Ses} (h : s.Well) {i : Nat} {o o' : Ope} (ho : s.l[i]? = some o) (e : o'.key = o.key) (hm : o'.may s.inc = true) (hs : ShOk o'.sh) : Ses.Well { s with l := s.l.set i o' } := by
  have hmem := List.mem_of_getElem? ho
  have e1 : o'.h = o.h := congrArg Key.h e
  refine ⟨h.inc, h.last, by show (s.l.set i o').length ≤ 8; rw [List.length_set]; exact h.len, fun q hq => ?_, fun q hq => ?_, fun q hq => ?_, ?_, fun x hx => ?_⟩
  · rcases mem_set hq with h1 | rfl
    · exact h.pos q h1
    · rw [e1]; exact h.pos o hmem
  · rcases mem_set hq with h1 | rfl
    · exact h.may q h1
    · exact hm
  · rcases mem_set hq with h1 | rfl
    · exact h.shok q h1
    · exact hs
  · show (keys (s.l.set i o')).Pairwise Apart
    rw [keys_set ho e]; exact h.apart
  · obtain ⟨h1, h2, h3⟩ := h.ends x hx
    refine ⟨h1, fun q hq => ?_, h3⟩
    rcases mem_set hq with h4 | rfl
    · exact h2 q h4
    · rw [e1]; exact h2 o hmem
theorem may_named {o : Ope} {inc : Int} (h : o.may inc = true) : o.nm.named = true ∧ o.nm.inc = inc ∧ (1 ≤ o.c ∧ o.c ≤ 1048576) ∧ o.touchedMay = true := by
  unfold Ope.may at h
  split at h
  · rename_i h1; simpa [and_assoc] using h1
  · exact absurd h (by decide)
theorem may_intro {o : Ope} {inc : Int} (h1 : o.nm.named = true) (h2 : o.nm.inc = inc) (h3 : 1 ≤ o.c ∧ o.c ≤ 1048576) (h4 : o.touchedMay = true)
    (h5 : o.ph ≠ 1 → o.ex = zMg) (h6 : (o.ph = 0 ∧ o.at_ = 0) ∨ (o.ph = 1 ∧ (1 ≤ o.at_ ∧ o.at_ ≤ 4) ∧ hasBit o.sh o.at_.toNat = true ∧ o.execMay inc = true) ∨ (o.ph = 2 ∧ (1 ≤ o.at_ ∧ o.at_ ≤ 4) ∧ o.sh = 1 * (2 : Int) ^ o.at_.toNat) ∨ (o.ph = 3 ∧ o.at_ = 0 ∧ andV o.sh (o.sh - 1) ≠ 0)) : o.may inc = true := by
  unfold Ope.may
  rw [if_pos (by simp [h1, h2, h3, h4]), if_neg (by
    rintro ⟨h7, h8⟩
    rw [h5 h7] at h8
    exact absurd h8 (by decide))]
  rcases h6 with ⟨e, h⟩ | ⟨e, h, h7, h8⟩ | ⟨e, h, h7⟩ | ⟨e, h, h7⟩
  · rw [if_pos e]; simp [h]
  · rw [if_neg (by omega), if_pos e]; simp [h, h7, h8]
  · rw [if_neg (by omega), if_neg (by omega), if_pos e, decide_eq_true h, h7]; simp
  · rw [if_neg (by omega), if_neg (by omega), if_neg (by omega), if_pos e]; simp [h, h7]
theorem may_at0 {o : Ope} {inc : Int} (h : o.may inc = true) (h0 : o.ph = 0) : o.at_ = 0 ∧ o.ex = zMg := by
  unfold Ope.may at h
  split at h
  · split at h
    · exact absurd h (by decide)
    · rename_i h2
      refine ⟨by simpa using h, ?_⟩
      have : o.ex.same zMg [] [] = true := by
        rcases Bool.eq_false_or_eq_true (o.ex.same zMg [] []) with h3 | h3
        · exact h3
        · exact absurd ⟨by omega, h3⟩ h2
      exact (Msg.same_iff.1 this).1
  · exact absurd h (by decide)
theorem may_at1 {o : Ope} {inc : Int} (h : o.may inc = true) (h0 : o.ph = 1) : (1 ≤ o.at_ ∧ o.at_ ≤ 4) ∧ hasBit o.sh o.at_.toNat = true ∧ o.execMay inc = true := by
  unfold Ope.may at h
  split at h
  · split at h
    · exact absurd h (by decide)
    · rw [h0] at h
      simpa using h
  · exact absurd h (by decide)
/-- the exec that is under way, spelled -/
theorem execMay_iff {o : Ope} {inc : Int} (h : o.execMay inc = true) : o.ex.name = o.nm ∧ o.ex.kind = 2 ∧ o.ex.to = o.at_ ∧ o.ex.n = o.nAt o.at_.toNat ∧ (0 ≤ o.ex.op ∧ o.ex.op ≤ 2 ∧ 0 ≤ o.ex.block ∧ o.ex.block < 32) ∧ (o.ex.op = 1 ∨ o.ex.val.zero = true) := by
  unfold Ope.execMay at h
  simp only [Bool.and_eq_true, beq_iff_eq] at h
  obtain ⟨⟨⟨⟨⟨⟨⟨h1, h2⟩, h3⟩, h4⟩, h5⟩, h6⟩, h7⟩, h8⟩ := h
  refine ⟨Nm.eqb_iff.1 h1, h5, h6, h7, ?_⟩
  unfold Msg.may at h8
  split at h8
  · simp only [Bool.and_eq_true] at h8
    obtain ⟨-, h9⟩ := h8
    unfold fitB at h9
    simp only [Bool.and_eq_true] at h9
    obtain ⟨-, h10⟩ := h9
    unfold fitKind at h10
    rw [if_pos h5] at h10
    simpa [and_assoc] using h10
  · exact absurd h8 (by decide)
theorem Ope.nAt_ne (o : Ope) {k i : Nat} (v : Int) (h : k ≤ 4) (hi : i ≤ 4) (hne : i ≠ k) : (o.nSet k v).nAt i = o.nAt i := by
  have : k = 0 ∨ k = 1 ∨ k = 2 ∨ k = 3 ∨ k = 4 := by omega
  have : i = 0 ∨ i = 1 ∨ i = 2 ∨ i = 3 ∨ i = 4 := by omega
  rcases ‹k = 0 ∨ _› with rfl | rfl | rfl | rfl | rfl <;> rcases ‹i = 0 ∨ _› with rfl | rfl | rfl | rfl | rfl <;> first | rfl | exact absurd rfl hne
/-- an exec is sent: it may be -/
theorem execd_may {o : Ope} {inc : Int} (h : o.may inc = true) (hs : ShOk o.sh) {k : Nat} (h1 : 1 ≤ k) (h4 : k ≤ 4) (hn : o.nAt k < 1048576) (x : Msg) (hx : (0 ≤ x.op ∧ x.op ≤ 2 ∧ 0 ≤ x.block ∧ x.block < 32) ∧ (x.op = 1 ∨ x.val.zero = true)) (hi : 1 ≤ inc ∧ inc ≤ 1048576) :
    (o.execd k x).may inc = true := by
  obtain ⟨a1, a2, a3, a4⟩ := may_named h
  have hb := touched_bd a4
  have hb5 : (o.execd k x).nAt k = o.nAt k + 1 := Ope.nAt_set o _ h4
  have hat : (o.execd k x).at_.toNat = k := by show ((k : Int)).toNat = k; omega
  have hbit : hasBit (o.execd k x).sh k = true := by
    show hasBit (orI o.sh (1 * (2 : Int) ^ k)) k = true
    rw [hasBit_or hs h1 h4 (by omega)]; simp
  refine may_intro a1 a2 a3 ?_ (fun h => absurd rfl h) (.inr (.inl ⟨rfl, by show 1 ≤ (k : Int) ∧ (k : Int) ≤ 4; omega, by rw [hat]; exact hbit, ?_⟩))
  · refine touched_yes (by show (notV (orI o.sh (1 * (2 : Int) ^ k)) 30 == 0) = true; rw [(hs.or h1 h4).notV]; rfl) fun i hi => ?_
    unfold nOk
    show (if hasBit (orI o.sh (1 * (2 : Int) ^ k)) i = true then _ else _) = true
    rw [hasBit_or hs h1 h4 hi]
    by_cases hik : i = k
    · subst hik
      have := hb i
      rw [hb5, beq_self_eq_true, Bool.or_true, if_pos rfl, decide_eq_true (by omega)]
    · rw [show (i == k) = false from beq_eq_false_iff_ne.2 hik, Bool.or_false, show (o.execd k x).nAt i = o.nAt i from Ope.nAt_ne o _ h4 (by omega) hik]
      rcases Bool.eq_false_or_eq_true (nOk o.sh i (o.nAt i)) with h9 | h9
      · exact h9
      · rw [touched_no hi h9] at a4; exact absurd a4 (by decide)
  · unfold Ope.execMay
    have hm : ({ (o.execd k x).ex with inc := inc } : Msg).may [] = true := (exM_may (k : Int) inc o.nm (o.nAt k + 1) x.op x.block x.val).2 ⟨by omega, hi, a1, by have := hb k; omega, hx.1, hx.2⟩
    rw [hm, hat, hb5]
    have e1 : (o.execd k x).ex.name.eqb (o.execd k x).nm = true := Nm.eqb_iff.2 rfl
    rw [e1]
    show (true && (0 : Int) == 0 && (0 : Int) == 0 && (0 : Int) == 0 && (2 : Int) == 2 && (k : Int) == (k : Int) && (o.nAt k + 1 == o.nAt k + 1) && true) = true
    simp
end Go.Proofs.Ytniijiipkfhjgaa

namespace Go.Proofs.Ytniijiipkfhjgaa
open Go.RowKit Go.Sort
/-- the name of one that is over -/
def End_.nm (x : End_) (inc : Int) : Nm := ⟨x.stamp, inc, x.try_⟩
/-- a session from its beginning; u: how often a new stamp was handed in -/
structure Ses.Ok (s : Ses) (u : Int → Int) : Prop where
  well : s.Well
  one : ∀ x ∈ s.over, ∀ y ∈ s.over, x.stamp = y.stamp → x.c = y.c
  own : ∀ o ∈ s.l, ∀ x ∈ s.over, o.nm.stamp = x.stamp → o.c = x.c ∧ x.try_ < o.nm.try_
  usedL : ∀ o ∈ s.l, 1 ≤ u o.nm.stamp
  usedO : ∀ x ∈ s.over, 1 ≤ u x.stamp
theorem Ses.Ok.mono {s : Ses} {u u' : Int → Int} (h : s.Ok u) (hu : ∀ z, u z ≤ u' z) : s.Ok u' :=
  ⟨h.well, h.one, h.own, fun o ho => Int.le_trans (h.usedL o ho) (hu _), fun x hx => Int.le_trans (h.usedO x hx) (hu _)⟩
theorem Ses.Ok.setO {s : Ses} {u : Int → Int} (h : s.Ok u) {i : Nat} {o o' : Ope} (ho : s.l[i]? = some o) (e : o'.key = o.key) (hm : o'.may s.inc = true) (hs : ShOk o'.sh) : Ses.Ok { s with l := s.l.set i o' } u := by
  have hmem := List.mem_of_getElem? ho
  have e2 : o'.nm = o.nm := congrArg Key.nm e
  have e3 : o'.c = o.c := congrArg Key.c e
  refine ⟨h.well.setO ho e hm hs, h.one, fun q hq x hx => ?_, fun q hq => ?_, h.usedO⟩
  · rcases mem_set hq with h1 | rfl
    · exact h.own q h1 x hx
    · rw [e2, e3]; exact h.own o hmem x hx
  · rcases mem_set hq with h1 | rfl
    · exact h.usedL q h1
    · rw [e2]; exact h.usedL o hmem
abbrev Ses.end_ (s : Ses) (i : Nat) (o : Ope) (er : Int) : Ses := { s with l := s.l.eraseIdx i, over := s.over ++ [⟨o.h, o.c, o.nm.stamp, o.nm.try_, er⟩] }
theorem Ses.Ok.end_ {s : Ses} {u : Int → Int} (h : s.Ok u) {i : Nat} {o : Ope} (ho : s.l[i]? = some o) (er : Int) : (s.end_ i o er).Ok u := by
  have hmem := List.mem_of_getElem? ho
  have hap := h.well.apart
  obtain ⟨a1, a2, a3, -⟩ := may_named (h.well.may o hmem)
  have hne : ∀ q ∈ s.l.eraseIdx i, q ∈ s.l ∧ q.h ≠ o.h ∧ q.nm.stamp ≠ o.nm.stamp := fun q hq => mem_erase_ne hap ho hq
  have hov : ∀ x ∈ s.over ++ [(⟨o.h, o.c, o.nm.stamp, o.nm.try_, er⟩ : End_)], x ∈ s.over ∨ x = ⟨o.h, o.c, o.nm.stamp, o.nm.try_, er⟩ := fun x hx => by simpa using hx
  refine ⟨⟨h.well.inc, h.well.last, ?_, fun q hq => h.well.pos q (hne q hq).1, fun q hq => h.well.may q (hne q hq).1, fun q hq => h.well.shok q (hne q hq).1, ?_, fun x hx => ?_⟩, fun x hx y hy e => ?_, fun q hq x hx e => ?_, fun q hq => h.usedL q (hne q hq).1, fun x hx => ?_⟩
  · show (s.l.eraseIdx i).length ≤ 8
    have := h.well.len
    rw [List.length_eraseIdx]; split <;> omega
  · show (keys (s.l.eraseIdx i)).Pairwise Apart
    rw [keys_erase]
    exact hap.sublist (List.eraseIdx_sublist _ _)
  · rcases hov x hx with h1 | rfl
    · obtain ⟨h2, h3, h4⟩ := h.well.ends x h1
      exact ⟨h2, fun q hq => h3 q (hne q hq).1, h4⟩
    · refine ⟨h.well.pos o hmem, fun q hq => (hne q hq).2.1, a3, ?_⟩
      show (⟨o.nm.stamp, s.inc, o.nm.try_⟩ : Nm).named = true
      rw [← a2]; exact a1
  · rcases hov x hx with h1 | rfl <;> rcases hov y hy with h2 | rfl
    · exact h.one x h1 y h2 e
    · exact (h.own o hmem x h1 e.symm).1.symm
    · exact (h.own o hmem y h2 e).1
    · rfl
  · rcases hov x hx with h1 | rfl
    · exact h.own q (hne q hq).1 x h1 e
    · exact absurd e (hne q hq).2.2
  · rcases hov x hx with h1 | rfl
    · exact h.usedO x h1
    · exact h.usedL o hmem
/-- the tries of those that are over, of a stamp and a client -/
theorem triesP_le {st c : Int} {l : List End_} {x : End_} (hx : x ∈ l) (h1 : x.stamp = st) (h2 : x.c = c) : x.try_ ≤ triesP st c l := by
  have key : ∀ (l : List End_) (m : Int), m ≤ l.foldl (fun m x => if x.stamp = st ∧ x.c = c then max m x.try_ else m) m := by
    intro l
    induction l with
    | nil => intro m; exact Int.le_refl _
    | cons y l ih =>
      intro m
      refine Int.le_trans ?_ (ih _)
      show m ≤ if _ then _ else _
      split
      · exact Int.le_max_left _ _
      · exact Int.le_refl _
  obtain ⟨a, b, rfl⟩ := List.append_of_mem hx
  unfold triesP
  rw [List.foldl_append, List.foldl_cons]
  refine Int.le_trans ?_ (key b _)
  rw [if_pos ⟨h1, h2⟩]
  exact Int.le_max_right _ _
theorem triesP_all {st c : Int} : ∀ (l : List End_), (∀ x ∈ l, ¬ (x.stamp = st ∧ x.c = c)) → triesP st c l = 0
  | [], _ => rfl
  | x :: l, h => by
    unfold triesP
    rw [List.foldl_cons, if_neg (h x (by simp))]
    exact triesP_all l fun y hy => h y (List.mem_cons_of_mem _ hy)
theorem triesP_some {st c : Int} : ∀ (l : List End_), triesP st c l ≠ 0 → ∃ x ∈ l, x.stamp = st ∧ x.c = c := fun l h => by
  rcases Classical.em (∃ x ∈ l, x.stamp = st ∧ x.c = c) with h1 | h1
  · exact h1
  · exact absurd (triesP_all l fun x hx e => h1 ⟨x, hx, e⟩) h
theorem triesP_lt {st c b : Int} (hb : 0 < b) : ∀ (l : List End_), (∀ x ∈ l, x.stamp = st → x.c = c → x.try_ < b) → triesP st c l < b := by
  have key : ∀ (l : List End_) (m : Int), m < b → (∀ x ∈ l, x.stamp = st → x.c = c → x.try_ < b) → l.foldl (fun m x => if x.stamp = st ∧ x.c = c then max m x.try_ else m) m < b := by
    intro l
    induction l with
    | nil => intro m h _; exact h
    | cons y l ih =>
      intro m h hl
      refine ih _ ?_ fun x hx => hl x (List.mem_cons_of_mem _ hx)
      show (if _ then _ else _) < b
      split
      · rename_i h2; exact Int.max_lt.2 ⟨h, hl y (by simp) h2.1 h2.2⟩
      · exact h
  exact fun l h => key l 0 hb h
/-- what a beginning's name is -/
theorem nameQ_ok {s : Ses} {st tr : Int} (h : (nameQ s st tr).2 = 0) : (∀ o ∈ s.l, o.nm.stamp ≠ st) ∧ tr < 1048576 ∧ s.last < 1099511627776 ∧ (nameQ s st tr).1 = ⟨st, s.inc, tr + 1⟩ := by
  unfold nameQ at h ⊢
  split at h
  · exact absurd h (by decide)
  · split at h
    · exact absurd h (by decide)
    · rename_i h1 h2
      rw [if_neg h1, if_neg h2]
      refine ⟨fun o ho e => h1 (.inl ?_), by omega, by omega, rfl⟩
      rw [List.any_eq_true]; exact ⟨o, ho, by simp [e]⟩
theorem nameP_ok {s : Ses} {c : Cal} {stamp : Int} (h : (nameP s c stamp).2 = 0) : (1 ≤ c.c ∧ c.c ≤ 1048576) ∧ s.l.length < 8 ∧ s.last < 1099511627776 ∧
    ∃ st tr, (nameP s c stamp).1 = ⟨st, s.inc, tr + 1⟩ ∧ (∀ o ∈ s.l, o.nm.stamp ≠ st) ∧ tr < 1048576 ∧ ((c.stamp = 0 ∧ st = stamp ∧ tr = 0 ∧ stamp ≠ 0) ∨ (c.stamp ≠ 0 ∧ st = c.stamp ∧ tr = triesP c.stamp c.c s.over ∧ tr ≠ 0)) := by
  unfold nameP at h ⊢
  split at h
  · exact absurd h (by decide)
  · split at h
    · exact absurd h (by decide)
    · rename_i h1 h2
      rw [if_neg h1, if_neg h2]
      by_cases h3 : c.stamp = 0
      · rw [if_pos h3] at h ⊢
        by_cases h4 : stamp = 0
        · rw [if_pos h4] at h; exact absurd h (by decide)
        · rw [if_neg h4] at h ⊢
          obtain ⟨q1, q2, q3, q4⟩ := nameQ_ok h
          exact ⟨by omega, by omega, q3, stamp, 0, q4, q1, by omega, .inl ⟨h3, rfl, rfl, h4⟩⟩
      · rw [if_neg h3] at h ⊢
        by_cases h4 : triesP c.stamp c.c s.over = 0
        · rw [if_pos h4] at h; exact absurd h (by decide)
        · rw [if_neg h4] at h ⊢
          obtain ⟨q1, q2, q3, q4⟩ := nameQ_ok h
          exact ⟨by omega, by omega, q3, c.stamp, _, q4, q1, q2, .inr ⟨h3, rfl, rfl, h4⟩⟩
/-- one more is open -/
abbrev Ses.more (s : Ses) (c : Int) (nm : Nm) : Ses := { s with l := s.l ++ [newOpe (s.last + 1) c nm], last := s.last + 1 }
theorem new_may {h c inc : Int} {nm : Nm} (h1 : nm.named = true) (h2 : nm.inc = inc) (h3 : 1 ≤ c ∧ c ≤ 1048576) : (newOpe h c nm).may inc = true := by
  refine may_intro h1 h2 h3 ?_ (fun _ => rfl) (.inl ⟨rfl, rfl⟩)
  show (notV 0 30 == 0 && (nOk 0 0 0 && nOk 0 1 0 && nOk 0 2 0 && nOk 0 3 0 && nOk 0 4 0)) = true
  decide +kernel
theorem Ses.Ok.more {s : Ses} {u : Int → Int} (h : s.Ok u) {c st tr : Int} (hc : 1 ≤ c ∧ c ≤ 1048576) (hlen : s.l.length < 8) (hla : s.last < 1099511627776) (hno : ∀ o ∈ s.l, o.nm.stamp ≠ st) (htr : 0 ≤ tr ∧ tr < 1048576) (hst : 1 ≤ st ∧ st ≤ 1048576)
    (hov : ∀ x ∈ s.over, x.stamp = st → x.c = c ∧ x.try_ ≤ tr) (hu : 1 ≤ u st) : (s.more c ⟨st, s.inc, tr + 1⟩).Ok u := by
  have hw := h.well
  have hl := hw.last
  have hinc := hw.inc
  have hnm : (⟨st, s.inc, tr + 1⟩ : Nm).named = true := by simp [Nm.named, withinB]; omega
  have hmem : ∀ q ∈ s.l ++ [newOpe (s.last + 1) c ⟨st, s.inc, tr + 1⟩], q ∈ s.l ∨ q = newOpe (s.last + 1) c ⟨st, s.inc, tr + 1⟩ := fun q hq => by simpa using hq
  refine ⟨⟨hw.inc, by show 0 ≤ s.last + 1 ∧ s.last + 1 ≤ 1099511627776; omega, ?_, fun q hq => ?_, fun q hq => ?_, fun q hq => ?_, ?_, fun x hx => ?_⟩, h.one, fun q hq x hx e => ?_, fun q hq => ?_, h.usedO⟩
  · show (s.l ++ [_]).length ≤ 8
    rw [List.length_append]; simp; omega
  · rcases hmem q hq with h1 | rfl
    · have := hw.pos q h1; show 1 ≤ q.h ∧ q.h ≤ s.last + 1; omega
    · show 1 ≤ s.last + 1 ∧ s.last + 1 ≤ s.last + 1; omega
  · rcases hmem q hq with h1 | rfl
    · exact hw.may q h1
    · exact new_may hnm rfl hc
  · rcases hmem q hq with h1 | rfl
    · exact hw.shok q h1
    · exact ShOk.zero
  · show (keys (s.l ++ [_])).Pairwise Apart
    rw [keys_snoc, List.pairwise_append]
    refine ⟨hw.apart, by simp, fun a ha b hb => ?_⟩
    obtain ⟨q, hq, rfl⟩ := mem_keys.1 ha
    obtain rfl := List.mem_singleton.1 hb
    have := hw.pos q hq
    exact ⟨by show q.h < s.last + 1; omega, hno q hq⟩
  · obtain ⟨h1, h2, h3⟩ := hw.ends x hx
    refine ⟨by show 1 ≤ x.h ∧ x.h ≤ s.last + 1; omega, fun q hq => ?_, h3⟩
    rcases hmem q hq with h4 | rfl
    · exact h2 q h4
    · show s.last + 1 ≠ x.h; omega
  · rcases hmem q hq with h1 | rfl
    · exact h.own q h1 x hx e
    · obtain ⟨h2, h3⟩ := hov x hx e.symm
      exact ⟨h2.symm, by show x.try_ < tr + 1; omega⟩
  · rcases hmem q hq with h1 | rfl
    · exact h.usedL q h1
    · exact hu
end Go.Proofs.Ytniijiipkfhjgaa

namespace Go.Proofs.Ytniijiipkfhjgaa
open Go.RowKit Go.Sort
def ansG (g : Int → Int) (y : Ans) : Int → Int := if y.kind = 0 then g else fun z => if z = y.h then g y.h - 1 else g z
/-- the open calls, after these answers -/
def ansF (f : Int → Int) (l : List Ans) : Int → Int := l.foldl ansG f
theorem ansF_snoc (f : Int → Int) (l : List Ans) (y : Ans) : ansF f (l ++ [y]) = ansG (ansF f l) y := by unfold ansF; rw [List.foldl_append]; rfl
def AnsOk (f : Int → Int) (l : List Ans) : Prop := ∀ (k : Nat) (y : Ans), l[k]? = some y → y.kind ≠ 0 → 1 ≤ ansF f (l.take k) y.h
theorem AnsOk.nil (f : Int → Int) : AnsOk f [] := fun k y h => absurd h (by simp)
theorem snoc_get {α : Type} {l : List α} {x y : α} {k : Nat} (h : (l ++ [x])[k]? = some y) : (k < l.length ∧ l[k]? = some y ∧ (l ++ [x]).take k = l.take k) ∨ (k = l.length ∧ y = x ∧ (l ++ [x]).take k = l) := by
  rcases Nat.lt_trichotomy k l.length with h1 | h1 | h1
  · left
    rw [List.getElem?_append_left h1] at h
    exact ⟨h1, h, List.take_append_of_le_length (by omega)⟩
  · right
    subst h1
    rw [List.getElem?_append_right (by omega), Nat.sub_self] at h
    exact ⟨rfl, (Option.some.inj h).symm, by rw [List.take_left']; rfl⟩
  · rw [List.getElem?_eq_none (by simp; omega)] at h; exact absurd h (by simp)
theorem AnsOk.snoc {f : Int → Int} {l : List Ans} (h : AnsOk f l) {y : Ans} (hy : y.kind ≠ 0 → 1 ≤ ansF f l y.h) : AnsOk f (l ++ [y]) := fun k q hq hk => by
  rcases snoc_get hq with ⟨-, h2, h3⟩ | ⟨-, rfl, h3⟩
  · rw [h3]; exact h k q h2 hk
  · rw [h3]; exact hy hk
def seenB (B : List Nm) (l : List Seen_) : List Nm := B ++ (l.filter (fun y => y.kind == 0)).map Seen_.nm
def seenO (O : List Nm) (l : List Seen_) : List Nm := O ++ (l.filter (fun y => y.kind == 4)).map Seen_.nm
theorem seenB_snoc (B : List Nm) (l : List Seen_) (y : Seen_) : seenB B (l ++ [y]) = if y.kind = 0 then seenB B l ++ [y.nm] else seenB B l := by
  unfold seenB; rw [List.filter_append]
  by_cases h : y.kind = 0 <;> simp [h]
theorem seenO_snoc (O : List Nm) (l : List Seen_) (y : Seen_) : seenO O (l ++ [y]) = if y.kind = 4 then seenO O l ++ [y.nm] else seenO O l := by
  unfold seenO; rw [List.filter_append]
  by_cases h : y.kind = 4 <;> simp [h]
def SeenOk (B O : List Nm) (l : List Seen_) : Prop := ∀ (k : Nat) (y : Seen_), l[k]? = some y →
  (y.kind = 0 → y.nm ∉ seenB B (l.take k)) ∧ (y.kind ≠ 0 → y.nm ∈ seenB B (l.take k) ∧ y.nm ∉ seenO O (l.take k))
theorem SeenOk.snoc {B O : List Nm} {l : List Seen_} (h : SeenOk B O l) {y : Seen_} (h0 : y.kind = 0 → y.nm ∉ seenB B l) (h1 : y.kind ≠ 0 → y.nm ∈ seenB B l ∧ y.nm ∉ seenO O l) : SeenOk B O (l ++ [y]) := fun k q hq => by
  rcases snoc_get hq with ⟨-, h2, h3⟩ | ⟨-, rfl, h3⟩
  · rw [h3]; exact h k q h2
  · rw [h3]; exact ⟨h0, h1⟩
/-- the desk, amid an act: f the calls that were open, B the names that had begun, O those that had ended, ahead of it -/
structure DI (D : Dsk) (f : Int → Int) (B O : List Nm) (u : Int → Int) : Prop where
  ok : D.s.Ok u
  ans : AnsOk f D.t.ans
  nn : ∀ h, 0 ≤ ansF f D.t.ans h
  busy : ∀ o ∈ D.s.l, o.ph ≠ 0 → 1 ≤ ansF f D.t.ans o.h
  seen : SeenOk B O D.t.seen
  hB : ∀ n, n ∈ seenB B D.t.seen ↔ (∃ o ∈ D.s.l, o.nm = n) ∨ ∃ x ∈ D.s.over, x.nm D.s.inc = n
  hO : ∀ n, n ∈ seenO O D.t.seen ↔ ∃ x ∈ D.s.over, x.nm D.s.inc = n
  mail : ∀ m ∈ D.t.mail, (m.kind = 6 ∧ m.yes = false ∧ m.name ∈ seenB B D.t.seen) ∨ ∃ o ∈ D.s.l, o.nm = m.name
/-- an open one is not over -/
theorem Ses.Ok.alive {s : Ses} {u : Int → Int} (h : s.Ok u) {o : Ope} (ho : o ∈ s.l) : ¬ ∃ x ∈ s.over, x.nm s.inc = o.nm := by
  rintro ⟨x, hx, e⟩
  have e1 : x.stamp = o.nm.stamp := congrArg Nm.stamp e
  have e2 : x.try_ = o.nm.try_ := congrArg Nm.try_ e
  have := (h.own o ho x hx e1.symm).2
  omega
section
variable {D : Dsk} {f : Int → Int} {B O : List Nm} {u : Int → Int}
theorem DI.mono (h : DI D f B O u) {u' : Int → Int} (hu : ∀ z, u z ≤ u' z) : DI D f B O u' := ⟨h.ok.mono hu, h.ans, h.nn, h.busy, h.seen, h.hB, h.hO, h.mail⟩
theorem names_set {l : List Ope} {i : Nat} {o o' : Ope} (ho : l[i]? = some o) (e : o'.key = o.key) (n : Nm) : (∃ q ∈ l.set i o', q.nm = n) ↔ ∃ q ∈ l, q.nm = n := by
  have h1 : ∀ l : List Ope, (∃ q ∈ l, q.nm = n) ↔ ∃ k ∈ keys l, k.nm = n := fun l => by
    constructor
    · rintro ⟨q, hq, e⟩; exact ⟨q.key, mem_keys.2 ⟨q, hq, rfl⟩, e⟩
    · rintro ⟨k, hk, e⟩
      obtain ⟨q, hq, rfl⟩ := mem_keys.1 hk
      exact ⟨q, hq, e⟩
  rw [h1, h1, keys_set ho e]
theorem DI.setO (h : DI D f B O u) {i : Nat} {o o' : Ope} (ho : D.s.l[i]? = some o) (e : o'.key = o.key) (hm : o'.may D.s.inc = true) (hs : ShOk o'.sh) (hb : o'.ph ≠ 0 → 1 ≤ ansF f D.t.ans o.h) : DI (D.setO i o') f B O u := by
  refine ⟨h.ok.setO ho e hm hs, h.ans, h.nn, fun q hq hph => ?_, h.seen, fun n => ?_, h.hO, fun m hm => ?_⟩
  · rcases mem_set hq with h1 | rfl
    · exact h.busy q h1 hph
    · rw [show q.h = o.h from congrArg Key.h e]; exact hb hph
  · rw [names_set ho e]; exact h.hB n
  · rw [names_set ho e]; exact h.mail m hm
theorem DI.mailed (h : DI D f B O u) {m : Msg} (hm : ∃ o ∈ D.s.l, o.nm = m.name) : DI (D.mail m) f B O u := by
  refine ⟨h.ok, h.ans, h.nn, h.busy, h.seen, h.hB, h.hO, fun q hq => ?_⟩
  rcases List.mem_append.1 hq with h1 | h1
  · exact h.mail q h1
  · obtain rfl := List.mem_singleton.1 h1; exact .inr hm
theorem DI.maileds (h : DI D f B O u) {l : List Msg} (hm : ∀ m ∈ l, ∃ o ∈ D.s.l, o.nm = m.name) : DI (D.mails l) f B O u := by
  refine ⟨h.ok, h.ans, h.nn, h.busy, h.seen, h.hB, h.hO, fun q hq => ?_⟩
  rcases List.mem_append.1 hq with h1 | h1
  · exact h.mail q h1
  · exact .inr (hm q h1)
theorem DI.step (h : DI D f B O u) {y : Seen_} (h0 : y.kind ≠ 0) (h4 : y.kind ≠ 4) {o : Ope} (ho : o ∈ D.s.l) (hn : o.nm = y.nm) : DI (D.seen y) f B O u := by
  have e1 : seenB B (D.t.seen ++ [y]) = seenB B D.t.seen := by rw [seenB_snoc, if_neg h0]
  have e2 : seenO O (D.t.seen ++ [y]) = seenO O D.t.seen := by rw [seenO_snoc, if_neg h4]
  refine ⟨h.ok, h.ans, h.nn, h.busy, h.seen.snoc (fun e => absurd e h0) (fun _ => ⟨(h.hB _).2 (.inl ⟨o, ho, hn⟩), fun h5 => ?_⟩), fun n => ?_, fun n => ?_, fun m hm => ?_⟩
  · rw [← hn] at h5; exact h.ok.alive ho ((h.hO _).1 h5)
  · show n ∈ seenB B (D.t.seen ++ [y]) ↔ _; rw [e1]; exact h.hB n
  · show n ∈ seenO O (D.t.seen ++ [y]) ↔ _; rw [e2]; exact h.hO n
  · show (_ ∧ _ ∧ m.name ∈ seenB B (D.t.seen ++ [y])) ∨ _; rw [e1]; exact h.mail m hm
theorem DI.answered (h : DI D f B O u) {y : Ans} (h1 : y.kind ≠ 0 → 1 ≤ ansF f D.t.ans y.h) (hb : y.kind ≠ 0 → ∀ o ∈ D.s.l, o.ph ≠ 0 → o.h ≠ y.h) : DI (D.answer y) f B O u := by
  refine ⟨h.ok, h.ans.snoc h1, fun z => ?_, fun o ho hph => ?_, h.seen, h.hB, h.hO, h.mail⟩
  · show 0 ≤ ansF f (D.t.ans ++ [y]) z
    rw [ansF_snoc]; unfold ansG
    have hz := h.nn z
    split
    · exact hz
    · rename_i h2
      have := h1 h2
      show 0 ≤ if z = y.h then _ else _
      split
      · omega
      · exact hz
  · show 1 ≤ ansF f (D.t.ans ++ [y]) o.h
    rw [ansF_snoc]; unfold ansG
    split
    · exact h.busy o ho hph
    · rename_i h2
      show 1 ≤ if o.h = y.h then _ else _
      rw [if_neg (hb h2 o ho hph)]
      exact h.busy o ho hph
/-- one ends -/
theorem DI.ended (h : DI D f B O u) {i : Nat} {o : Ope} (ho : D.s.l[i]? = some o) (kd er an : Int) (told : Bool) (hk : kd ≠ 0) (hm : ∀ m ∈ D.t.mail, m.kind = 6 ∧ m.yes = false) (ht : told = true → 1 ≤ ansF f D.t.ans o.h) :
    DI (D.ended i o kd er an told) f B O u := by
  have hmem := List.mem_of_getElem? ho
  have hap := h.ok.well.apart
  have hal := h.ok.alive hmem
  have hinc := (may_named (h.ok.well.may o hmem)).2.1
  have hnm : (⟨o.h, o.c, o.nm.stamp, o.nm.try_, er⟩ : End_).nm D.s.inc = o.nm := by
    show (⟨o.nm.stamp, D.s.inc, o.nm.try_⟩ : Nm) = o.nm
    rw [← hinc]
  have hB' : seenB B (D.t.seen ++ [⟨4, o.nm, 0, zV8, er⟩]) = seenB B D.t.seen := by rw [seenB_snoc, if_neg (show (4 : Int) ≠ 0 by decide)]
  have hO' : seenO O (D.t.seen ++ [⟨4, o.nm, 0, zV8, er⟩]) = seenO O D.t.seen ++ [o.nm] := by rw [seenO_snoc, if_pos rfl]
  have hov : ∀ n, (∃ x ∈ D.s.over ++ [(⟨o.h, o.c, o.nm.stamp, o.nm.try_, er⟩ : End_)], x.nm D.s.inc = n) ↔ (∃ x ∈ D.s.over, x.nm D.s.inc = n) ∨ o.nm = n := fun n => by
    constructor
    · rintro ⟨x, hx, e⟩
      rcases List.mem_append.1 hx with h1 | h1
      · exact .inl ⟨x, h1, e⟩
      · obtain rfl := List.mem_singleton.1 h1
        rw [hnm] at e; exact .inr e
    · rintro (⟨x, hx, e⟩ | e)
      · exact ⟨x, List.mem_append_left _ hx, e⟩
      · exact ⟨_, List.mem_append_right _ (List.mem_singleton.2 rfl), by rw [hnm]; exact e⟩
  have hin : ∀ n, ((∃ q ∈ D.s.l, q.nm = n) ∨ ∃ x ∈ D.s.over, x.nm D.s.inc = n) ↔ ((∃ q ∈ D.s.l.eraseIdx i, q.nm = n) ∨ ((∃ x ∈ D.s.over, x.nm D.s.inc = n) ∨ o.nm = n)) := fun n => by
    constructor
    · rintro (⟨q, hq, e⟩ | h1)
      · by_cases hh : q.h = o.h
        · have : q = o := by
            obtain ⟨j, hj⟩ := List.getElem?_of_mem hq
            rcases Nat.lt_trichotomy j i with h2 | h2 | h2
            · have := (apart_get hap h2 hj ho).1; omega
            · subst h2; rw [ho] at hj; exact (Option.some.inj hj).symm
            · have := (apart_get hap h2 ho hj).1; omega
          subst this; exact .inr (.inr e)
        · exact .inl ⟨q, mem_of_ne ho hq hh, e⟩
      · exact .inr (.inl h1)
    · rintro (⟨q, hq, e⟩ | h1 | e)
      · exact .inl ⟨q, List.mem_of_mem_eraseIdx hq, e⟩
      · exact .inr h1
      · exact .inl ⟨o, hmem, e⟩
  have hA : ∀ a, a = ⟨o.c, o.h, an, zV8, o.nm.stamp, kd⟩ → ∀ z, ansF f (D.t.ans ++ [a]) z = if z = o.h then ansF f D.t.ans o.h - 1 else ansF f D.t.ans z := fun a ha z => by
    subst ha; rw [ansF_snoc]; unfold ansG; rw [if_neg hk]
  refine ⟨h.ok.end_ ho er, ?_, fun z => ?_, fun q hq hph => ?_, ?_, fun n => ?_, fun n => ?_, fun m hm' => ?_⟩
  · show AnsOk f (D.t.ans ++ (if told = true then [_] else []))
    by_cases h1 : told = true
    · rw [if_pos h1]; exact h.ans.snoc fun _ => ht h1
    · rw [if_neg h1, List.append_nil]; exact h.ans
  · show 0 ≤ ansF f (D.t.ans ++ (if told = true then [_] else [])) z
    have hz := h.nn z
    by_cases h1 : told = true
    · rw [if_pos h1, hA _ rfl]
      have := ht h1
      split <;> omega
    · rw [if_neg h1, List.append_nil]; exact hz
  · obtain ⟨h2, h3, -⟩ := mem_erase_ne hap ho hq
    show 1 ≤ ansF f (D.t.ans ++ (if told = true then [_] else [])) q.h
    by_cases h1 : told = true
    · rw [if_pos h1, hA _ rfl, if_neg h3]; exact h.busy q h2 hph
    · rw [if_neg h1, List.append_nil]; exact h.busy q h2 hph
  · exact h.seen.snoc (fun e => absurd (show (4 : Int) = 0 from e) (by decide)) fun _ => ⟨(h.hB _).2 (.inl ⟨o, hmem, rfl⟩), fun h5 => hal ((h.hO _).1 h5)⟩
  · show n ∈ seenB B (D.t.seen ++ [_]) ↔ (∃ q ∈ D.s.l.eraseIdx i, q.nm = n) ∨ ∃ x ∈ D.s.over ++ [_], x.nm D.s.inc = n
    rw [hB', hov, ← hin]; exact h.hB n
  · show n ∈ seenO O (D.t.seen ++ [_]) ↔ ∃ x ∈ D.s.over ++ [_], x.nm D.s.inc = n
    rw [hO', hov, List.mem_append, h.hO, List.mem_singleton]
    exact ⟨fun h => h.imp id fun e => e.symm, fun h => h.imp id fun e => e.symm⟩
  · obtain ⟨h1, h2⟩ := hm m hm'
    refine .inl ⟨h1, h2, ?_⟩
    show m.name ∈ seenB B (D.t.seen ++ [_])
    rw [hB']
    rcases h.mail m hm' with ⟨-, -, h3⟩ | h3
    · exact h3
    · exact (h.hB _).2 (.inl h3)
end
theorem refuseP_mem (o : Ope) (but : Int) : ∀ (k : Nat) (m : Msg), m ∈ refuseP o but k → m.kind = 6 ∧ m.yes = false ∧ m.name = o.nm
  | 0, m, h => absurd h (by simp [refuseP])
  | k + 1, m, h => by
    unfold refuseP at h
    rcases List.mem_append.1 h with h1 | h1
    · exact refuseP_mem o but k m h1
    · split at h1
      · obtain rfl := List.mem_singleton.1 h1; exact ⟨rfl, rfl, rfl⟩
      · exact absurd h1 (by simp)
end Go.Proofs.Ytniijiipkfhjgaa

namespace Go.Proofs.Ytniijiipkfhjgaa
open Go.RowKit Go.Sort
def bump (f : Int → Int) (h : Int) : Int → Int := fun z => if z = h then f h + 1 else f z
theorem shard_rng {of : Of8} {n : Int} (h : shardE of n = 0) : 0 ≤ n ∧ n < 32 := by
  unfold shardE at h
  split at h
  · assumption
  · omega
section
variable {D : Dsk} {f : Int → Int} {B O : List Nm} {u : Int → Int}
theorem DI.end0 (h : DI D f B O u) (n : Nm) : DI (D.end0 n) f B O u := ⟨h.ok, h.ans, h.nn, h.busy, h.seen, h.hB, h.hO, h.mail⟩
theorem DI.com0 (h : DI D f B O u) (n : Nm) : DI (D.com0 n) f B O u := ⟨h.ok, h.ans, h.nn, h.busy, h.seen, h.hB, h.hO, h.mail⟩
theorem DI.execd (h : DI D f B O u) {i : Nat} {o : Ope} (ho : D.s.l[i]? = some o) {x : Msg} (he : execOk D o x) (hx : (0 ≤ x.op ∧ x.op ≤ 2) ∧ (x.op = 1 ∨ x.val.zero = true)) (hb : 1 ≤ ansF f D.t.ans o.h) : DI (D.execd i o x) f B O u := by
  have hmem := List.mem_of_getElem? ho
  have hsb := shard_bd he.1
  have hr := shard_rng he.1
  have hk : DI (D.setO i (o.execd (shardV D.of x.block).toNat x)) f B O u := h.setO ho rfl (execd_may (h.ok.well.may o hmem) (h.ok.well.shok o hmem) (by omega) (by omega) he.2 x ⟨⟨hx.1.1, hx.1.2, hr.1, hr.2⟩, hx.2⟩ h.ok.well.inc) ((h.ok.well.shok o hmem).or (by omega) (by omega)) (fun _ => hb)
  exact hk.mailed ((names_set (i := i) (o' := o.execd (shardV D.of x.block).toNat x) ho rfl o.nm).2 ⟨o, hmem, rfl⟩)
theorem DI.touch (h : DI D f B O u) {i : Nat} {o : Ope} (ho : D.s.l[i]? = some o) {c : Cal} {bs : List UInt8} (hb : 1 ≤ ansF f D.t.ans o.h) : DI (D.touch i o c bs) f B O u ∨ ∃ er, D.touch i o c bs = D.refused c er := by
  unfold Dsk.touch
  split
  · exact .inr ⟨_, rfl⟩
  · split
    · exact .inr ⟨_, rfl⟩
    · split
      · rename_i he
        refine .inl (h.execd ho he ?_ hb)
        unfold touchX
        split
        · exact ⟨by show (0 : Int) ≤ 1 ∧ (1 : Int) ≤ 2; omega, .inl rfl⟩
        · exact ⟨by show (0 : Int) ≤ 0 ∧ (0 : Int) ≤ 2; omega, .inr (by show V8.zero zV8 = true; decide)⟩
      · exact .inr ⟨_, rfl⟩
theorem kind_ne (o : Ope) : o.kind ≠ 0 := by
  unfold Ope.kind; split
  · decide
  · split <;> decide
theorem DI.commit (h : DI D f B O u) {i : Nat} {o : Ope} (ho : D.s.l[i]? = some o) (h0 : o.ph = 0) (hm : D.t.mail = []) (hb : 1 ≤ ansF f D.t.ans o.h) : DI (D.commit i o) f B O u := by
  have hmem := List.mem_of_getElem? ho
  have hmay := h.ok.well.may o hmem
  have hsh := h.ok.well.shok o hmem
  obtain ⟨a1, a2, a3, a4⟩ := may_named hmay
  obtain ⟨b1, b2⟩ := may_at0 hmay h0
  have h1 : DI (D.seen ⟨3, o.nm, 0, zV8, 0⟩) f B O u := h.step (y := ⟨3, o.nm, 0, zV8, 0⟩) (by show (3 : Int) ≠ 0; decide) (by show (3 : Int) ≠ 4; decide) hmem rfl
  unfold Dsk.commit Dsk.commit0
  split
  · have h2 : DI (((D.seen ⟨3, o.nm, 0, zV8, 0⟩).end0 o.nm).seen ⟨5, o.nm, 0, zV8, 0⟩) f B O u := (h1.end0 o.nm).step (y := ⟨5, o.nm, 0, zV8, 0⟩) (by show (5 : Int) ≠ 0; decide) (by show (5 : Int) ≠ 4; decide) hmem rfl
    refine h2.ended ho 3 0 0 true (by decide) (fun m hm' => ?_) (fun _ => hb)
    rw [show (((D.seen ⟨3, o.nm, 0, zV8, 0⟩).end0 o.nm).seen ⟨5, o.nm, 0, zV8, 0⟩).t.mail = [] from hm] at hm'
    exact absurd hm' (by simp)
  · split
    · rename_i h2 h3
      obtain ⟨c1, c2, c3⟩ := lone_is hsh h2 h3
      have h4 : DI ((D.seen ⟨3, o.nm, 0, zV8, 0⟩).setO i { o with ph := 2, at_ := loneB o.sh }) f B O u := h1.setO ho rfl (may_intro a1 a2 a3 a4 (fun _ => b2) (.inr (.inr (.inl ⟨rfl, by show 1 ≤ (loneB o.sh : Int) ∧ (loneB o.sh : Int) ≤ 4; omega, by show o.sh = 1 * (2 : Int) ^ ((loneB o.sh : Int)).toNat; rw [Int.toNat_natCast]; exact c3⟩)))) hsh (fun _ => hb)
      exact h4.mailed ((names_set (i := i) (o' := { o with ph := 2, at_ := loneB o.sh }) ho rfl o.nm).2 ⟨o, hmem, rfl⟩)
    · rename_i h2 h3
      exact (h1.setO (o' := { o with ph := 3 }) ho rfl (may_intro a1 a2 a3 a4 (fun _ => b2) (.inr (.inr (.inr ⟨rfl, b1, h3⟩)))) hsh (fun _ => hb)).com0 o.nm
theorem DI.refuse (h : DI D f B O u) {i : Nat} {o : Ope} (ho : D.s.l[i]? = some o) (but : Int) : DI (D.mails (refuseP o but 4)) f B O u :=
  h.maileds fun m hm => ⟨o, List.mem_of_getElem? ho, (refuseP_mem o but 4 m hm).2.2.symm⟩
theorem refuse_all {o : Ope} {but : Int} (hm : ∀ m ∈ D.t.mail, m.kind = 6 ∧ m.yes = false) : ∀ m ∈ (D.mails (refuseP o but 4)).t.mail, m.kind = 6 ∧ m.yes = false := fun m hq => by
  rcases List.mem_append.1 hq with h1 | h1
  · exact hm m h1
  · exact ⟨(refuseP_mem o but 4 m h1).1, (refuseP_mem o but 4 m h1).2.1⟩
theorem no_mail (h : D.t.mail = []) : ∀ m ∈ D.t.mail, m.kind = 6 ∧ m.yes = false := fun m hq => by rw [h] at hq; exact absurd hq (by simp)
theorem DI.did (h : DI D f B O u) {i : Nat} {o : Ope} (ho : D.s.l[i]? = some o) (h1 : o.ph = 1) (hm : D.t.mail = []) (m : Msg) : DI (D.did i o m) f B O u := by
  have hmem := List.mem_of_getElem? ho
  have hmay := h.ok.well.may o hmem
  obtain ⟨a1, a2, a3, a4⟩ := may_named hmay
  have hb := h.busy o hmem (by omega)
  unfold Dsk.did
  split
  · have h2 : DI (D.setO i { o with ph := 0, at_ := 0, ex := zMg }) f B O u := h.setO ho rfl (may_intro a1 a2 a3 a4 (fun _ => rfl) (.inl ⟨rfl, rfl⟩)) (h.ok.well.shok o hmem) (fun e => absurd rfl e)
    have hset : ∀ q ∈ D.s.l.set i { o with ph := 0, at_ := 0, ex := zMg }, q.ph ≠ 0 → q.h ≠ o.h := fun q hq hph e => by
      have hap := h2.ok.well.apart
      have hil := (List.getElem?_eq_some_iff.1 ho).1
      have hi : (D.s.l.set i { o with ph := 0, at_ := 0, ex := zMg })[i]? = some { o with ph := 0, at_ := 0, ex := zMg } := by simp [hil]
      obtain ⟨j, hj⟩ := List.getElem?_of_mem hq
      rcases Nat.lt_trichotomy j i with h3 | h3 | h3
      · have := (apart_get hap h3 hj hi).1
        have : q.h < o.h := this
        omega
      · subst h3
        rw [hi] at hj
        have := Option.some.inj hj
        subst this
        exact hph rfl
      · have := (apart_get hap h3 hi hj).1
        have : o.h < q.h := this
        omega
    have h3 : DI ((D.setO i { o with ph := 0, at_ := 0, ex := zMg }).answer (Dsk.didA o m)) f B O u := h2.answered (y := Dsk.didA o m) (fun _ => hb) (fun _ => hset)
    refine h3.step (y := Dsk.didS o m) ?_ ?_ (o := { o with ph := 0, at_ := 0, ex := zMg }) (List.mem_of_getElem? (i := i) (by simp [(List.getElem?_eq_some_iff.1 ho).1])) rfl
    · show (if o.kind = 1 then (1 : Int) else 2) ≠ 0; split <;> decide
    · show (if o.kind = 1 then (1 : Int) else 2) ≠ 4; split <;> decide
  · split
    · rename_i h2
      obtain ⟨-, -, -, -, e5, e6⟩ := execMay_iff (may_at1 hmay h1).2.2
      exact h.execd ho h2.2 ⟨⟨e5.1, e5.2.1⟩, e6⟩ hb
    · exact (h.refuse ho m.frm).ended ho o.kind m.e m.e true (kind_ne o) (refuse_all (no_mail hm)) (fun _ => hb)
theorem DI.lost (h : DI D f B O u) {i : Nat} {o : Ope} (ho : D.s.l[i]? = some o) (hm : ∀ m ∈ D.t.mail, m.kind = 6 ∧ m.yes = false) (sh : Int) : DI (D.lost i o sh) f B O u ∧ ∀ m ∈ (D.lost i o sh).t.mail, m.kind = 6 ∧ m.yes = false := by
  have hmem := List.mem_of_getElem? ho
  have hb : (o.ph != 0) = true → 1 ≤ ansF f D.t.ans o.h := fun e => h.busy o hmem (by simpa using e)
  unfold Dsk.lost
  split
  · exact ⟨(h.refuse ho sh).ended ho o.kind 121 121 _ (kind_ne o) (refuse_all hm) hb, refuse_all hm⟩
  · exact ⟨h.ended ho o.kind 122 122 _ (kind_ne o) hm hb, hm⟩
end
/-- between two acts -/
abbrev SI (s : Ses) (f : Int → Int) (B O : List Nm) (u : Int → Int) : Prop := ∀ of, DI ⟨s, Tol.none, of⟩ f B O u
theorem SI.start {u : Int → Int} : SI ⟨[], 0, 1, []⟩ (fun _ => 0) [] [] u := fun of =>
  ⟨⟨⟨by show (1 : Int) ≤ 1 ∧ (1 : Int) ≤ 1048576; omega, by show (0 : Int) ≤ 0 ∧ (0 : Int) ≤ 1099511627776; omega, by show 0 ≤ 8; omega, fun o ho => absurd ho (by simp), fun o ho => absurd ho (by simp), fun o ho => absurd ho (by simp), List.Pairwise.nil, fun o ho => absurd ho (by simp)⟩, fun o ho => absurd ho (by simp), fun o ho => absurd ho (by simp), fun o ho => absurd ho (by simp), fun o ho => absurd ho (by simp)⟩,
    AnsOk.nil _, fun _ => Int.le_refl _, fun o ho => absurd ho (by simp), fun k y h => absurd h (by simp [Tol.none]), fun n => by simp [seenB, Tol.none], fun n => by simp [seenO, Tol.none], fun m hm => absurd hm (by simp [Tol.none])⟩
theorem DI.next {D : Dsk} {f : Int → Int} {B O : List Nm} {u : Int → Int} (h : DI D f B O u) : SI D.s (ansF f D.t.ans) (seenB B D.t.seen) (seenO O D.t.seen) u := fun of =>
  ⟨h.ok, AnsOk.nil _, h.nn, h.busy, fun k y h => absurd h (by simp [Tol.none]), fun n => by rw [show seenB (seenB B D.t.seen) Tol.none.seen = seenB B D.t.seen by simp [seenB, Tol.none]]; exact h.hB n, fun n => by rw [show seenO (seenO O D.t.seen) Tol.none.seen = seenO O D.t.seen by simp [seenO, Tol.none]]; exact h.hO n, fun m hm => absurd hm (by simp [Tol.none])⟩
theorem SI.end_ {s s' : Ses} {t' : Tol} {f : Int → Int} {B O : List Nm} {u : Int → Int} (h : SI s f B O u) {n : Nm} {er : Int} (hR : EndR s n er s' t') : DI ⟨s', t', zOf⟩ f B O u := by
  obtain ⟨i, o, D', ho, -, hph, rfl, rfl, hD⟩ := hR
  have hmem := List.mem_of_getElem? ho
  have hb := (h zOf).busy o hmem (by omega)
  rcases hD with ⟨-, rfl⟩ | ⟨-, rfl⟩ | ⟨-, rfl⟩
  · exact (h zOf).ended ho 3 0 0 true (by decide) (no_mail rfl) (fun _ => hb)
  · exact ((h zOf).refuse ho 0).ended ho 3 50 50 true (by decide) (refuse_all (no_mail rfl)) (fun _ => hb)
  · exact (h zOf).ended ho 3 121 121 true (by decide) (no_mail rfl) (fun _ => hb)
theorem SI.hear {s s' : Ses} {t' : Tol} {f : Int → Int} {B O : List Nm} {u : Int → Int} (h : SI s f B O u) {of : Of8} {m : Msg} (hR : HearR s of m s' t') : DI ⟨s', t', of⟩ f B O u := by
  rcases hR with ⟨rfl, rfl, -⟩ | ⟨i, o, D', ho, -, rfl, rfl, hD⟩
  · exact h of
  · have hmem := List.mem_of_getElem? ho
    rcases hD with ⟨-, h1, -, -, rfl⟩ | ⟨-, h1, -, rfl⟩
    · have := (h of).did ho h1 rfl m
      exact ⟨this.ok, this.ans, this.nn, this.busy, this.seen, this.hB, this.hO, this.mail⟩
    · exact (h of).ended ho 3 m.e m.e true (by decide) (no_mail rfl) (fun _ => (h of).busy o hmem (by omega))
theorem tickP_mem {s : Ses} {u : Int → Int} (h : s.Ok u) {m : Msg} (hm : m ∈ tickP s.l) : ∃ o ∈ s.l, o.nm = m.name := by
  unfold tickP at hm
  obtain ⟨o, ho, h1⟩ := List.mem_flatMap.1 hm
  refine ⟨o, ho, ?_⟩
  unfold tickM at h1
  split at h1
  · obtain rfl := List.mem_singleton.1 h1
    exact (execMay_iff (may_at1 (h.well.may o ho) (by assumption)).2.2).1.symm
  · split at h1
    · obtain rfl := List.mem_singleton.1 h1; rfl
    · exact absurd h1 (by simp)
theorem SI.tick {s : Ses} {f : Int → Int} {B O : List Nm} {u : Int → Int} (h : SI s f B O u) : DI ⟨s, { Tol.none with mail := tickP s.l }, zOf⟩ f B O u :=
  (h zOf).maileds fun _ hm => tickP_mem (h zOf).ok hm
theorem SI.anew {s : Ses} {f : Int → Int} {B O : List Nm} {u : Int → Int} (h : SI s f B O u) {sh i : Nat} {D : Dsk} (hA : AnewTo s sh i D) : DI D f B O u ∧ ∀ m ∈ D.t.mail, m.kind = 6 ∧ m.yes = false := by
  induction hA with
  | start => exact ⟨h zOf, no_mail rfl⟩
  | pass _ _ _ ih => exact ih
  | lose _ ho _ _ ih => exact ih.1.lost ho ih.2 sh
theorem bump_le (f : Int → Int) (h z : Int) : f z ≤ bump f h z := by
  unfold bump; split
  · rename_i e; rw [e]; omega
  · exact Int.le_refl _
theorem SI.bump {s : Ses} {f : Int → Int} {B O : List Nm} {u : Int → Int} (h : SI s f B O u) (k : Int) : SI s (bump f k) B O u := fun of =>
  let q := h of
  ⟨q.ok, AnsOk.nil _, fun z => Int.le_trans (q.nn z) (bump_le f k z), fun o ho hp => Int.le_trans (q.busy o ho hp) (bump_le f k _), q.seen, q.hB, q.hO, q.mail⟩
theorem SI.refused {s : Ses} {f : Int → Int} {B O : List Nm} {u : Int → Int} (h : SI s f B O u) (of : Of8) (c : Cal) (er : Int) : DI (Dsk.refused ⟨s, Tol.none, of⟩ c er) (if c.kind = 0 then f else Go.Proofs.Ytniijiipkfhjgaa.bump f c.h) B O u := by
  have q := h of
  have he : ansF (if c.kind = 0 then f else Go.Proofs.Ytniijiipkfhjgaa.bump f c.h) [⟨c.c, c.h, er, zV8, 0, c.kind⟩] = f := by
    funext z
    show ansG _ _ z = _
    unfold ansG
    by_cases h0 : c.kind = 0
    · rw [if_pos h0, if_pos h0]
    · rw [if_neg h0, if_neg h0]
      show (if z = c.h then (if c.h = c.h then f c.h + 1 else f c.h) - 1 else if z = c.h then f c.h + 1 else f z) = f z
      by_cases hz : z = c.h
      · rw [if_pos hz, if_pos rfl, hz]; omega
      · rw [if_neg hz, if_neg hz]
  refine ⟨q.ok, fun k y hy hk => ?_, fun z => ?_, fun o ho hp => ?_, q.seen, q.hB, q.hO, q.mail⟩
  · rcases snoc_get (l := []) hy with ⟨h1, -⟩ | ⟨h1, rfl, h3⟩
    · exact absurd h1 (by simp)
    · subst h1
      rw [if_neg hk]
      have := q.nn c.h
      show 1 ≤ (if c.h = c.h then f c.h + 1 else f c.h)
      rw [if_pos rfl]
      have : 0 ≤ f c.h := this
      omega
  · show 0 ≤ ansF _ [_] z; rw [he]; exact q.nn z
  · show 1 ≤ ansF _ [_] o.h; rw [he]; exact q.busy o ho hp
theorem SI.begin {s : Ses} {f : Int → Int} {B O : List Nm} {u : Int → Int} (h : SI s f B O u) (of : Of8) (c : Cal) (hk : c.kind = 0) {st : Int} (hst : 0 ≤ st ∧ st ≤ 1048576)
    (hu : c.stamp = 0 → (∀ o ∈ s.l, o.nm.stamp ≠ st) ∧ (∀ x ∈ s.over, x.stamp ≠ st) ∧ 1 ≤ u st) : DI (Dsk.begin ⟨s, Tol.none, of⟩ c st) f B O u := by
  unfold Dsk.begin
  split
  · rename_i hn
    obtain ⟨h1, h2, h3, st', tr, hnm, h4, h5, h6⟩ := nameP_ok (s := s) hn
    have q := h of
    rw [show (nameP (⟨s, Tol.none, of⟩ : Dsk).s c st).1 = ⟨st', s.inc, tr + 1⟩ from hnm]
    have key : 0 ≤ tr ∧ (1 ≤ st' ∧ st' ≤ 1048576) ∧ (∀ x ∈ s.over, x.stamp = st' → x.c = c.c ∧ x.try_ ≤ tr) ∧ 1 ≤ u st' := by
      rcases h6 with ⟨e1, rfl, rfl, e4⟩ | ⟨e1, rfl, rfl, e4⟩
      · obtain ⟨g1, g2, g3⟩ := hu e1
        exact ⟨by omega, by omega, fun x hx e => absurd e (g2 x hx), g3⟩
      · obtain ⟨x0, hx0, g1, g2⟩ := triesP_some _ e4
        have hEnd := q.ok.well.ends x0 hx0
        obtain ⟨-, -, -, hnam⟩ := hEnd
        have hr : (1 ≤ x0.stamp ∧ x0.stamp ≤ 1048576) ∧ 1 ≤ x0.try_ := by
          simp only [Nm.named, withinB, Bool.and_eq_true, decide_eq_true_eq] at hnam
          omega
        have hle := triesP_le hx0 g1 g2
        refine ⟨by omega, by rw [← g1]; exact hr.1, fun x hx e => ?_, by rw [← g1]; exact q.ok.usedO x0 hx0⟩
        have hc : x.c = c.c := by rw [← g2]; exact q.ok.one x hx x0 hx0 (by rw [e, g1])
        exact ⟨hc, triesP_le hx e hc⟩
    obtain ⟨k1, k2, k3, k4⟩ := key
    have hB0 : seenB B [(⟨0, ⟨st', s.inc, tr + 1⟩, 0, zV8, 0⟩ : Seen_)] = seenB B [] ++ [⟨st', s.inc, tr + 1⟩] := by
      have := seenB_snoc B [] ⟨0, ⟨st', s.inc, tr + 1⟩, 0, zV8, 0⟩
      rw [if_pos rfl] at this; exact this
    have hO0 : seenO O [(⟨0, ⟨st', s.inc, tr + 1⟩, 0, zV8, 0⟩ : Seen_)] = seenO O [] := by
      have := seenO_snoc O [] ⟨0, ⟨st', s.inc, tr + 1⟩, 0, zV8, 0⟩
      rw [if_neg (show (0 : Int) ≠ 4 by decide)] at this; exact this
    have hA : ∀ z, ansF f [(⟨c.c, s.last + 1, 0, zV8, st', c.kind⟩ : Ans)] z = f z := fun z => by
      show ansG f _ z = _
      unfold ansG; rw [if_pos hk]
    have hmem : ∀ o ∈ s.l ++ [newOpe (s.last + 1) c.c ⟨st', s.inc, tr + 1⟩], o ∈ s.l ∨ o = newOpe (s.last + 1) c.c ⟨st', s.inc, tr + 1⟩ := fun o ho => by simpa using ho
    refine ⟨q.ok.more h1 h2 h3 h4 ⟨k1, h5⟩ k2 k3 k4, fun k y hy hk' => ?_, fun z => ?_, fun o ho hp => ?_, fun k y hy => ?_, fun n => ?_, fun n => ?_, fun m hm => absurd hm (by simp [Tol.none])⟩
    · rcases snoc_get (l := []) hy with ⟨h7, -⟩ | ⟨-, rfl, -⟩
      · exact absurd h7 (by simp)
      · exact absurd hk hk'
    · show 0 ≤ ansF f [_] z; rw [hA]; exact q.nn z
    · show 1 ≤ ansF f [_] o.h
      rw [hA]
      rcases hmem o ho with h7 | rfl
      · exact q.busy o h7 hp
      · exact absurd rfl hp
    · rcases snoc_get (l := []) hy with ⟨h7, -⟩ | ⟨h7, rfl, -⟩
      · exact absurd h7 (by simp)
      · subst h7
        refine ⟨fun _ hin => ?_, fun e => absurd rfl e⟩
        rcases (q.hB _).1 hin with ⟨o, ho, e⟩ | ⟨x, hx, e⟩
        · exact h4 o ho (by rw [e])
        · have := (k3 x hx (congrArg Nm.stamp e)).2
          have e2 : x.try_ = tr + 1 := congrArg Nm.try_ e
          omega
    · show n ∈ seenB B [_] ↔ (∃ o ∈ s.l ++ [_], o.nm = n) ∨ ∃ x ∈ s.over, x.nm s.inc = n
      rw [hB0, List.mem_append, List.mem_singleton, show n ∈ seenB B [] ↔ _ from q.hB n]
      constructor
      · rintro ((⟨o, ho, e⟩ | h7) | e)
        · exact .inl ⟨o, List.mem_append_left _ ho, e⟩
        · exact .inr h7
        · exact .inl ⟨_, List.mem_append_right _ (List.mem_singleton.2 rfl), e.symm⟩
      · rintro (⟨o, ho, e⟩ | h7)
        · rcases hmem o ho with h8 | rfl
          · exact .inl (.inl ⟨o, h8, e⟩)
          · exact .inr e.symm
        · exact .inl (.inr h7)
    · show n ∈ seenO O [_] ↔ ∃ x ∈ s.over, x.nm s.inc = n
      rw [hO0]; exact q.hO n
  · have := h.refused of { c with h := 0 } (nameP s c st).2
    rw [if_pos (show ({ c with h := 0 } : Cal).kind = 0 from hk)] at this
    exact this
theorem SI.call {s : Ses} {f : Int → Int} {B O : List Nm} {u : Int → Int} (h : SI s f B O u) (of : Of8) (c : Cal) (bs : List UInt8) (hk : 0 ≤ c.kind ∧ c.kind ≤ 4) {st : Int} (hst : 0 ≤ st ∧ st ≤ 1048576)
    (hu : c.kind = 0 → c.stamp = 0 → (∀ o ∈ s.l, o.nm.stamp ≠ st) ∧ (∀ x ∈ s.over, x.stamp ≠ st) ∧ 1 ≤ u st) {D' : Dsk} (hR : Dsk.DoesR ⟨s, Tol.none, of⟩ c bs st D') : DI D' (if c.kind = 0 then f else Go.Proofs.Ytniijiipkfhjgaa.bump f c.h) B O u := by
  rcases hR with ⟨h0, rfl⟩ | ⟨h0, ⟨⟨er, rfl⟩, -⟩ | ⟨i, o, ho, e1, e2, hph, hD⟩⟩
  · rw [if_pos h0]; exact h.begin of c h0 hst (hu h0)
  · exact h.refused of c er
  · rw [if_neg h0]
    have q := h.bump c.h of
    have hb : 1 ≤ Go.Proofs.Ytniijiipkfhjgaa.bump f c.h o.h := by
      have := (h of).nn c.h
      have : 0 ≤ f c.h := this
      unfold Go.Proofs.Ytniijiipkfhjgaa.bump; rw [if_pos e1]; omega
    rcases hD with ⟨-, rfl⟩ | ⟨h4, rfl⟩ | ⟨-, rfl⟩
    · exact q.commit ho hph rfl hb
    · exact (q.refuse ho 0).ended ho c.kind 4 0 true h0 (refuse_all (no_mail rfl)) (fun _ => hb)
    · rcases q.touch ho (c := c) (bs := bs) hb with h5 | ⟨er, h5⟩
      · exact h5
      · have := h.refused of c er
        rw [if_neg h0] at this
        rw [h5]; exact this
end Go.Proofs.Ytniijiipkfhjgaa

namespace Go.Proofs.Ytniijiipkfhjgaa
open Go.RowKit Go.Sort
instance : DecidableEq Nm := fun _ _ => decidable_of_iff _ Nm.eqb_iff
def put2 (g : Int → Int → Int) (a b v : Int) : Int → Int → Int := fun x y => if x = a ∧ y = b then v else g x y
theorem put2_same {g : Int → Int → Int} {a b v : Int} (h : g a b = v) : put2 g a b v = g := by
  funext x y
  unfold put2
  split
  · rename_i e; rw [e.1, e.2, h]
  · rfl
/-- the handle of a name among these; 0: there is none -/
def hOf (l : List Ope) (n : Nm) : Int := l.foldl (fun a o => if o.nm = n then o.h else a) 0
theorem hOf_snoc (l : List Ope) (o : Ope) (n : Nm) : hOf (l ++ [o]) n = if o.nm = n then o.h else hOf l n := by unfold hOf; rw [List.foldl_append]; rfl
theorem hOf_eq {l : List Ope} (hap : (keys l).Pairwise Apart) {o : Ope} (ho : o ∈ l) : hOf l o.nm = o.h := by
  have hu : ∀ q ∈ l, q.nm = o.nm → q.h = o.h := fun q hq e => by
    obtain ⟨i, hi⟩ := List.getElem?_of_mem ho
    obtain ⟨j, hj⟩ := List.getElem?_of_mem hq
    rcases Nat.lt_trichotomy i j with h | h | h
    · exact absurd (congrArg Nm.stamp e).symm (apart_get hap h hi hj).2
    · subst h; rw [hi] at hj; rw [Option.some.inj hj]
    · exact absurd (congrArg Nm.stamp e) (apart_get hap h hj hi).2
  have key : ∀ (l : List Ope) (a : Int), (∀ q ∈ l, q.nm = o.nm → q.h = o.h) → (a = o.h ∨ ∃ q ∈ l, q.nm = o.nm) → l.foldl (fun a q => if q.nm = o.nm then q.h else a) a = o.h := by
    intro l
    induction l with
    | nil =>
      rintro a - (h | ⟨q, hq, -⟩)
      · exact h
      · exact absurd hq (by simp)
    | cons q l ih =>
      intro a h1 h2
      rw [List.foldl_cons]
      refine ih _ (fun q hq => h1 q (List.mem_cons_of_mem _ hq)) ?_
      by_cases e : q.nm = o.nm
      · rw [if_pos e]; exact .inl (h1 q (by simp) e)
      · rw [if_neg e]
        rcases h2 with h2 | ⟨r, hr, e2⟩
        · exact .inl h2
        · rcases List.mem_cons.1 hr with rfl | h3
          · exact absurd e2 e
          · exact .inr ⟨r, h3, e2⟩
  exact key l 0 hu (.inr ⟨o, ho, rfl⟩)
def lastG (l : List Ope) (g : Int → Int → Int) (m : Msg) : Int → Int → Int := if m.kind = 2 then put2 g (hOf l m.name) m.to m.n else g
def lastF (l : List Ope) (g : Int → Int → Int) (ms : List Msg) : Int → Int → Int := ms.foldl (lastG l) g
theorem lastF_snoc (l : List Ope) (g : Int → Int → Int) (ms : List Msg) (m : Msg) : lastF l g (ms ++ [m]) = lastG l (lastF l g ms) m := by unfold lastF; rw [List.foldl_append]; rfl
theorem lastF_same {l : List Ope} {g : Int → Int → Int} : ∀ (ms : List Msg), (∀ m ∈ ms, m.kind = 2 → g (hOf l m.name) m.to = m.n) → lastF l g ms = g
  | [], _ => rfl
  | m :: ms, h => by
    have e : lastG l g m = g := by
      unfold lastG; split
      · exact put2_same (h m (by simp) (by assumption))
      · rfl
    show lastF l (lastG l g m) ms = g
    rw [e]; exact lastF_same ms fun q hq => h q (List.mem_cons_of_mem _ hq)
/-- the numbers of these messages are as the law wants them -/
def LastOk (tick : Prop) (l : List Ope) (g : Int → Int → Int) (ms : List Msg) : Prop := ∀ (k : Nat) (m : Msg), ms[k]? = some m → m.kind = 2 →
  hOf l m.name ≠ 0 ∧ lastF l g (ms.take k) (hOf l m.name) m.to ≤ m.n ∧ m.n ≤ lastF l g (ms.take k) (hOf l m.name) m.to + 1 ∧ (tick → m.n = lastF l g (ms.take k) (hOf l m.name) m.to) ∧ 0 ≤ lastF l g (ms.take k) (hOf l m.name) m.to ∧ lastF l g (ms.take k) (hOf l m.name) m.to ≤ 1048576
theorem LastOk.quiet {tick : Prop} {l : List Ope} {g : Int → Int → Int} {ms : List Msg} (h : ∀ m ∈ ms, m.kind ≠ 2) : LastOk tick l g ms ∧ lastF l g ms = g :=
  ⟨fun k m hm hk => absurd hk (h m (List.mem_of_getElem? hm)), lastF_same ms fun m hm hk => absurd hk (h m hm)⟩
/-- what is held of numbers and tries between two acts -/
structure NI (s : Ses) (g T : Int → Int → Int) : Prop where
  eq : ∀ o ∈ s.l, ∀ k : Nat, 1 ≤ k → k ≤ 4 → g o.h k = o.nAt k
  new : ∀ h k, s.last < h → g h k = 0
  t1 : ∀ o ∈ s.l, T o.c o.nm.stamp = o.nm.try_
  t2 : ∀ c st, (∀ o ∈ s.l, ¬ (o.c = c ∧ o.nm.stamp = st)) → T c st = triesP st c s.over
section
variable {s : Ses} {g T : Int → Int → Int} {u : Int → Int}
theorem NI.setO (h : NI s g T) {i : Nat} {o o' : Ope} (ho : s.l[i]? = some o) (e : o'.key = o.key) (hn : ∀ k, o'.nAt k = o.nAt k) : NI { s with l := s.l.set i o' } g T := by
  have hmem := List.mem_of_getElem? ho
  refine ⟨fun q hq k h1 h4 => ?_, h.new, fun q hq => ?_, fun c st hno => ?_⟩
  · rcases mem_set hq with h5 | rfl
    · exact h.eq q h5 k h1 h4
    · rw [show q.h = o.h from congrArg Key.h e, hn]; exact h.eq o hmem k h1 h4
  · rcases mem_set hq with h5 | rfl
    · exact h.t1 q h5
    · rw [show q.c = o.c from congrArg Key.c e, show q.nm = o.nm from congrArg Key.nm e]; exact h.t1 o hmem
  · refine h.t2 c st fun q hq e2 => ?_
    obtain ⟨k, hk, e3⟩ : ∃ k ∈ keys (s.l.set i o'), k = q.key := ⟨q.key, by rw [keys_set ho e]; exact mem_keys.2 ⟨q, hq, rfl⟩, rfl⟩
    obtain ⟨r, hr, e4⟩ := mem_keys.1 hk
    have e5 : r.key = q.key := by rw [e4, e3]
    refine hno r hr ⟨?_, ?_⟩
    · rw [show r.c = q.c from congrArg Key.c e5]; exact e2.1
    · rw [show r.nm = q.nm from congrArg Key.nm e5]; exact e2.2
theorem NI.end_ (h : NI s g T) (hok : s.Ok u) {i : Nat} {o : Ope} (ho : s.l[i]? = some o) (er : Int) : NI (s.end_ i o er) g T := by
  have hmem := List.mem_of_getElem? ho
  have hap := hok.well.apart
  obtain ⟨a1, -⟩ := may_named (hok.well.may o hmem)
  have htr : 1 ≤ o.nm.try_ := by
    simp only [Nm.named, withinB, Bool.and_eq_true, decide_eq_true_eq] at a1; omega
  refine ⟨fun q hq => h.eq q (List.mem_of_mem_eraseIdx hq), h.new, fun q hq => h.t1 q (List.mem_of_mem_eraseIdx hq), fun c st hno => ?_⟩
  show T c st = triesP st c (s.over ++ [_])
  rw [triesP_snoc]
  by_cases he : o.c = c ∧ o.nm.stamp = st
  · rw [if_pos ⟨he.2, he.1⟩]
    have h1 := h.t1 o hmem
    rw [he.1, he.2] at h1
    rw [h1]
    have h2 : triesP st c s.over < o.nm.try_ := triesP_lt (by omega) s.over fun x hx e1 e2 => (hok.own o hmem x hx (by rw [he.2, e1])).2
    show _ = max _ o.nm.try_
    omega
  · rw [if_neg (fun e => he ⟨e.2, e.1⟩)]
    refine h.t2 c st fun q hq e => ?_
    by_cases hh : q.h = o.h
    · have : q = o := by
        obtain ⟨j, hj⟩ := List.getElem?_of_mem hq
        rcases Nat.lt_trichotomy j i with h2 | h2 | h2
        · have := (apart_get hap h2 hj ho).1; omega
        · subst h2; rw [ho] at hj; exact (Option.some.inj hj).symm
        · have := (apart_get hap h2 ho hj).1; omega
      subst this; exact he e
    · exact hno q (mem_of_ne ho hq hh) e
theorem NI.more (h : NI s g T) (hok : s.Ok u) {c st tr : Int} (hno : ∀ o ∈ s.l, o.nm.stamp ≠ st) (ht : T c st ≤ tr) : NI (s.more c ⟨st, s.inc, tr + 1⟩) g (put2 T c st (max (T c st) (tr + 1))) := by
  have hmem : ∀ q ∈ s.l ++ [newOpe (s.last + 1) c ⟨st, s.inc, tr + 1⟩], q ∈ s.l ∨ q = newOpe (s.last + 1) c ⟨st, s.inc, tr + 1⟩ := fun q hq => by simpa using hq
  refine ⟨fun q hq k h1 h4 => ?_, fun z k hz => h.new z k (by have : s.last + 1 < z := hz; omega), fun q hq => ?_, fun c' st' hno' => ?_⟩
  · rcases hmem q hq with h5 | rfl
    · exact h.eq q h5 k h1 h4
    · show g (s.last + 1) k = Ope.nAt _ k
      rw [h.new _ _ (by omega)]
      have : k = 1 ∨ k = 2 ∨ k = 3 ∨ k = 4 := by omega
      rcases this with rfl | rfl | rfl | rfl <;> rfl
  · rcases hmem q hq with h5 | rfl
    · unfold put2; rw [if_neg (fun e => hno q h5 e.2)]; exact h.t1 q h5
    · show put2 T c st _ c st = tr + 1
      unfold put2; rw [if_pos ⟨rfl, rfl⟩]; omega
  · have h6 : ¬ (c' = c ∧ st' = st) := fun e => hno' _ (List.mem_append_right _ (List.mem_singleton.2 rfl)) ⟨e.1.symm, e.2.symm⟩
    show put2 T c st _ c' st' = triesP st' c' s.over
    unfold put2; rw [if_neg h6]
    exact h.t2 c' st' fun q hq => hno' q (List.mem_append_left _ hq)
theorem NI.exec (h : NI s g T) (hok : s.Ok u) {i : Nat} {o : Ope} (ho : s.l[i]? = some o) {k : Nat} (h1 : 1 ≤ k) (h4 : k ≤ 4) (x : Msg) : NI { s with l := s.l.set i (o.execd k x) } (put2 g o.h k (o.nAt k + 1)) T := by
  have hmem := List.mem_of_getElem? ho
  have hap := hok.well.apart
  have hil := (List.getElem?_eq_some_iff.1 ho).1
  refine ⟨fun q hq j j1 j4 => ?_, fun z j hz => ?_, fun q hq => ?_, fun c st hno => ?_⟩
  · obtain ⟨r, hr⟩ := List.getElem?_of_mem hq
    rw [List.getElem?_set] at hr
    split at hr
    · rename_i e; subst e
      obtain rfl := Option.some.inj hr
      show put2 g o.h k _ o.h j = (o.execd k x).nAt j
      unfold put2
      by_cases e : j = k
      · subst e
        rw [if_pos ⟨rfl, rfl⟩]; exact (Ope.nAt_set o _ j4).symm
      · rw [if_neg (by omega), h.eq o hmem j j1 j4]; exact (Ope.nAt_ne o _ h4 j4 e).symm
    · rename_i e
      have hne : q.h ≠ o.h := by
        rcases Nat.lt_or_gt_of_ne e with h2 | h2
        · have := (apart_get hap h2 ho hr).1; omega
        · have := (apart_get hap h2 hr ho).1; omega
      unfold put2
      rw [if_neg (fun e => hne e.1)]; exact h.eq q (List.mem_of_getElem? hr) j j1 j4
  · have := (hok.well.pos o hmem).2
    have hz' : s.last < z := hz
    unfold put2; rw [if_neg (by omega)]; exact h.new z j hz'
  · rcases mem_set hq with h5 | rfl
    · exact h.t1 q h5
    · exact h.t1 o hmem
  · refine h.t2 c st fun q hq e2 => ?_
    obtain ⟨k', hk, e3⟩ : ∃ k' ∈ keys (s.l.set i (o.execd k x)), k' = q.key := by
      have h9 := keys_set (o' := o.execd k x) ho rfl
      exact ⟨q.key, h9 ▸ mem_keys.2 ⟨q, by first | exact hq | (show q ∈ _; exact hq), rfl⟩, rfl⟩
    obtain ⟨r, hr, e4⟩ := mem_keys.1 hk
    have e5 : r.key = q.key := by rw [e4, e3]
    refine hno r hr ⟨?_, ?_⟩
    · rw [show r.c = q.c from congrArg Key.c e5]; exact e2.1
    · rw [show r.nm = q.nm from congrArg Key.nm e5]; exact e2.2
end
/-- what the law of numbers wants of a step -/
def NumR (s : Ses) (s' : Ses) (t' : Tol) (g T : Int → Int → Int) (c : Cal) (tick : Prop) : Prop :=
  LastOk tick s'.l g t'.mail ∧ ((s'.last = s.last ∧ NI s' (lastF s'.l g t'.mail) T) ∨
    ∃ st tr, s'.last = s.last + 1 ∧ s'.l = s.l ++ [newOpe (s.last + 1) c.c ⟨st, s.inc, tr + 1⟩] ∧ (0 ≤ T c.c st ∧ T c.c st ≤ tr ∧ tr < 1048576) ∧ (c.stamp ≠ 0 → tr = T c.c st) ∧ NI s' (lastF s'.l g t'.mail) (put2 T c.c st (max (T c.c st) (tr + 1))))
theorem NumR.calm {s s' : Ses} {t' : Tol} {g T : Int → Int → Int} {c : Cal} {tick : Prop} (hq : ∀ m ∈ t'.mail, m.kind ≠ 2) (hl : s'.last = s.last) (h : NI s' g T) : NumR s s' t' g T c tick :=
  ⟨(LastOk.quiet hq).1, .inl ⟨hl, by rw [(LastOk.quiet (tick := tick) (l := s'.l) (g := g) hq).2]; exact h⟩⟩
theorem refuse_quiet (o : Ope) (but : Int) : ∀ m ∈ refuseP o but 4, m.kind ≠ 2 := fun m hm e => by
  rw [(refuseP_mem o but 4 m hm).1] at e; exact absurd e (by decide)
theorem NumR.execd {s : Ses} {of : Of8} {g T : Int → Int → Int} {u : Int → Int} {c : Cal} {i : Nat} {o : Ope} {x : Msg} (h : NI s g T) (hok : s.Ok u) (ho : s.l[i]? = some o) (he : execOk ⟨s, Tol.none, of⟩ o x)
    (hap' : (keys (Dsk.execd ⟨s, Tol.none, of⟩ i o x).s.l).Pairwise Apart) : NumR s (Dsk.execd ⟨s, Tol.none, of⟩ i o x).s (Dsk.execd ⟨s, Tol.none, of⟩ i o x).t g T c False := by
  have hmem := List.mem_of_getElem? ho
  have hsb := shard_bd he.1
  have hil := (List.getElem?_eq_some_iff.1 ho).1
  generalize hk : (shardV of x.block).toNat = k
  have hsb' : 1 ≤ k ∧ k ≤ 4 := by have : 1 ≤ shardV of x.block ∧ shardV of x.block ≤ 4 := hsb; omega
  have hD : Dsk.execd ⟨s, Tol.none, of⟩ i o x = ⟨{ s with l := s.l.set i (o.execd k x) }, { Tol.none with mail := [o.ex1 k x] }, of⟩ := by
    unfold Dsk.execd
    show (Dsk.setO _ i (o.execd (shardV of x.block).toNat x)).mail (o.ex1 (shardV of x.block).toNat x) = _
    rw [hk]; rfl
  rw [hD] at hap' ⊢
  have hh : hOf (s.l.set i (o.execd k x)) o.nm = o.h := hOf_eq (o := o.execd k x) hap' (List.mem_of_getElem? (i := i) (by simp [hil]))
  have hb := touched_bd (may_named (hok.well.may o hmem)).2.2.2 k
  have hg := h.eq o hmem k hsb'.1 hsb'.2
  have hn := he.2
  refine ⟨fun j m hm hm2 => ?_, .inl ⟨rfl, ?_⟩⟩
  · rcases snoc_get (l := []) hm with ⟨h1, -⟩ | ⟨h1, rfl, -⟩
    · exact absurd h1 (by simp)
    · subst h1
      show hOf (s.l.set i (o.execd k x)) o.nm ≠ 0 ∧ g (hOf (s.l.set i (o.execd k x)) o.nm) k ≤ o.nAt k + 1 ∧ o.nAt k + 1 ≤ g (hOf (s.l.set i (o.execd k x)) o.nm) k + 1 ∧ (False → _) ∧ 0 ≤ g (hOf (s.l.set i (o.execd k x)) o.nm) k ∧ g (hOf (s.l.set i (o.execd k x)) o.nm) k ≤ 1048576
      rw [hh, hg]
      have := (hok.well.pos o hmem).1
      exact ⟨by omega, by omega, by omega, fun e => e.elim, by omega, by omega⟩
  · show NI _ (lastG (s.l.set i (o.execd k x)) g (o.ex1 k x)) T
    unfold lastG
    rw [if_pos (show (o.ex1 k x).kind = 2 from rfl)]
    show NI _ (put2 g (hOf (s.l.set i (o.execd k x)) o.nm) k (o.nAt k + 1)) T
    rw [hh]
    exact h.exec hok ho hsb'.1 hsb'.2 x
theorem NI.tick {s : Ses} {g T : Int → Int → Int} {u : Int → Int} (c : Cal) (tick : Prop) (h : NI s g T) (hok : s.Ok u) : NumR s s { Tol.none with mail := tickP s.l } g T c tick := by
  have hall : ∀ m ∈ tickP s.l, m.kind = 2 → ∃ o ∈ s.l, o.nm = m.name ∧ g o.h m.to = m.n ∧ 0 ≤ m.n ∧ m.n ≤ 1048576 := fun m hm hk => by
    unfold tickP at hm
    obtain ⟨o, ho, h1⟩ := List.mem_flatMap.1 hm
    unfold tickM at h1
    split at h1
    · rename_i hp
      obtain rfl := List.mem_singleton.1 h1
      obtain ⟨g1, g2, g3⟩ := may_at1 (hok.well.may o ho) hp
      obtain ⟨e1, e2, e3, e4, -⟩ := execMay_iff g3
      have hb := touched_bd (may_named (hok.well.may o ho)).2.2.2 o.at_.toNat
      refine ⟨o, ho, e1.symm, ?_, by omega, by omega⟩
      have := h.eq o ho o.at_.toNat (by omega) (by omega)
      rw [e3, e4, ← this, Int.toNat_of_nonneg (by omega)]
    · split at h1
      · obtain rfl := List.mem_singleton.1 h1; exact absurd hk (by show ¬ (9 : Int) = 2; decide)
      · exact absurd h1 (by simp)
  have hsame : ∀ m ∈ tickP s.l, m.kind = 2 → g (hOf s.l m.name) m.to = m.n := fun m hm hk => by
    obtain ⟨o, ho, e1, e2, -⟩ := hall m hm hk
    rw [← e1, hOf_eq hok.well.apart ho]; exact e2
  refine ⟨fun k m hm hk => ?_, .inl ⟨rfl, ?_⟩⟩
  · have hm' := List.mem_of_getElem? hm
    obtain ⟨o, ho, e1, e2, e3, e4⟩ := hall m hm' hk
    have := hsame m hm' hk
    have hF : lastF s.l g (List.take k (tickP s.l)) = g := lastF_same _ fun q hq => hsame q (List.mem_of_mem_take hq)
    show hOf s.l m.name ≠ 0 ∧ lastF s.l g (List.take k (tickP s.l)) (hOf s.l m.name) m.to ≤ m.n ∧ m.n ≤ lastF s.l g (List.take k (tickP s.l)) (hOf s.l m.name) m.to + 1 ∧ (_ → m.n = lastF s.l g (List.take k (tickP s.l)) (hOf s.l m.name) m.to) ∧ 0 ≤ lastF s.l g (List.take k (tickP s.l)) (hOf s.l m.name) m.to ∧ lastF s.l g (List.take k (tickP s.l)) (hOf s.l m.name) m.to ≤ 1048576
    rw [hF, this]
    have hp := (hok.well.pos o ho).1
    refine ⟨?_, by omega, by omega, fun _ => rfl, e3, e4⟩
    rw [← e1, hOf_eq hok.well.apart ho]; omega
  · show NI s (lastF s.l g (tickP s.l)) T
    rw [lastF_same _ hsame]; exact h
theorem NI.endR {s s' : Ses} {t' : Tol} {g T : Int → Int → Int} {u : Int → Int} (c : Cal) (tick : Prop) (h : NI s g T) (hok : s.Ok u) {n : Nm} {er : Int} (hR : EndR s n er s' t') : NumR s s' t' g T c tick := by
  obtain ⟨i, o, D', ho, -, hph, rfl, rfl, hD⟩ := hR
  rcases hD with ⟨-, rfl⟩ | ⟨-, rfl⟩ | ⟨-, rfl⟩
  · exact NumR.calm (fun m hm => absurd hm (by simp [Dsk.ended, Tol.none])) rfl (h.end_ hok ho 0)
  · exact NumR.calm (fun m hm => refuse_quiet o 0 m (by simpa [Dsk.ended, Tol.none] using hm)) rfl (h.end_ hok ho 50)
  · exact NumR.calm (fun m hm => absurd hm (by simp [Dsk.ended, Tol.none])) rfl (h.end_ hok ho 121)
theorem NI.hear {s s' : Ses} {t' : Tol} {g T : Int → Int → Int} {u : Int → Int} (c : Cal) (h : NI s g T) (hok : s.Ok u) {of : Of8} {m : Msg} (hap : (keys s'.l).Pairwise Apart) (hR : HearR s of m s' t') : NumR s s' t' g T c False := by
  rcases hR with ⟨rfl, rfl, -⟩ | ⟨i, o, D', ho, -, rfl, rfl, hD⟩
  · exact NumR.calm (fun m hm => absurd hm (by simp [Tol.none])) rfl h
  · rcases hD with ⟨-, h1, -, -, rfl⟩ | ⟨-, h1, -, rfl⟩
    · unfold Dsk.did at hap ⊢
      split at hap
      · rw [if_pos (by assumption)]
        exact NumR.calm (fun m hm => absurd hm (by simp [Tol.none])) rfl (h.setO ho rfl (fun k => by rcases k with _ | _ | _ | _ | k <;> rfl))
      · rw [if_neg (by assumption)]
        split at hap
        · rename_i h2
          rw [if_pos h2]
          exact NumR.execd h hok ho h2.2 hap
        · rw [if_neg (by assumption)]
          exact NumR.calm (fun q hm => refuse_quiet o m.frm q (by simpa [Dsk.ended, Tol.none] using hm)) rfl (h.end_ hok ho m.e)
    · exact NumR.calm (fun m hm => absurd hm (by simp [Dsk.ended, Tol.none])) rfl (h.end_ hok ho m.e)
theorem NI.anew {s : Ses} {g T : Int → Int → Int} {f : Int → Int} {B O : List Nm} {u : Int → Int} (c : Cal) (tick : Prop) (h : NI s g T) (hS : SI s f B O u) {sh i : Nat} {D : Dsk} (hA : AnewTo s sh i D) : NumR s D.s D.t g T c tick := by
  have key : D.s.last = s.last ∧ NI D.s g T := by
    induction hA with
    | start => exact ⟨rfl, h⟩
    | pass _ _ _ ih => exact ih
    | @lose i D o hA ho h1 h2 ih =>
      have hok := (hS.anew hA).1.ok
      have := ih.2.end_ hok ho
      unfold Dsk.lost
      split
      · exact ⟨ih.1, this 121⟩
      · exact ⟨ih.1, this 122⟩
  exact NumR.calm (fun m hm e => by rw [((hS.anew hA).2 m hm).1] at e; exact absurd e (by decide)) key.1 key.2
theorem NI.call {s : Ses} {g T : Int → Int → Int} {u : Int → Int} (h : NI s g T) (hok : s.Ok u) (of : Of8) (c : Cal) (bs : List UInt8) {st : Int}
    (hu : c.kind = 0 → c.stamp = 0 → (∀ x ∈ s.over, x.stamp ≠ st)) {D' : Dsk} (hap : (keys D'.s.l).Pairwise Apart) (hR : Dsk.DoesR ⟨s, Tol.none, of⟩ c bs st D') : NumR s D'.s D'.t g T c False := by
  have href : ∀ (c' : Cal) er, NumR s (Dsk.refused ⟨s, Tol.none, of⟩ c' er).s (Dsk.refused ⟨s, Tol.none, of⟩ c' er).t g T c False := fun c' er => NumR.calm (fun m hm => absurd hm (by simp [Tol.none])) rfl h
  rcases hR with ⟨h0, rfl⟩ | ⟨h0, ⟨⟨er, rfl⟩, -⟩ | ⟨i, o, ho, e1, e2, hph, hD⟩⟩
  · unfold Dsk.begin
    split
    · rename_i hn
      obtain ⟨h1, h2, h3, st', tr, hnm, h4, h5, h6⟩ := nameP_ok (s := s) hn
      rw [show (nameP (⟨s, Tol.none, of⟩ : Dsk).s c st).1 = ⟨st', s.inc, tr + 1⟩ from hnm]
      have hT : T c.c st' = triesP st' c.c s.over := h.t2 c.c st' fun q hq e => h4 q hq e.2
      have hT2 : 0 ≤ T c.c st' ∧ T c.c st' ≤ tr ∧ (c.stamp ≠ 0 → tr = T c.c st') := by
        rcases h6 with ⟨g1, rfl, rfl, -⟩ | ⟨g1, rfl, rfl, g4⟩
        · rw [hT, triesP_all s.over fun x hx e => hu h0 g1 x hx e.1]
          exact ⟨by omega, by omega, fun e => absurd g1 e⟩
        · rw [hT]
          obtain ⟨x0, hx0, q1, q2⟩ := triesP_some _ g4
          have hle := triesP_le hx0 q1 q2
          have htr : 0 ≤ x0.try_ := (hok.well.toMay.tries x0 hx0).1
          exact ⟨by omega, by omega, fun _ => rfl⟩
      refine ⟨(LastOk.quiet (fun m hm => absurd hm (by simp [Tol.none]))).1, .inr ⟨st', tr, rfl, rfl, ⟨hT2.1, hT2.2.1, h5⟩, hT2.2.2, ?_⟩⟩
      exact h.more hok h4 hT2.2.1
    · exact href _ _
  · exact href _ _
  · rcases hD with ⟨-, rfl⟩ | ⟨h4, rfl⟩ | ⟨-, rfl⟩
    · unfold Dsk.commit Dsk.commit0
      split
      · exact NumR.calm (fun m hm => absurd hm (by simp [Dsk.ended, Tol.none])) rfl (h.end_ hok ho 0)
      · split
        · refine NumR.calm (fun m hm => ?_) rfl (h.setO (o' := { o with ph := 2, at_ := loneB o.sh }) ho rfl (fun k => by rcases k with _ | _ | _ | _ | k <;> rfl))
          have : m = ({ o with ph := 2, at_ := loneB o.sh } : Ope).fast := by simpa [Tol.none] using hm
          rw [this]; show (9 : Int) ≠ 2; decide
        · exact NumR.calm (fun m hm => absurd hm (by simp [Tol.none])) rfl (h.setO (o' := { o with ph := 3 }) ho rfl (fun k => by rcases k with _ | _ | _ | _ | k <;> rfl))
    · exact NumR.calm (fun m hm => refuse_quiet o 0 m (by simpa [Dsk.ended, Tol.none] using hm)) rfl (h.end_ hok ho 4)
    · unfold Dsk.touch at hap ⊢
      split at hap
      · rw [if_pos (by assumption)]; exact href _ _
      · rw [if_neg (by assumption)]
        split at hap
        · rw [if_pos (by assumption)]; exact href _ _
        · rw [if_neg (by assumption)]
          split at hap
          · rw [if_pos (by assumption)]; exact NumR.execd h hok ho (by assumption) hap
          · rw [if_neg (by assumption)]; exact href _ _
end Go.Proofs.Ytniijiipkfhjgaa

