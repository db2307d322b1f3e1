/-
  What RecoverParts rests on, part 7.
-/
import Derived.Test.YtodfphphidhjbaaGreatP6
namespace Go.Proofs.YtodfphphidhjbaaGreat
open Go.RowKit Go.Sort
def RcC (cs : List Value) (lo hi : Nat) (w : World) (v : Value) (l : Rl) : Prop :=
 Rd lo hi w 12 v l.length cs ∧ ∀ (i : Nat) (q : Rc × List Wr), l[i]? = some q → ∃ lv, (cs.drop (i * 12)).take 12 = (q.1.cells lv).toList ∧ Ws lo hi w lv q.2
theorem PrBk.mono {cs : List Value} {ps : Pl} {es es' : List Ent} (h : PrBk cs ps es) (hs : ∀ e ∈ es, e ∈ es') : PrBk cs ps es' :=
 ⟨h.1, h.2.1, fun i q hq => let ⟨ad, cp, lo, hi, e, hm, hl⟩ := h.2.2 i q hq; ⟨ad, cp, lo, hi, e, hs _ hm, hl⟩⟩
theorem PrBk.short {cs : List Value} {ps : Pl} {es : List Ent} (h : PrBk cs ps es) : ∀ (i : Nat) (q : Pr × List Wr), ps[i]? = some q → q.2.length ≤ 1000000 := fun i q hq => let ⟨_, _, _, _, _, _, hl⟩ := h.2.2 i q hq; hl
theorem Mem.joinD2 {w0 w w' : World} {a b d : Ent} {es es' : List Ent} (M : Mem w0 w (a :: b :: es)) (M' : Mem w w' (d :: es')) : Mem w0 w' (a :: b :: d :: (es ++ es')) :=
 (M.joinR M').perm ((List.perm_middle.cons _).cons _)
theorem Mem.joinD3 {w0 w w' : World} {a b c d : Ent} {es es' : List Ent} (M : Mem w0 w (a :: b :: c :: es)) (M' : Mem w w' (d :: es')) : Mem w0 w' (a :: b :: c :: d :: (es ++ es')) :=
 (M.joinR M').perm (((List.perm_middle.cons _).cons _).cons _)
structure Run (home : List V8) (l : Rl) (k : Nat) (s : St) (ps : Pl) : Prop where
 ok : s.ok
 hps : ps = (runP [] (l.take k)).1
 hhome : s.home = onF home (runP [] (l.take k)).2
 len : ps.length ≤ k
def stH (home : List V8) : St := { zSt with home := home }
def nm10 (n : Int) : Nm := ⟨n, 1, 1⟩
theorem name10_any (n : Int) (w : World) : Calls Tryz.prog 14 #[.int .i64 n] w fun e w' => e = .returned (.agg (nm10 n).cells) ∧ Below w.heap.size w w' := by
 have M := Mem.start w
 refine calls_enter Tryz.func14 rfl 5 rfl rfl ?_; intro a S
 refine nxD (st_alloc S M rfl rfl #[.int .i64 0, .int .i64 0, .int .i64 0] (by kernel_rfl) ?_); clear S M a; intro a w1 b1 S M hB
 refine nxA (qG [1] S ?_); clear S a; intro a S
 refine qY S (y_build (ps := [(0, .tmp 3), (1, .const (.int .i64 1)), (2, .const (.int .i64 1))]) (pl := [(0, 1), (1, 1), (2, 1)]) (z := [.int .i64 0, .int .i64 0, .int .i64 0]) (cs := [_, _, _]) S (by kernel_rfl) rfl (rfl)) ?_; clear S a; intro a S
 refine qS (sz := 3) (us := [_, _, _]) S M 0 ?_; clear M; intro w2 M
 refine nxC (wp_ret (end_one S rfl (res_agg (cs := [_, _, _]) (by kernel_rfl) rfl rfl (M.cellsAt (k := 3) 0 rfl rfl)) ?_))
 exact ⟨rfl, M.below⟩
theorem apply_form {s : St} {ps : Pl} {r : Rc} {x : List Wr} {w w' : World} {e : Ending} (h : ApplyPost s ps r x w e w') (hl : ps.length ≤ 10000) :
 ∃ s' ps' c da dc lo hi cs es, e = .returned (.tuple #[.agg (s'.cellsL (.slice da ps'.length dc)).toArray, .int .i64 c]) ∧ s'.ok ∧ Mem w w' (rowE lo hi 62 6 (.slice da ps'.length dc) ps'.length cs :: es) ∧ PrBk cs ps' es ∧
  ((takes r x = true ∧ c = 0 ∧ s' = appSt s ps r x ∧ ps' = (stepO ps r x).1) ∨ (takes r x = false ∧ c = 2 ∧ s' = zSt ∧ ps' = [])) := by
 obtain ⟨s', ps', c, dv, rfl, hs, ⟨lo, hi, cs, es, M, hB⟩, h⟩ := h
 have hl' : ps'.length ≤ 10001 := by
  rcases h with ⟨-, -, -, rfl⟩ | ⟨-, -, -, rfl⟩
  ·exact Nat.le_trans (stepP_len ps r x) (Nat.succ_le_succ hl)
  ·simp
 obtain ⟨da, dc, rfl, -, -⟩ := (M.readRow 0 rfl (by unfold maxLen; omega)).form
 exact ⟨s', ps', c, da, dc, lo, hi, cs, es, rfl, hs, M, hB, h⟩
theorem apply_ok (s : St) (hs : s.ok) (da : Option Addr) (dc : Nat) (cs : List Value) (ps ps' : Pl) (w : World) (hd : PrsC cs 0 w.heap.size w (.slice da ps.length dc) ps) (hps : ps.length ≤ 1000) (hws : ∀ (i : Nat) (q : Pr × List Wr), ps[i]? = some q → q.2.length ≤ 1000000)
 (r : Rc) (va : Option Addr) (vc : Nat) (x : List Wr) (hv : Ws 0 w.heap.size w (.slice va x.length vc) x) (hx : x.length ≤ 1000000) (hsh : r.shards ≤ 9223372036854775807) (ht : takes r x = true) (hp : (stepO ps r x).1 = ps') :
 Calls Tryz.prog 11 #[.agg (s.cellsL (.slice da ps.length dc)).toArray, .agg (r.cells (.slice va x.length vc))] w fun e w' => ∃ da' dc' lo hi cs' es, e = .returned (.tuple #[.agg ((appSt s ps r x).cellsL (.slice da' ps'.length dc')).toArray, .int .i64 0]) ∧
  Mem w w' (rowE lo hi 62 6 (.slice da' ps'.length dc') ps'.length cs' :: es) ∧ PrBk cs' ps' es :=
 (apply_any s hs _ cs ps w hd (by omega) hws r va vc x hv hx hsh).mono fun e w' h => by
   obtain ⟨s', ps'', c, da', dc', lo, hi, cs', es, rfl, -, M, hB, ⟨-, rfl, rfl, rfl⟩ | ⟨h, -⟩⟩ := apply_form h (by omega)
   ·subst hp; exact ⟨da', dc', lo, hi, cs', es, rfl, M, hB⟩
   ·rw [ht] at h; cases h
end Go.Proofs.YtodfphphidhjbaaGreat

namespace Go.Proofs.YtodfphphidhjbaaGreat
open Go.RowKit Go.Sort
def w10 : List Wr := [⟨3, ⟨7, 0, 0, 0, 0, 0, 0, 0⟩⟩]
def r10a : Rc := ⟨2, nm10 1, false, 0, 0, 0, 0, 0, 0⟩
def r10b : Rc := ⟨2, nm10 2, false, 0, 0, 0, 0, 0, 0⟩
def r10c : Rc := ⟨3, nm10 1, true, 0, 0, 0, 0, 0, 0⟩
def p10a : Pl := [(⟨nm10 1, 0, 0⟩, w10)]
def p10b : Pl := [(⟨nm10 1, 0, 0⟩, w10), (⟨nm10 2, 0, 0⟩, [])]
def p10c : Pl := [(⟨nm10 2, 0, 0⟩, [])]
def s10a : St := appSt zSt [] r10a w10
def s10b : St := appSt s10a p10a r10b []
def s10c : St := appSt s10b p10b r10c []
theorem s10a_ok : s10a.ok := appSt_ok zSt_ok _ _ _
theorem s10b_ok : s10b.ok := appSt_ok s10a_ok _ _ _
theorem s10c_ok : s10c.ok := appSt_ok s10b_ok _ _ _
theorem t10a : takes r10a w10 = true := by decide +kernel
theorem t10b : takes r10b [] = true := by decide +kernel
theorem t10c : takes r10c [] = true := by decide +kernel
theorem e10a : (stepO [] r10a w10).1 = p10a := rfl
theorem e10b : (stepO p10a r10b []).1 = p10b := rfl
theorem e10c : (stepO p10b r10c []).1 = p10c := rfl
def StAt (n t : Nat) (L : List (Nat × Value)) (s : St) (ps : Pl) (w : World) (a : Act) (w' : World) : Prop := ∃ b da dc lo hi cs es, Sees n a ((t, .pointer (some ⟨b, 0, none⟩)) :: L) ∧
 Mem w w' (.blk b (s.cellsL (.slice da ps.length dc)).toArray 39 :: rowE lo hi 62 6 (.slice da ps.length dc) ps.length cs :: es) ∧ PrBk cs ps es
theorem s10_cell (da : Option Addr) (m dc : Nat) : (s10c.cellsL (.slice da m dc)).toArray[39]? = some (.int .u8 7) := by kernel_rfl
set_option maxHeartbeats 1000000 in
set_option maxRecDepth 10000 in
theorem wakes10_any (w : World) : Calls Tryz.prog 5 #[] w fun e w' => e = .returned (.bool true) ∧ Below w.heap.size w w' := by
 have M := Mem.start w
 refine calls_enter Tryz.func5 rfl 66 rfl rfl ?_; intro a S
 refine nxD (qG [1] S ?_); clear S a; intro a S
 refine nxA (st_alloc S M rfl rfl (zSt.cellsL (.slice none 0 0)).toArray (by kernel_rfl) ?_); clear S M a; intro a w1 bF S M hB
 refine nxA (qY S (y_buildA (ps := [(0, .const (.int .u8 7))]) (sz := 1) (z := [.int .u8 0, .int .u8 0, .int .u8 0, .int .u8 0, .int .u8 0, .int .u8 0, .int .u8 0, .int .u8 0]) (cs := [_, _, _, _, _, _, _, _]) S (by kernel_rfl) rfl rfl) ?_); clear S a; intro a S
 refine qY S (y_build (ps := [(0, .const (.int .i64 3)), (1, .tmp 9)]) (pl := [(0, 1), (1, 8)]) (z := [.int .i64 0, .int .u8 0, .int .u8 0, .int .u8 0, .int .u8 0, .int .u8 0, .int .u8 0, .int .u8 0, .int .u8 0]) (cs := [_, _, _, _, _, _, _, _, _]) S (by kernel_rfl) rfl (rfl)) ?_; clear S a; intro a S
 refine st_lit (ps := [(0, .tmp 10)]) (e := 66) (sz := 9) (zl := [.int .i64 0, .int .u8 0, .int .u8 0, .int .u8 0, .int .u8 0, .int .u8 0, .int .u8 0, .int .u8 0, .int .u8 0]) (cs := [_, _, _, _, _, _, _, _, _]) S M rfl rfl (by kernel_rfl) rfl (rfl) ?_; clear S M a; intro a w2 bZ S M hB
 refine qG [1] S ?_; clear S a; intro a S
 refine nxC (wp_cut (StAt 66 3 [(4, .int .i64 0)] s10a p10a w) ?_ ?_)
 ·skip
  refine wp_regionK [9] #[false, false, false, false, false, false, false, false, false, false, false] rfl M (by kernel_rfl) ?_; clear M; intro w3 M
  refine k_read 0 S rfl (fun w hW => have M := M.grow hW; y_loadAgg (k := 273) (cs := _) S (by kernel_rfl) rfl (by with_reducible first | exact St.len zSt_ok _ | exact St.len s10a_ok _ | exact St.len s10b_ok _ | exact St.len s10c_ok _) (M.cellsAt 1 rfl cutL_all)) ?_; clear S a; intro a S
  refine k_pure 2 S rfl (fun w => y_move S rfl) ?_; clear S a; intro a S
  refine k_two 1 8 rfl rfl (by kernel_rfl) ?_ ?_
  ·skip
   refine qQ (xs := [.const (.int .i64 1)]) S (qE Tryz.func14) rfl (name10_any _ _) M ?_; clear S M a; intro a w4 S hK M
   refine wpList_nil ?_; refine then_normal ?_; refine ⟨fun _ => hK, ?_⟩
   refine k_pure 3 S rfl (fun w => y_build (ps := [(0, .const (.int .i8 2)), (1, .tmp 14), (3, .tmp 15)]) (pl := [(0, 1), (1, 3), (4, 1), (5, 1), (6, 1), (7, 1), (8, 1), (9, 2), (11, 1)]) (z := [.int .i8 0, .int .i64 0, .int .i64 0, .int .i64 0, .bool false, .slice none 0 0, .int .i64 0, .int .i64 0, .int .i64 0, .int .i64 0, .int .i64 0, .int .i64 0]) (cs := [_, _, _, _, _, _, _, _, _, _, _, _]) S (by kernel_rfl) rfl (rfl)) ?_; clear S a; intro a S
   refine k_two 4 8 rfl rfl (by kernel_rfl) ?_ ?_
   ·skip
    refine qC (xs := [.tmp 13, .tmp 16]) S (qE Tryz.func11) rfl (apply_ok zSt zSt_ok none 0 [] [] p10a _ (PrsC.nil _ _ _) (by decide) (by simp) r10a _ 1 w10 (M.sliceAt 0 rfl (M.cellsAt (k := 9) 0 rfl rfl) rfl (Nat.le_refl _) (by decide)) (by decide) (by decide) t10a e10a) ?_
    rintro _ w5 ⟨da2, dc2, lo2, hi2, cs2, es2, rfl, M2, hBk2⟩; refine ⟨_, rfl, ?_⟩; clear S a; intro a S; have hK := M2.below
    rw [show appSt zSt [] r10a w10 = s10a from rfl] at S
    first
     | replace M := M.joinD3 M2
     | replace M := M.joinD2 M2
     | replace M := M.joinD1 M2
    refine wpList_nil ?_; refine then_normal ?_; refine ⟨fun _ => hK, ?_⟩
    refine k_pure 5 S rfl (fun w => y_move S rfl) ?_; clear S a; intro a S
    refine k_pure 6 S rfl (fun w => y_extract S rfl rfl) ?_; clear S a; intro a S
    refine k_pure 7 S rfl (fun w => y_extract S rfl rfl) ?_; clear S a; intro a S
    refine k_one 8 rfl (by kernel_rfl) ?_
    refine st_alloc S M rfl rfl (zSt.cellsL (.slice none 0 0)).toArray (by kernel_rfl) ?_; clear S M a; intro a w6 bX S M hB
    refine wpList_nil ?_; refine then_normal ?_; refine ⟨fun _ => hB, ?_⟩
    refine k_one 9 rfl (by kernel_rfl) ?_
    refine st_storeAll (sz := 273) S M 0 rfl (by kernel_rfl) rfl rfl (by with_reducible first | exact St.len zSt_ok _ | exact St.len s10a_ok _ | exact St.len s10b_ok _ | exact St.len s10c_ok _) (by with_reducible first | exact St.one zSt_ok _ rfl | exact St.one s10a_ok _ rfl | exact St.one s10b_ok _ rfl | exact St.one s10c_ok _ rfl) rfl (by with_reducible first | exact St.len zSt_ok _ | exact St.len s10a_ok _ | exact St.len s10b_ok _ | exact St.len s10c_ok _) ?_; clear M; intro w7 M
    simp only [List.set_cons_zero, List.set_cons_succ] at M
    refine wpList_nil ?_; refine then_normal ?_; refine ⟨fun h => absurd h (by decide), ?_⟩
    refine k_pure 10 S rfl (fun w => y_assign S rfl) ?_; clear S a; intro a S
    refine k_end (by kernel_rfl) ?_
    refine then_normal ?_
    replace M := M.drop 2
    simp only [List.eraseIdx_cons_succ, List.eraseIdx_cons_zero] at M
    replace M := M.drop 1
    simp only [List.eraseIdx_cons_succ, List.eraseIdx_cons_zero] at M
    exact ⟨bX, da2, dc2, lo2, hi2, cs2, _, S.sub _ rfl, M, hBk2.mono (fun e he => by simp [he])⟩
   ·skip
    refine st_alloc S M rfl rfl (zSt.cellsL (.slice none 0 0)).toArray (by kernel_rfl) ?_; clear S M a; intro a w8 bX S M hB
    refine wpList_nil ?_; refine then_normal ?_; refine ⟨fun _ => hB, ?_⟩
    refine k_one 4 rfl (by kernel_rfl) ?_
    refine qC (xs := [.tmp 13, .tmp 16]) S (qE Tryz.func11) rfl (apply_ok zSt zSt_ok none 0 [] [] p10a _ (PrsC.nil _ _ _) (by decide) (by simp) r10a _ 1 w10 (M.sliceAt 1 rfl (M.cellsAt (k := 9) 1 rfl rfl) rfl (Nat.le_refl _) (by decide)) (by decide) (by decide) t10a e10a) ?_
    rintro _ w9 ⟨da2, dc2, lo2, hi2, cs2, es2, rfl, M2, hBk2⟩; refine ⟨_, rfl, ?_⟩; clear S a; intro a S; have hK := M2.below
    rw [show appSt zSt [] r10a w10 = s10a from rfl] at S
    first
     | replace M := M.joinD3 M2
     | replace M := M.joinD2 M2
     | replace M := M.joinD1 M2
    refine wpList_nil ?_; refine then_normal ?_; refine ⟨fun _ => hK, ?_⟩
    refine k_pure 5 S rfl (fun w => y_move S rfl) ?_; clear S a; intro a S
    refine k_pure 6 S rfl (fun w => y_extract S rfl rfl) ?_; clear S a; intro a S
    refine k_pure 7 S rfl (fun w => y_extract S rfl rfl) ?_; clear S a; intro a S
    refine k_one 9 rfl (by kernel_rfl) ?_
    refine st_storeAll (sz := 273) S M 0 rfl (by kernel_rfl) rfl rfl (by with_reducible first | exact St.len zSt_ok _ | exact St.len s10a_ok _ | exact St.len s10b_ok _ | exact St.len s10c_ok _) (by with_reducible first | exact St.one zSt_ok _ rfl | exact St.one s10a_ok _ rfl | exact St.one s10b_ok _ rfl | exact St.one s10c_ok _ rfl) rfl (by with_reducible first | exact St.len zSt_ok _ | exact St.len s10a_ok _ | exact St.len s10b_ok _ | exact St.len s10c_ok _) ?_; clear M; intro w10 M
    simp only [List.set_cons_zero, List.set_cons_succ] at M
    refine wpList_nil ?_; refine then_normal ?_; refine ⟨fun h => absurd h (by decide), ?_⟩
    refine k_pure 10 S rfl (fun w => y_assign S rfl) ?_; clear S a; intro a S
    refine k_end (by kernel_rfl) ?_
    refine then_normal ?_
    replace M := M.drop 2
    simp only [List.eraseIdx_cons_succ, List.eraseIdx_cons_zero] at M
    replace M := M.drop 1
    simp only [List.eraseIdx_cons_succ, List.eraseIdx_cons_zero] at M
    exact ⟨bX, da2, dc2, lo2, hi2, cs2, _, S.sub _ rfl, M, hBk2.mono (fun e he => by simp [he])⟩
  ·skip
   refine st_alloc S M rfl rfl (zSt.cellsL (.slice none 0 0)).toArray (by kernel_rfl) ?_; clear S M a; intro a w11 bX S M hB
   refine wpList_nil ?_; refine then_normal ?_; refine ⟨fun _ => hB, ?_⟩
   refine k_one 1 rfl (by kernel_rfl) ?_
   refine qQ (xs := [.const (.int .i64 1)]) S (qE Tryz.func14) rfl (name10_any _ _) M ?_; clear S M a; intro a w12 S hK M
   refine wpList_nil ?_; refine then_normal ?_; refine ⟨fun _ => hK, ?_⟩
   refine k_pure 3 S rfl (fun w => y_build (ps := [(0, .const (.int .i8 2)), (1, .tmp 14), (3, .tmp 15)]) (pl := [(0, 1), (1, 3), (4, 1), (5, 1), (6, 1), (7, 1), (8, 1), (9, 2), (11, 1)]) (z := [.int .i8 0, .int .i64 0, .int .i64 0, .int .i64 0, .bool false, .slice none 0 0, .int .i64 0, .int .i64 0, .int .i64 0, .int .i64 0, .int .i64 0, .int .i64 0]) (cs := [_, _, _, _, _, _, _, _, _, _, _, _]) S (by kernel_rfl) rfl (rfl)) ?_; clear S a; intro a S
   refine k_one 4 rfl (by kernel_rfl) ?_
   refine qC (xs := [.tmp 13, .tmp 16]) S (qE Tryz.func11) rfl (apply_ok zSt zSt_ok none 0 [] [] p10a _ (PrsC.nil _ _ _) (by decide) (by simp) r10a _ 1 w10 (M.sliceAt 1 rfl (M.cellsAt (k := 9) 1 rfl rfl) rfl (Nat.le_refl _) (by decide)) (by decide) (by decide) t10a e10a) ?_
   rintro _ w13 ⟨da2, dc2, lo2, hi2, cs2, es2, rfl, M2, hBk2⟩; refine ⟨_, rfl, ?_⟩; clear S a; intro a S; have hK := M2.below
   rw [show appSt zSt [] r10a w10 = s10a from rfl] at S
   first
    | replace M := M.joinD3 M2
    | replace M := M.joinD2 M2
    | replace M := M.joinD1 M2
   refine wpList_nil ?_; refine then_normal ?_; refine ⟨fun _ => hK, ?_⟩
   refine k_pure 5 S rfl (fun w => y_move S rfl) ?_; clear S a; intro a S
   refine k_pure 6 S rfl (fun w => y_extract S rfl rfl) ?_; clear S a; intro a S
   refine k_pure 7 S rfl (fun w => y_extract S rfl rfl) ?_; clear S a; intro a S
   refine k_one 9 rfl (by kernel_rfl) ?_
   refine st_storeAll (sz := 273) S M 0 rfl (by kernel_rfl) rfl rfl (by with_reducible first | exact St.len zSt_ok _ | exact St.len s10a_ok _ | exact St.len s10b_ok _ | exact St.len s10c_ok _) (by with_reducible first | exact St.one zSt_ok _ rfl | exact St.one s10a_ok _ rfl | exact St.one s10b_ok _ rfl | exact St.one s10c_ok _ rfl) rfl (by with_reducible first | exact St.len zSt_ok _ | exact St.len s10a_ok _ | exact St.len s10b_ok _ | exact St.len s10c_ok _) ?_; clear M; intro w14 M
   simp only [List.set_cons_zero, List.set_cons_succ] at M
   refine wpList_nil ?_; refine then_normal ?_; refine ⟨fun h => absurd h (by decide), ?_⟩
   refine k_pure 10 S rfl (fun w => y_assign S rfl) ?_; clear S a; intro a S
   refine k_end (by kernel_rfl) ?_
   refine then_normal ?_
   replace M := M.drop 2
   simp only [List.eraseIdx_cons_succ, List.eraseIdx_cons_zero] at M
   replace M := M.drop 1
   simp only [List.eraseIdx_cons_succ, List.eraseIdx_cons_zero] at M
   exact ⟨bX, da2, dc2, lo2, hi2, cs2, _, S.sub _ rfl, M, hBk2.mono (fun e he => by simp [he])⟩
 clear S a M; intro a wc
 rintro ⟨bX, da, dc, lo, hi, cs, es, S, M, hBk⟩
 refine wp_cut (StAt 66 5 [(4, .int .i64 0), (6, .int .i64 0)] s10b p10b w) ?_ ?_
 ·skip
  refine wp_regionK [8] #[false, false, false, false, false, false, false, false, false, false] rfl M (by kernel_rfl) ?_; clear M; intro w15 M
  refine k_read 0 S rfl (fun w hW => have M := M.grow hW; y_loadAgg (k := 273) (cs := _) S (by kernel_rfl) rfl (by with_reducible first | exact St.len zSt_ok _ | exact St.len s10a_ok _ | exact St.len s10b_ok _ | exact St.len s10c_ok _) (M.cellsAt 0 rfl cutL_all)) ?_; clear S a; intro a S
  refine k_two 1 7 rfl rfl (by kernel_rfl) ?_ ?_
  ·skip
   refine qQ (xs := [.const (.int .i64 2)]) S (qE Tryz.func14) rfl (name10_any _ _) M ?_; clear S M a; intro a w16 S hK M
   refine wpList_nil ?_; refine then_normal ?_; refine ⟨fun _ => hK, ?_⟩
   refine k_pure 2 S rfl (fun w => y_build (ps := [(0, .const (.int .i8 2)), (1, .tmp 22)]) (pl := [(0, 1), (1, 3), (4, 1), (5, 1), (6, 1), (7, 1), (8, 1), (9, 2), (11, 1)]) (z := [.int .i8 0, .int .i64 0, .int .i64 0, .int .i64 0, .bool false, .slice none 0 0, .int .i64 0, .int .i64 0, .int .i64 0, .int .i64 0, .int .i64 0, .int .i64 0]) (cs := [_, _, _, _, _, _, _, _, _, _, _, _]) S (by kernel_rfl) rfl (rfl)) ?_; clear S a; intro a S
   refine k_two 3 7 rfl rfl (by kernel_rfl) ?_ ?_
   ·skip
    refine qC (xs := [.tmp 21, .tmp 23]) S (qE Tryz.func11) rfl (apply_ok s10a s10a_ok da dc cs p10a p10b _ ((hBk.prs M (List.mem_of_getElem? (show _[1]? = _ from rfl)) (fun e he => by simp [he]) (by decide)).wide (Nat.zero_le _) (Nat.le_refl _)) (by decide) hBk.short r10b none 0 [] (Rd.nil _ _ _ _) (by decide) (by decide) t10b e10b) ?_
    rintro _ w17 ⟨da2, dc2, lo2, hi2, cs2, es2, rfl, M2, hBk2⟩; refine ⟨_, rfl, ?_⟩; clear S a; intro a S; have hK := M2.below
    rw [show appSt s10a p10a r10b [] = s10b from rfl] at S
    first
     | replace M := M.joinD3 M2
     | replace M := M.joinD2 M2
     | replace M := M.joinD1 M2
    refine wpList_nil ?_; refine then_normal ?_; refine ⟨fun _ => hK, ?_⟩
    refine k_pure 4 S rfl (fun w => y_move S rfl) ?_; clear S a; intro a S
    refine k_pure 5 S rfl (fun w => y_extract S rfl rfl) ?_; clear S a; intro a S
    refine k_pure 6 S rfl (fun w => y_extract S rfl rfl) ?_; clear S a; intro a S
    refine k_one 7 rfl (by kernel_rfl) ?_
    refine st_alloc S M rfl rfl (zSt.cellsL (.slice none 0 0)).toArray (by kernel_rfl) ?_; clear S M a; intro a w18 bY S M hB
    refine wpList_nil ?_; refine then_normal ?_; refine ⟨fun _ => hB, ?_⟩
    refine k_one 8 rfl (by kernel_rfl) ?_
    refine st_storeAll (sz := 273) S M 0 rfl (by kernel_rfl) rfl rfl (by with_reducible first | exact St.len zSt_ok _ | exact St.len s10a_ok _ | exact St.len s10b_ok _ | exact St.len s10c_ok _) (by with_reducible first | exact St.one zSt_ok _ rfl | exact St.one s10a_ok _ rfl | exact St.one s10b_ok _ rfl | exact St.one s10c_ok _ rfl) rfl (by with_reducible first | exact St.len zSt_ok _ | exact St.len s10a_ok _ | exact St.len s10b_ok _ | exact St.len s10c_ok _) ?_; clear M; intro w19 M
    simp only [List.set_cons_zero, List.set_cons_succ] at M
    refine wpList_nil ?_; refine then_normal ?_; refine ⟨fun h => absurd h (by decide), ?_⟩
    refine k_pure 9 S rfl (fun w => y_assign S rfl) ?_; clear S a; intro a S
    refine k_end (by kernel_rfl) ?_
    refine then_normal ?_
    replace M := M.drop 1
    simp only [List.eraseIdx_cons_succ, List.eraseIdx_cons_zero] at M
    replace M := M.drop 1
    simp only [List.eraseIdx_cons_succ, List.eraseIdx_cons_zero] at M
    exact ⟨bY, da2, dc2, lo2, hi2, cs2, _, S.sub _ rfl, M, hBk2.mono (fun e he => by simp [he])⟩
   ·skip
    refine st_alloc S M rfl rfl (zSt.cellsL (.slice none 0 0)).toArray (by kernel_rfl) ?_; clear S M a; intro a w20 bY S M hB
    refine wpList_nil ?_; refine then_normal ?_; refine ⟨fun _ => hB, ?_⟩
    refine k_one 3 rfl (by kernel_rfl) ?_
    refine qC (xs := [.tmp 21, .tmp 23]) S (qE Tryz.func11) rfl (apply_ok s10a s10a_ok da dc cs p10a p10b _ ((hBk.prs M (List.mem_of_getElem? (show _[2]? = _ from rfl)) (fun e he => by simp [he]) (by decide)).wide (Nat.zero_le _) (Nat.le_refl _)) (by decide) hBk.short r10b none 0 [] (Rd.nil _ _ _ _) (by decide) (by decide) t10b e10b) ?_
    rintro _ w21 ⟨da2, dc2, lo2, hi2, cs2, es2, rfl, M2, hBk2⟩; refine ⟨_, rfl, ?_⟩; clear S a; intro a S; have hK := M2.below
    rw [show appSt s10a p10a r10b [] = s10b from rfl] at S
    first
     | replace M := M.joinD3 M2
     | replace M := M.joinD2 M2
     | replace M := M.joinD1 M2
    refine wpList_nil ?_; refine then_normal ?_; refine ⟨fun _ => hK, ?_⟩
    refine k_pure 4 S rfl (fun w => y_move S rfl) ?_; clear S a; intro a S
    refine k_pure 5 S rfl (fun w => y_extract S rfl rfl) ?_; clear S a; intro a S
    refine k_pure 6 S rfl (fun w => y_extract S rfl rfl) ?_; clear S a; intro a S
    refine k_one 8 rfl (by kernel_rfl) ?_
    refine st_storeAll (sz := 273) S M 0 rfl (by kernel_rfl) rfl rfl (by with_reducible first | exact St.len zSt_ok _ | exact St.len s10a_ok _ | exact St.len s10b_ok _ | exact St.len s10c_ok _) (by with_reducible first | exact St.one zSt_ok _ rfl | exact St.one s10a_ok _ rfl | exact St.one s10b_ok _ rfl | exact St.one s10c_ok _ rfl) rfl (by with_reducible first | exact St.len zSt_ok _ | exact St.len s10a_ok _ | exact St.len s10b_ok _ | exact St.len s10c_ok _) ?_; clear M; intro w22 M
    simp only [List.set_cons_zero, List.set_cons_succ] at M
    refine wpList_nil ?_; refine then_normal ?_; refine ⟨fun h => absurd h (by decide), ?_⟩
    refine k_pure 9 S rfl (fun w => y_assign S rfl) ?_; clear S a; intro a S
    refine k_end (by kernel_rfl) ?_
    refine then_normal ?_
    replace M := M.drop 1
    simp only [List.eraseIdx_cons_succ, List.eraseIdx_cons_zero] at M
    replace M := M.drop 1
    simp only [List.eraseIdx_cons_succ, List.eraseIdx_cons_zero] at M
    exact ⟨bY, da2, dc2, lo2, hi2, cs2, _, S.sub _ rfl, M, hBk2.mono (fun e he => by simp [he])⟩
  ·skip
   refine st_alloc S M rfl rfl (zSt.cellsL (.slice none 0 0)).toArray (by kernel_rfl) ?_; clear S M a; intro a w23 bY S M hB
   refine wpList_nil ?_; refine then_normal ?_; refine ⟨fun _ => hB, ?_⟩
   refine k_one 1 rfl (by kernel_rfl) ?_
   refine qQ (xs := [.const (.int .i64 2)]) S (qE Tryz.func14) rfl (name10_any _ _) M ?_; clear S M a; intro a w24 S hK M
   refine wpList_nil ?_; refine then_normal ?_; refine ⟨fun _ => hK, ?_⟩
   refine k_pure 2 S rfl (fun w => y_build (ps := [(0, .const (.int .i8 2)), (1, .tmp 22)]) (pl := [(0, 1), (1, 3), (4, 1), (5, 1), (6, 1), (7, 1), (8, 1), (9, 2), (11, 1)]) (z := [.int .i8 0, .int .i64 0, .int .i64 0, .int .i64 0, .bool false, .slice none 0 0, .int .i64 0, .int .i64 0, .int .i64 0, .int .i64 0, .int .i64 0, .int .i64 0]) (cs := [_, _, _, _, _, _, _, _, _, _, _, _]) S (by kernel_rfl) rfl (rfl)) ?_; clear S a; intro a S
   refine k_one 3 rfl (by kernel_rfl) ?_
   refine qC (xs := [.tmp 21, .tmp 23]) S (qE Tryz.func11) rfl (apply_ok s10a s10a_ok da dc cs p10a p10b _ ((hBk.prs M (List.mem_of_getElem? (show _[2]? = _ from rfl)) (fun e he => by simp [he]) (by decide)).wide (Nat.zero_le _) (Nat.le_refl _)) (by decide) hBk.short r10b none 0 [] (Rd.nil _ _ _ _) (by decide) (by decide) t10b e10b) ?_
   rintro _ w25 ⟨da2, dc2, lo2, hi2, cs2, es2, rfl, M2, hBk2⟩; refine ⟨_, rfl, ?_⟩; clear S a; intro a S; have hK := M2.below
   rw [show appSt s10a p10a r10b [] = s10b from rfl] at S
   first
    | replace M := M.joinD3 M2
    | replace M := M.joinD2 M2
    | replace M := M.joinD1 M2
   refine wpList_nil ?_; refine then_normal ?_; refine ⟨fun _ => hK, ?_⟩
   refine k_pure 4 S rfl (fun w => y_move S rfl) ?_; clear S a; intro a S
   refine k_pure 5 S rfl (fun w => y_extract S rfl rfl) ?_; clear S a; intro a S
   refine k_pure 6 S rfl (fun w => y_extract S rfl rfl) ?_; clear S a; intro a S
   refine k_one 8 rfl (by kernel_rfl) ?_
   refine st_storeAll (sz := 273) S M 0 rfl (by kernel_rfl) rfl rfl (by with_reducible first | exact St.len zSt_ok _ | exact St.len s10a_ok _ | exact St.len s10b_ok _ | exact St.len s10c_ok _) (by with_reducible first | exact St.one zSt_ok _ rfl | exact St.one s10a_ok _ rfl | exact St.one s10b_ok _ rfl | exact St.one s10c_ok _ rfl) rfl (by with_reducible first | exact St.len zSt_ok _ | exact St.len s10a_ok _ | exact St.len s10b_ok _ | exact St.len s10c_ok _) ?_; clear M; intro w26 M
   simp only [List.set_cons_zero, List.set_cons_succ] at M
   refine wpList_nil ?_; refine then_normal ?_; refine ⟨fun h => absurd h (by decide), ?_⟩
   refine k_pure 9 S rfl (fun w => y_assign S rfl) ?_; clear S a; intro a S
   refine k_end (by kernel_rfl) ?_
   refine then_normal ?_
   replace M := M.drop 1
   simp only [List.eraseIdx_cons_succ, List.eraseIdx_cons_zero] at M
   replace M := M.drop 1
   simp only [List.eraseIdx_cons_succ, List.eraseIdx_cons_zero] at M
   exact ⟨bY, da2, dc2, lo2, hi2, cs2, _, S.sub _ rfl, M, hBk2.mono (fun e he => by simp [he])⟩
 clear S a M; intro a wc
 rintro ⟨bX, da, dc, lo, hi, cs, es, S, M, hBk⟩
 refine wp_cut (StAt 66 7 [(4, .int .i64 0), (6, .int .i64 0), (8, .int .i64 0)] s10c p10c w) ?_ ?_
 ·skip
  refine wp_regionK [8] #[false, false, false, false, false, false, false, false, false, false] rfl M (by kernel_rfl) ?_; clear M; intro w27 M
  refine k_read 0 S rfl (fun w hW => have M := M.grow hW; y_loadAgg (k := 273) (cs := _) S (by kernel_rfl) rfl (by with_reducible first | exact St.len zSt_ok _ | exact St.len s10a_ok _ | exact St.len s10b_ok _ | exact St.len s10c_ok _) (M.cellsAt 0 rfl cutL_all)) ?_; clear S a; intro a S
  refine k_two 1 7 rfl rfl (by kernel_rfl) ?_ ?_
  ·skip
   refine qQ (xs := [.const (.int .i64 1)]) S (qE Tryz.func14) rfl (name10_any _ _) M ?_; clear S M a; intro a w28 S hK M
   refine wpList_nil ?_; refine then_normal ?_; refine ⟨fun _ => hK, ?_⟩
   refine k_pure 2 S rfl (fun w => y_build (ps := [(0, .const (.int .i8 3)), (1, .tmp 29), (2, .const (.bool true))]) (pl := [(0, 1), (1, 3), (4, 1), (5, 1), (6, 1), (7, 1), (8, 1), (9, 2), (11, 1)]) (z := [.int .i8 0, .int .i64 0, .int .i64 0, .int .i64 0, .bool false, .slice none 0 0, .int .i64 0, .int .i64 0, .int .i64 0, .int .i64 0, .int .i64 0, .int .i64 0]) (cs := [_, _, _, _, _, _, _, _, _, _, _, _]) S (by kernel_rfl) rfl (rfl)) ?_; clear S a; intro a S
   refine k_two 3 7 rfl rfl (by kernel_rfl) ?_ ?_
   ·skip
    refine qC (xs := [.tmp 28, .tmp 30]) S (qE Tryz.func11) rfl (apply_ok s10b s10b_ok da dc cs p10b p10c _ ((hBk.prs M (List.mem_of_getElem? (show _[1]? = _ from rfl)) (fun e he => by simp [he]) (by decide)).wide (Nat.zero_le _) (Nat.le_refl _)) (by decide) hBk.short r10c none 0 [] (Rd.nil _ _ _ _) (by decide) (by decide) t10c e10c) ?_
    rintro _ w29 ⟨da2, dc2, lo2, hi2, cs2, es2, rfl, M2, hBk2⟩; refine ⟨_, rfl, ?_⟩; clear S a; intro a S; have hK := M2.below
    rw [show appSt s10b p10b r10c [] = s10c from rfl] at S
    first
     | replace M := M.joinD3 M2
     | replace M := M.joinD2 M2
     | replace M := M.joinD1 M2
    refine wpList_nil ?_; refine then_normal ?_; refine ⟨fun _ => hK, ?_⟩
    refine k_pure 4 S rfl (fun w => y_move S rfl) ?_; clear S a; intro a S
    refine k_pure 5 S rfl (fun w => y_extract S rfl rfl) ?_; clear S a; intro a S
    refine k_pure 6 S rfl (fun w => y_extract S rfl rfl) ?_; clear S a; intro a S
    refine k_one 7 rfl (by kernel_rfl) ?_
    refine st_alloc S M rfl rfl (zSt.cellsL (.slice none 0 0)).toArray (by kernel_rfl) ?_; clear S M a; intro a w30 bY S M hB
    refine wpList_nil ?_; refine then_normal ?_; refine ⟨fun _ => hB, ?_⟩
    refine k_one 8 rfl (by kernel_rfl) ?_
    refine st_storeAll (sz := 273) S M 0 rfl (by kernel_rfl) rfl rfl (by with_reducible first | exact St.len zSt_ok _ | exact St.len s10a_ok _ | exact St.len s10b_ok _ | exact St.len s10c_ok _) (by with_reducible first | exact St.one zSt_ok _ rfl | exact St.one s10a_ok _ rfl | exact St.one s10b_ok _ rfl | exact St.one s10c_ok _ rfl) rfl (by with_reducible first | exact St.len zSt_ok _ | exact St.len s10a_ok _ | exact St.len s10b_ok _ | exact St.len s10c_ok _) ?_; clear M; intro w31 M
    simp only [List.set_cons_zero, List.set_cons_succ] at M
    refine wpList_nil ?_; refine then_normal ?_; refine ⟨fun h => absurd h (by decide), ?_⟩
    refine k_pure 9 S rfl (fun w => y_assign S rfl) ?_; clear S a; intro a S
    refine k_end (by kernel_rfl) ?_
    refine then_normal ?_
    replace M := M.drop 1
    simp only [List.eraseIdx_cons_succ, List.eraseIdx_cons_zero] at M
    replace M := M.drop 1
    simp only [List.eraseIdx_cons_succ, List.eraseIdx_cons_zero] at M
    exact ⟨bY, da2, dc2, lo2, hi2, cs2, _, S.sub _ rfl, M, hBk2.mono (fun e he => by simp [he])⟩
   ·skip
    refine st_alloc S M rfl rfl (zSt.cellsL (.slice none 0 0)).toArray (by kernel_rfl) ?_; clear S M a; intro a w32 bY S M hB
    refine wpList_nil ?_; refine then_normal ?_; refine ⟨fun _ => hB, ?_⟩
    refine k_one 3 rfl (by kernel_rfl) ?_
    refine qC (xs := [.tmp 28, .tmp 30]) S (qE Tryz.func11) rfl (apply_ok s10b s10b_ok da dc cs p10b p10c _ ((hBk.prs M (List.mem_of_getElem? (show _[2]? = _ from rfl)) (fun e he => by simp [he]) (by decide)).wide (Nat.zero_le _) (Nat.le_refl _)) (by decide) hBk.short r10c none 0 [] (Rd.nil _ _ _ _) (by decide) (by decide) t10c e10c) ?_
    rintro _ w33 ⟨da2, dc2, lo2, hi2, cs2, es2, rfl, M2, hBk2⟩; refine ⟨_, rfl, ?_⟩; clear S a; intro a S; have hK := M2.below
    rw [show appSt s10b p10b r10c [] = s10c from rfl] at S
    first
     | replace M := M.joinD3 M2
     | replace M := M.joinD2 M2
     | replace M := M.joinD1 M2
    refine wpList_nil ?_; refine then_normal ?_; refine ⟨fun _ => hK, ?_⟩
    refine k_pure 4 S rfl (fun w => y_move S rfl) ?_; clear S a; intro a S
    refine k_pure 5 S rfl (fun w => y_extract S rfl rfl) ?_; clear S a; intro a S
    refine k_pure 6 S rfl (fun w => y_extract S rfl rfl) ?_; clear S a; intro a S
    refine k_one 8 rfl (by kernel_rfl) ?_
    refine st_storeAll (sz := 273) S M 0 rfl (by kernel_rfl) rfl rfl (by with_reducible first | exact St.len zSt_ok _ | exact St.len s10a_ok _ | exact St.len s10b_ok _ | exact St.len s10c_ok _) (by with_reducible first | exact St.one zSt_ok _ rfl | exact St.one s10a_ok _ rfl | exact St.one s10b_ok _ rfl | exact St.one s10c_ok _ rfl) rfl (by with_reducible first | exact St.len zSt_ok _ | exact St.len s10a_ok _ | exact St.len s10b_ok _ | exact St.len s10c_ok _) ?_; clear M; intro w34 M
    simp only [List.set_cons_zero, List.set_cons_succ] at M
    refine wpList_nil ?_; refine then_normal ?_; refine ⟨fun h => absurd h (by decide), ?_⟩
    refine k_pure 9 S rfl (fun w => y_assign S rfl) ?_; clear S a; intro a S
    refine k_end (by kernel_rfl) ?_
    refine then_normal ?_
    replace M := M.drop 1
    simp only [List.eraseIdx_cons_succ, List.eraseIdx_cons_zero] at M
    replace M := M.drop 1
    simp only [List.eraseIdx_cons_succ, List.eraseIdx_cons_zero] at M
    exact ⟨bY, da2, dc2, lo2, hi2, cs2, _, S.sub _ rfl, M, hBk2.mono (fun e he => by simp [he])⟩
  ·skip
   refine st_alloc S M rfl rfl (zSt.cellsL (.slice none 0 0)).toArray (by kernel_rfl) ?_; clear S M a; intro a w35 bY S M hB
   refine wpList_nil ?_; refine then_normal ?_; refine ⟨fun _ => hB, ?_⟩
   refine k_one 1 rfl (by kernel_rfl) ?_
   refine qQ (xs := [.const (.int .i64 1)]) S (qE Tryz.func14) rfl (name10_any _ _) M ?_; clear S M a; intro a w36 S hK M
   refine wpList_nil ?_; refine then_normal ?_; refine ⟨fun _ => hK, ?_⟩
   refine k_pure 2 S rfl (fun w => y_build (ps := [(0, .const (.int .i8 3)), (1, .tmp 29), (2, .const (.bool true))]) (pl := [(0, 1), (1, 3), (4, 1), (5, 1), (6, 1), (7, 1), (8, 1), (9, 2), (11, 1)]) (z := [.int .i8 0, .int .i64 0, .int .i64 0, .int .i64 0, .bool false, .slice none 0 0, .int .i64 0, .int .i64 0, .int .i64 0, .int .i64 0, .int .i64 0, .int .i64 0]) (cs := [_, _, _, _, _, _, _, _, _, _, _, _]) S (by kernel_rfl) rfl (rfl)) ?_; clear S a; intro a S
   refine k_one 3 rfl (by kernel_rfl) ?_
   refine qC (xs := [.tmp 28, .tmp 30]) S (qE Tryz.func11) rfl (apply_ok s10b s10b_ok da dc cs p10b p10c _ ((hBk.prs M (List.mem_of_getElem? (show _[2]? = _ from rfl)) (fun e he => by simp [he]) (by decide)).wide (Nat.zero_le _) (Nat.le_refl _)) (by decide) hBk.short r10c none 0 [] (Rd.nil _ _ _ _) (by decide) (by decide) t10c e10c) ?_
   rintro _ w37 ⟨da2, dc2, lo2, hi2, cs2, es2, rfl, M2, hBk2⟩; refine ⟨_, rfl, ?_⟩; clear S a; intro a S; have hK := M2.below
   rw [show appSt s10b p10b r10c [] = s10c from rfl] at S
   first
    | replace M := M.joinD3 M2
    | replace M := M.joinD2 M2
    | replace M := M.joinD1 M2
   refine wpList_nil ?_; refine then_normal ?_; refine ⟨fun _ => hK, ?_⟩
   refine k_pure 4 S rfl (fun w => y_move S rfl) ?_; clear S a; intro a S
   refine k_pure 5 S rfl (fun w => y_extract S rfl rfl) ?_; clear S a; intro a S
   refine k_pure 6 S rfl (fun w => y_extract S rfl rfl) ?_; clear S a; intro a S
   refine k_one 8 rfl (by kernel_rfl) ?_
   refine st_storeAll (sz := 273) S M 0 rfl (by kernel_rfl) rfl rfl (by with_reducible first | exact St.len zSt_ok _ | exact St.len s10a_ok _ | exact St.len s10b_ok _ | exact St.len s10c_ok _) (by with_reducible first | exact St.one zSt_ok _ rfl | exact St.one s10a_ok _ rfl | exact St.one s10b_ok _ rfl | exact St.one s10c_ok _ rfl) rfl (by with_reducible first | exact St.len zSt_ok _ | exact St.len s10a_ok _ | exact St.len s10b_ok _ | exact St.len s10c_ok _) ?_; clear M; intro w38 M
   simp only [List.set_cons_zero, List.set_cons_succ] at M
   refine wpList_nil ?_; refine then_normal ?_; refine ⟨fun h => absurd h (by decide), ?_⟩
   refine k_pure 9 S rfl (fun w => y_assign S rfl) ?_; clear S a; intro a S
   refine k_end (by kernel_rfl) ?_
   refine then_normal ?_
   replace M := M.drop 1
   simp only [List.eraseIdx_cons_succ, List.eraseIdx_cons_zero] at M
   replace M := M.drop 1
   simp only [List.eraseIdx_cons_succ, List.eraseIdx_cons_zero] at M
   exact ⟨bY, da2, dc2, lo2, hi2, cs2, _, S.sub _ rfl, M, hBk2.mono (fun e he => by simp [he])⟩
 clear S a M; intro a wc
 rintro ⟨bX, da, dc, lo, hi, cs, es, S, M, hBk⟩
 obtain ⟨qa, qc, hrow, -, -⟩ := hBk.rows M (fun e he => by simp [he]) 0 (⟨nm10 2, 0, 0⟩, []) rfl
 refine nxD (qG [1, 1, 1] S ?_); clear S a; intro a S
 refine st_fi (t := 36) S rfl ?_ ?_
 ·clear S; intro h36 S
  simp at h36
 clear S; intro h36 S
 refine qG [1, 1, 1, 1] S ?_; clear S a; intro a S
 refine st_fi (t := 40) S rfl ?_ ?_
 ·clear S; intro h40 S
  simp at h40
 clear S; intro h40 S
 refine qG [1, 1, 1, 1] S ?_; clear S a; intro a S
 refine st_fi (t := 44) S rfl ?_ ?_
 ·clear S; intro h44 S
  simp at h44
 clear S; intro h44 S
 refine qG [272] S ?_; clear S a; intro a S
 refine qY S (y_load S (by kernel_rfl) rfl (M.cell 0 rfl (St.doubt s10c_ok _))) ?_; clear S a; intro a S
 refine qY S (y_lenS (E := 62) S rfl (by kernel_rfl)) ?_; clear S a; intro a S
 refine qG [1, 1, 1] S ?_; clear S a; intro a S
 refine st_fi (t := 50) S rfl ?_ ?_
 ·clear S; intro h50 S
  exact absurd rfl h50
 clear S; intro h50 S
 refine qG [272] S ?_; clear S a; intro a S
 refine qY S (y_load S (by kernel_rfl) rfl (M.cell 0 rfl (St.doubt s10c_ok _))) ?_; clear S a; intro a S
 refine qY S (y_indexR (e := 62) (sz := 6) S (by kernel_rfl) rfl (M.readRow 1 rfl (by decide)) rfl (by first | omega | (simp; done) | (simp; omega))) ?_; clear S a; intro a S
 refine qG [1, 1] S ?_; clear S a; intro a S
 refine qY S (y_load S (by kernel_rfl) rfl (((M.readRow 1 rfl (by decide)).at_.row (i := 0) hrow rfl) 0 (by show 0 < 6; omega))) ?_; clear S a; intro a S
 refine qG [1, 1, 1] S ?_; clear S a; intro a S
 refine st_fi (t := 59) S rfl ?_ ?_
 ·clear S; intro h59 S
  simp [nm10] at h59
 clear S; intro h59 S
 refine qG [16] S ?_; clear S a; intro a S
 refine qY S (y_indexA (m := 32) (sz := 8) S (by kernel_rfl) rfl rfl (by first | omega | (simp; done) | (simp; omega))) ?_; clear S a; intro a S
 refine qY S (y_indexA (m := 8) (sz := 1) S (by kernel_rfl) rfl rfl (by first | omega | (simp; done) | (simp; omega))) ?_; clear S a; intro a S
 refine qY S (y_load S (by kernel_rfl) rfl (M.cell 0 rfl (s10_cell _ _ _))) ?_; clear S a; intro a S
 refine qG [1, 1, 1] S ?_; clear S a; intro a S
 replace S := S.keep [7, 4, 6, 8, 0]
 refine nxC (wp_ret (end_one S rfl (res_tmp rfl) ?_))
 refine ⟨ret_bool ?_, M.below⟩
 simp
end Go.Proofs.YtodfphphidhjbaaGreat

namespace Go.Proofs.YtodfphphidhjbaaGreat
open Go.RowKit Go.Sort
theorem isH_any (k : Int) (w : World) : Calls Tryz.prog 62 #[.int .i64 k] w fun e w' => e = .returned (.bool (decide (0 ≤ k ∧ k < 8))) ∧ Below w.heap.size w w' := by
 have M := Mem.start w
 refine calls_enter Tryz.func62 rfl 9 rfl rfl ?_; intro a S
 refine nxD (qG [1] S ?_); clear S a; intro a S
 refine nxA (qG [1, 1, 1] S ?_); clear S a; intro a S
 refine st_if (t := 5) S rfl ?_ ?_
 ·clear S; intro h5 S
  refine qG [1, 1, 1, 1] S ?_; clear S a; intro a S
  refine nxC (wp_ret (end_one S rfl (res_tmp rfl) ?_))
  refine ⟨ret_bool ?_, M.below⟩; clear S M; rw [Bool.eq_iff_iff]; simp only [decide_eq_true_eq]; first | omega | (simp; omega)
 clear S; intro h5 S
 refine qG [0, 0, 1, 1] S ?_; clear S a; intro a S
 refine nxC (wp_ret (end_one S rfl (res_tmp rfl) ?_))
 refine ⟨ret_bool ?_, M.below⟩; clear S M; rw [Bool.eq_iff_iff]; simp only [decide_eq_true_eq]; first | omega | (simp; omega)
def zVs : List Value := hcells (List.replicate 4 zV8)
theorem getZ_any {wc w : World} {A E : List Ent} {b : Nat} {S0 : DS} (k : Nat) (hE : DkE b S0 E) (M : Mem wc w (A ++ E)) (hup : S0.down = false) (hw : ∀ k, (S0.cache k).length ≤ 1000000) (hk : k < 8) (hz : zerosB (S0.get (26 + k)) = true) :
 Calls Tryz.prog 25 #[.pointer (some ⟨b, 0, none⟩), .int .i64 (k : Int)] w fun e w' => ∃ bN, e = .returned (.tuple #[.slice (some ⟨bN, 0, none⟩) 4 4, .int .i64 0]) ∧ Mem wc w' (.blk bN zVs.toArray 138 :: (A ++ E)) := by
 refine calls_enter Tryz.func25 rfl 40 rfl rfl ?_; intro a S
 refine nxD (qG [1, 1] S ?_); clear S a; intro a S
 refine nxC (wp_seq (nxD (qG [1] S ?_))); clear S a; intro a S
 refine qY S (y_eqlPS (by kernel_rfl) S rfl) ?_; clear S a; intro a S
 refine nxC (st_condF S rfl (wp_skip (then_normal (wp_seq (nxD (qG [1] S ?_)))))); clear S a; intro a S
 refine qQ (xs := [.tmp 13]) S (qE Tryz.func62) rfl (isH_any _ _) M ?_; clear S M a; intro a w1 S hK M
 refine qG [1] S ?_; clear S a; intro a S
 refine nxC (st_if (t := 15) S rfl ?_ ?_)
 ·clear S; intro h15 S
  exfalso; simp at h15; omega
 clear S; intro h15 S
 refine st_condF S rfl (wp_skip (nxE (qG [1, 1] S ?_))); clear S a; intro a S
 (first | refine qY S (y_addN S rfl rfl (by omega)) ?_ | refine qY S (y_int S rfl rfl rfl) ?_); clear S a; intro a S
 rw [show (26 : Int) + (k : Int) = ((26 + k : Nat) : Int) by omega] at S
 refine qC (xs := [.tmp 17, .tmp 19]) S (qE Tryz.func58) rfl (dread_any (k := 26 + k) hE M hup (by omega) (hw _)) ?_
 rintro _ w2 ⟨v1, rfl, hF, hq64⟩; refine ⟨_, rfl, ?_⟩; clear S a; intro a S
 obtain ⟨lo, hi2, -, M1⟩ := M.pushFresh hF
 obtain ⟨q, hqb⟩ : ∃ q, S0.get (26 + k) = q := ⟨_, rfl⟩
 rw [hqb] at M1 hq64 hz
 clear M hF
 have M := M1
 clear M1
 refine qG [1, 1, 1, 1, 1] S ?_; clear S a; intro a S
 refine nxC (wp_seq (nxD (qG [1, 1] S ?_))); clear S a; intro a S
 refine nxC (st_if (t := 24) S rfl ?_ ?_)
 ·clear S; intro h24 S
  exact absurd rfl h24
 clear S; intro h24 S
 refine st_condF S rfl (wp_skip (then_normal (wp_seq (nxD (qG [1] S ?_))))); clear S a; intro a S
 refine qQ (xs := [.tmp 26]) S (qE Tryz.func59) rfl (zerosH_any v1 q _ (M.readAll 0 rfl (by unfold maxLen; omega))) M ?_; clear S M a; intro a w3 S hK M
 refine nxC (st_fi (t := 27) S rfl ?_ ?_)
 ·clear S; intro h27 S
  rw [hz] at h27; cases h27
 clear S; intro h27 S
 refine st_condT S rfl (nxD (st_alloc S M rfl rfl #[.int .u8 0, .int .u8 0, .int .u8 0, .int .u8 0, .int .u8 0, .int .u8 0, .int .u8 0, .int .u8 0, .int .u8 0, .int .u8 0, .int .u8 0, .int .u8 0, .int .u8 0, .int .u8 0, .int .u8 0, .int .u8 0, .int .u8 0, .int .u8 0, .int .u8 0, .int .u8 0, .int .u8 0, .int .u8 0, .int .u8 0, .int .u8 0, .int .u8 0, .int .u8 0, .int .u8 0, .int .u8 0, .int .u8 0, .int .u8 0, .int .u8 0, .int .u8 0] (by kernel_rfl) ?_)); clear S M a; intro a w4 bN S M hB
 refine nxA (qY S (y_sliceA (m := 4) (sz := 8) S (by kernel_rfl) rfl) ?_); clear S a; intro a S
 refine qG [1, 1] S ?_; clear S a; intro a S
 replace S := S.keep [0, 1, 12, 15, 6, 7, 24, 27, 8, 4, 5]
 refine nxC (wp_ret (then_ret (end_two S rfl (res_tmp rfl) (res_tmp rfl) ?_)))
 exact ⟨bN, rfl, M.sub (.cons_cons _ (.cons _ (List.Sublist.refl _)))⟩
end Go.Proofs.YtodfphphidhjbaaGreat

namespace Go.Proofs.YtodfphphidhjbaaGreat
open Go.RowKit Go.Sort
def Nm.less (a b : Nm) : Bool := decide (a.stamp < b.stamp ∨ (a.stamp = b.stamp ∧ (a.inc < b.inc ∨ (a.inc = b.inc ∧ a.try_ < b.try_))))
def cmpZ (a b : Int) : Int := if a < b then -1 else if b < a then 1 else 0
def orZ : List Int → Int
 | [] => 0
 | z :: r => if z = 0 then orZ r else z
end Go.Proofs.YtodfphphidhjbaaGreat

namespace Go.Proofs.YtodfphphidhjbaaGreat
open Go.RowKit Go.Sort
def secsN (r : Rc) (x : List Wr) : Int := if r.may x = true then (((r.enc x).length : Int) + 45 - 1) / 45 else 0
theorem may_shards {r : Rc} {x : List Wr} (h : r.may x = true) : r.shards ≤ 31 := by
 rcases may_cases h with ⟨-, hr, -⟩ | ⟨-, hr, -⟩ | ⟨-, hr, -⟩ | ⟨-, -, -, -, hs, -⟩ | ⟨-, hr, -⟩ | ⟨-, hr, -⟩ | ⟨-, hr, -⟩
 all_goals first
  | (simp only [shardsB, decide_eq_true_eq] at hs; omega)
  | (rw [hr]; simp [Rc.zero])
theorem ReadRP.form {bs : List UInt8} {w w' : World} {e : Ending} (h : ReadRP bs w e w') :
 ∃ (r : Rc) (x : List Wr) (ad : Option Addr) (cp : Nat) (c : Int), e = .returned (.tuple #[.agg (r.cells (.slice ad x.length cp)), .int .i64 c]) ∧ Fresh w w' 66 9 (.slice ad x.length cp) x.length (wcells x) ∧ x.length ≤ 8 ∧ r.shards ≤ 31 ∧
 ((c = 0 ∧ r.may x = true ∧ r.enc x = bs) ∨ (c = 40 ∧ r = Rc.zero ∧ x = [] ∧ ∀ (r : Rc) (x : List Wr), r.may x = true → r.enc x ≠ bs)) := by
 obtain ⟨r, x, v, c, rfl, hF, h⟩ := h
 have h8 : x.length ≤ 8 := by
  rcases h with ⟨-, hm, -⟩ | ⟨-, -, rfl, -⟩
  ·rcases may_cases hm with ⟨-, -, -, h1⟩ | ⟨-, -, -, h1, -⟩ | ⟨-, -, rfl, -⟩ | ⟨-, -, rfl, -⟩ | ⟨-, -, rfl, -⟩ | ⟨-, -, rfl, -⟩ | ⟨-, -, rfl, -⟩
   all_goals first
    | (simp only [writtenB, Bool.and_eq_true, decide_eq_true_eq] at h1; exact h1.1)
    | simp
  ·simp
 have hs : r.shards ≤ 31 := by
  rcases h with ⟨-, hm, -⟩ | ⟨-, rfl, -⟩
  ·exact may_shards hm
  ·simp [Rc.zero]
 obtain ⟨ad, cp, rfl, -, -⟩ := (hF.rd (by unfold maxLen; omega)).form
 refine ⟨r, x, ad, cp, c, rfl, hF, h8, hs, ?_⟩
 rcases h with h | ⟨h1, h2, h3, -, h5⟩
 ·exact .inl h
 ·exact .inr ⟨h1, h2, h3, h5⟩
def rWake : Rc := ⟨3, ⟨1, 1, 1⟩, true, 0, 0, 0, 0, 0, 0⟩
end Go.Proofs.YtodfphphidhjbaaGreat

namespace Go.Proofs.YtodfphphidhjbaaGreat
open Go.RowKit Go.Sort
section
variable {ds : List Deferred} {P : Program} {n : Nat} {a : Act} {L : List (Nat × Value)} {w : World}
theorem y_sliceA2 {x lo hi : Operand} {b o t m sz : Nat} {i j : Int} {k1 k2 : IntKind} (S : SeesD ds n a L) (hE : arrayElem P t = some (m, sz)) (hx : val L x = some (.pointer (some ⟨b, o, none⟩))) (h1 : val L lo = some (.int k1 i)) (h2 : val L hi = some (.int k2 j)) (h : 0 ≤ i ∧ i ≤ j ∧ j ≤ m ∧ i < m)
 {d : Option Tmp} {ty : TypeId} {p : String} {ed : Array Edge} {g : Option (Nat × Bool)} : Yields P a ⟨d, .slice t x (some lo) (some hi) none, ty, p, ed, g⟩ w (.slice (some ⟨b, o + i.toNat * sz, none⟩) (j.toNat - i.toNat) (m - i.toNat)) := by
 obtain ⟨e, hu, inf, hinf, rfl⟩ := arrayElem_spec hE
 unfold Yields execOp
 simp only [Option.map_none, Option.map_some, S.eval hx, S.eval h1, S.eval h2]
 have e0 : (⟨b, o, none⟩ : Addr).add (i.toNat * inf.size) = ⟨b, o + i.toNat * inf.size, none⟩ := by simp [Addr.add]
 have hne : ¬ m = i.toNat := by omega
 simp [Instr.sliceAt, Instr.sliceBounds, Instr.sliceBound, asIntOf, underlying, hu, Instr.sureAddr, sizeOf, typeInfo, hinf, h, hne, e0, go_sem]
 rw [if_pos (show 0 ≤ j by omega), if_pos (show i ≤ max j 0 by omega)]
end
def stSu (s : Su) (a b : Int) : St := ⟨[.int .i64 s.gen, .int .i64 s.tail], s.owned, [.int .i64 s.inc, .int .i64 s.bound, .int .i64 s.m0, .int .i64 s.m1, .int .i64 s.m2, .int .i64 s.m3, .int .i64 s.m4, .int .i64 s.m5, .int .i64 s.m6, .int .i64 s.m7, .int .i64 a, .int .i64 b], List.replicate 32 zV8, 0⟩
theorem stSu_ok (s : Su) (a b : Int) : (stSu s a b).ok := ⟨rfl, rfl, rfl, rfl, rfl⟩
theorem stSu_fill (s : Su) : putL (zSt.cellsL (.slice none 0 0)) 0 s.cellsL = (stSu s 0 0).cellsL (.slice none 0 0) := by kernel_rfl
theorem stSu_log (s : Su) (a b : Int) (dv : Value) : (((stSu s 0 0).cellsL dv).set 13 (.int .i64 a)).set 14 (.int .i64 b) = (stSu s a b).cellsL dv := rfl
theorem zero_mid {P Q : List Value} {k : Nat} (h : k < 8) (hp : P.length = 15) : (P ++ (hcells (List.replicate 32 zV8) ++ Q)).take (15 + k * 32) ++ zVs ++ (P ++ (hcells (List.replicate 32 zV8) ++ Q)).drop (15 + k * 32 + zVs.length) = P ++ (hcells (List.replicate 32 zV8) ++ Q) := by
 have hz : hcells (List.replicate 32 zV8) = List.replicate 256 (.int .u8 0) := by kernel_rfl
 have hv : zVs = List.replicate 32 (.int .u8 0) := by kernel_rfl
 rw [hz, hv, List.length_replicate]
 rw [List.take_append, List.drop_append, hp, List.take_of_length_le (by omega), List.drop_of_length_le (by omega)]
 rw [show 15 + k * 32 - 15 = k * 32 by omega, show 15 + k * 32 + 32 - 15 = k * 32 + 32 by omega]
 rw [List.take_append_of_le_length (by rw [List.length_replicate]; omega), List.drop_append_of_le_length (by rw [List.length_replicate]; omega), List.take_replicate, List.drop_replicate]
 rw [List.nil_append, List.append_assoc, List.append_assoc, ← List.append_assoc (List.replicate 32 _), ← List.append_assoc (List.replicate _ _) (_ ++ _), ← List.append_assoc (List.replicate _ _) (List.replicate 32 _), List.replicate_append_replicate, List.replicate_append_replicate]
 congr 3
 omega
theorem stSu_zero (s : Su) (a b : Int) (dv : Value) {k : Nat} (h : k < 8) : ((stSu s a b).cellsL dv).take (15 + k * 32) ++ zVs ++ ((stSu s a b).cellsL dv).drop (15 + k * 32 + zVs.length) = (stSu s a b).cellsL dv :=
 zero_mid (P := (stSu s a b).pre) h rfl
def foldS : St → Pl → Rl → St × Pl
 | s, ps, [] => (s, ps)
 | s, ps, q :: l => foldS (appSt s ps q.1 q.2) (stepO ps q.1 q.2).1 l
theorem foldS_snoc : ∀ (l : Rl) (s : St) (ps : Pl) (q : Rc × List Wr), foldS s ps (l ++ [q]) = (appSt (foldS s ps l).1 (foldS s ps l).2 q.1 q.2, (stepO (foldS s ps l).2 q.1 q.2).1)
 | [], _, _, _ => rfl
 | p :: l, s, ps, q => foldS_snoc l _ _ q
structure Recs (l : Rl) (bs : List (List UInt8)) : Prop where
 len : l.length = bs.length
 get : ∀ (i : Nat) (q : Rc × List Wr) (b : List UInt8), l[i]? = some q → bs[i]? = some b → q.1.enc q.2 = b ∧ takes q.1 q.2 = true
theorem Recs.nil : Recs [] [] := ⟨rfl, fun i q b h _ => by simp at h⟩
theorem Recs.snoc {l : Rl} {bs : List (List UInt8)} {q : Rc × List Wr} {b : List UInt8} (h : Recs l bs) (h1 : q.1.enc q.2 = b) (h2 : takes q.1 q.2 = true) : Recs (l ++ [q]) (bs ++ [b]) := by
 refine ⟨by rw [List.length_append, List.length_append, h.len]; rfl, fun i p c hp hc => ?_⟩
 rcases Nat.lt_trichotomy i l.length with hi | hi | hi
 ·rw [List.getElem?_append_left hi] at hp
  rw [List.getElem?_append_left (by rw [← h.len]; exact hi)] at hc
  exact h.get i p c hp hc
 ·subst hi
  rw [List.getElem?_append_right (Nat.le_refl _), Nat.sub_self] at hp
  rw [List.getElem?_append_right (by rw [h.len]; exact Nat.le_refl _), h.len, Nat.sub_self] at hc
  cases hp; cases hc
  exact ⟨h1, h2⟩
 ·rw [List.getElem?_eq_none (by rw [List.length_append]; show l.length + 1 ≤ i; omega)] at hp; cases hp
theorem gsR_tail {sec : Nat → List UInt8} {x : Su} (h : gsR sec = (x, 0)) : 1 ≤ x.tail ∧ x.tail ≤ 1099511627776 := by
 unfold gsR at h
 cases hb : bestN sec 2 with
 | some y =>
   rw [hb] at h
   obtain rfl : y = x := congrArg Prod.fst h
   have := bestN_may hb
   exact ⟨this.2.2.2.1, this.2.2.2.2.1⟩
 | none =>
   rw [hb] at h
   simp only at h
   split at h
   ·obtain rfl : suFirst = x := congrArg Prod.fst h
    decide
   ·have := congrArg Prod.snd h; simp at this
def OpenR (wc : World) (A E : List Ent) (S0 : DS) (e : Ending) (w' : World) : Prop :=
 ∃ (s : St) (ps : Pl) (da : Option Addr) (dc lo hi : Nat) (cs : List Value) (es : List Ent) (er : Int), e = .returned (.tuple #[.agg (s.cellsL (.slice da ps.length dc)).toArray, .int .i64 er]) ∧
  Mem wc w' (rowE lo hi 62 6 (.slice da ps.length dc) ps.length cs :: (es ++ (A ++ E))) ∧ PrBk cs ps es ∧ s.ok ∧ ps.length ≤ 24 ∧
  (er = 0 → ∃ (x : Su) (l : Rl), gsR (secD S0) = (x, 0) ∧ Recs l ((scanG S0 x.tail).l.map (·.2)) ∧ foldS (stSu x x.tail (scanG S0 x.tail).next) [] l = (s, ps))
theorem openR_no {wc w' : World} {A E : List Ent} {S0 : DS} {er : Int} (M : Mem wc w' (A ++ E)) (he : er ≠ 0) : OpenR wc A E S0 (.returned (.tuple #[.agg (zSt.cellsL (.slice none 0 0)).toArray, .int .i64 er])) w' := by
 obtain ⟨lo, hi, M1⟩ := M.nilRow 62 6
 exact ⟨zSt, [], none, 0, lo, hi, [], [], er, rfl, M1, PrBk.nil', zSt_ok, by simp, fun h => absurd h he⟩
theorem perm_r1 {R X Z U : Ent} {es F : List Ent} : (R :: (es ++ (X :: U :: Z :: F))).Perm (X :: U :: Z :: R :: (es ++ F)) := by
 have h1 : (es ++ (X :: U :: Z :: F)).Perm (X :: U :: Z :: (es ++ F)) := (List.perm_middle).trans (List.Perm.cons _ ((List.perm_middle).trans (List.Perm.cons _ List.perm_middle)))
 refine (List.Perm.cons _ h1).trans ?_
 refine (List.Perm.swap _ _ _).trans (List.Perm.cons _ ?_)
 refine (List.Perm.swap _ _ _).trans (List.Perm.cons _ ?_)
 exact List.Perm.swap _ _ _
theorem perm_r5 {D2 Y W X Z D : Ent} {es G : List Ent} : (D2 :: (es ++ (Y :: W :: X :: Z :: D :: G))).Perm (Y :: W :: X :: Z :: D :: D2 :: (es ++ G)) := by
 have h1 : (es ++ (Y :: W :: X :: Z :: D :: G)).Perm (Y :: W :: X :: Z :: D :: (es ++ G)) := (List.perm_middle).trans (List.Perm.cons _ ((List.perm_middle).trans (List.Perm.cons _ ((List.perm_middle).trans (List.Perm.cons _ ((List.perm_middle).trans (List.Perm.cons _ List.perm_middle)))))))
 refine (List.Perm.cons _ h1).trans ?_
 exact (List.perm_middle (l₁ := [Y, W, X, Z, D])).symm
theorem take_nextB {rs : List RB} {k : Nat} {r : RB} (h : rs[k]? = some r) : (rs.map RB.bs).take (k + 1) = (rs.map RB.bs).take k ++ [r.bs] := by
 rw [List.take_add_one, List.getElem?_map, h]; rfl
set_option maxHeartbeats 4000000 in
set_option maxRecDepth 10000 in
theorem openD_any {wc w : World} {A E : List Ent} {b : Nat} {S0 : DS} (hE : DkE b S0 E) (M : Mem wc w (A ++ E)) (hup : S0.down = false) (hw : ∀ k, (S0.cache k).length ≤ 1000000) (hz : ∀ k, k < 8 → zerosB (S0.get (26 + k)) = true) :
 Calls Tryz.prog 7 #[.pointer (some ⟨b, 0, none⟩)] w (OpenR wc A E S0) := by
 refine calls_enter Tryz.func7 rfl 92 rfl rfl ?_; intro a S
 refine nxD (st_alloc S M rfl rfl (zSt.cellsL (.slice none 0 0)).toArray (by kernel_rfl) ?_); clear S M a; intro a w1 bZ S M hB
 refine qG [1] S ?_; clear S a; intro a S
 refine nxC (wp_seq (nxD (qG [1] S ?_))); clear S a; intro a S
 refine qY S (y_eqlPS (by kernel_rfl) S rfl) ?_; clear S a; intro a S
 refine nxC (st_condF S rfl (wp_skip (nxE (qG [1] S ?_)))); clear S a; intro a S
 refine qC (xs := [.tmp 20]) S (qE Tryz.func24) rfl (getH_any (A := _ :: A) hE M hup hw) ?_
 rintro _ w2 ⟨rfl, M1⟩; refine ⟨_, rfl, ?_⟩; clear S M a; intro a S; have M := M1; clear M1
 simp only [List.cons_append] at M
 obtain ⟨x, er, hg⟩ : ∃ x er, gsR (secD S0) = (x, er) := ⟨_, _, rfl⟩
 rw [hg] at S
 refine qG [1, 1, 1] S ?_; clear S a; intro a S
 refine st_alloc S M rfl rfl #[.int .i64 0, .int .i64 0, .int .i64 0, .int .i64 0, .int .i64 0, .int .i64 0, .int .i64 0, .int .i64 0, .int .i64 0, .int .i64 0, .int .i64 0, .int .i64 0, .int .i64 0] (by kernel_rfl) ?_; clear S M a; intro a w3 bU S M hB
 refine qS (sz := 13) (us := [_, _, _, _, _, _, _, _, _, _, _, _, _]) S M 0 ?_; clear M; intro w4 M
 refine qG [1] S ?_; clear S a; intro a S
 refine nxC (wp_seq (nxD (qG [1, 1] S ?_))); clear S a; intro a S
 refine nxC (st_if (t := 25) S rfl ?_ ?_)
 ·clear S; intro h25 S
  refine st_condT S rfl (nxD (qY S (y_build (ps := []) (pl := [(0, 13), (13, 2), (15, 256), (271, 1), (272, 1)]) (z := zSt.cellsL (.slice none 0 0)) (cs := zSt.cellsL (.slice none 0 0)) S (by kernel_rfl) rfl (rfl)) ?_)); clear S a; intro a S
  refine qG [1] S ?_; clear S a; intro a S
  refine st_storeAll (sz := 273) S M 1 rfl (by kernel_rfl) rfl rfl (by with_reducible first | exact St.len zSt_ok _ | exact St.len (stSu_ok _ _ _) _ | exact St.len hs _ | exact St.len hs2 _) (by with_reducible first | exact St.one zSt_ok _ rfl | exact St.one (stSu_ok _ _ _) _ rfl | exact St.one hs _ rfl | exact St.one hs2 _ rfl) rfl (by with_reducible first | exact St.len zSt_ok _ | exact St.len (stSu_ok _ _ _) _ | exact St.len hs _ | exact St.len hs2 _) ?_; clear M; intro w5 M
  simp only [List.set_cons_zero, List.set_cons_succ] at M
  refine qG [1] S ?_; clear S a; intro a S
  refine nxC (wp_ret (then_ret (end_two S rfl (res_agg (k := 273) (cs := _) (by kernel_rfl) rfl (by with_reducible first | exact St.len zSt_ok _ | exact St.len (stSu_ok _ _ _) _ | exact St.len hs _ | exact St.len hs2 _) (M.cellsAt 1 rfl cutL_all)) (res_tmp rfl) ?_)))
  exact openR_no (M.sub (.cons _ (.cons _ (List.Sublist.refl _)))) (by omega)
 clear S; intro h25 S
 refine st_condF S rfl (wp_skip (nxE (qY S (y_loadAgg (cs := [_, _, _, _, _, _, _, _, _, _, _, _, _]) S (by kernel_rfl) rfl rfl (M.cellsAt (k := 13) 0 rfl rfl)) ?_))); clear S a; intro a S
 refine qY S (y_build (ps := [(0, .tmp 28)]) (pl := [(0, 13), (13, 2), (15, 256), (271, 1), (272, 1)]) (z := zSt.cellsL (.slice none 0 0)) (cs := (stSu x 0 0).cellsL (.slice none 0 0)) S (by kernel_rfl) rfl ((fillL_one (us := x.cellsL) (off := 0) (sz := 13) rfl rfl rfl (by rw [St.len zSt_ok]; exact (by decide : 0 + 13 ≤ 273))).trans (by rw [stSu_fill]))) ?_; clear S a; intro a S
 refine st_alloc S M rfl rfl (zSt.cellsL (.slice none 0 0)).toArray (by kernel_rfl) ?_; clear S M a; intro a w6 bX S M hB
 refine st_storeAll (sz := 273) S M 0 rfl (by kernel_rfl) rfl rfl (by with_reducible first | exact St.len zSt_ok _ | exact St.len (stSu_ok _ _ _) _ | exact St.len hs _ | exact St.len hs2 _) (by with_reducible first | exact St.one zSt_ok _ rfl | exact St.one (stSu_ok _ _ _) _ rfl | exact St.one hs _ rfl | exact St.one hs2 _ rfl) rfl (by with_reducible first | exact St.len zSt_ok _ | exact St.len (stSu_ok _ _ _) _ | exact St.len hs _ | exact St.len hs2 _) ?_; clear M; intro w7 M
 simp only [List.set_cons_zero, List.set_cons_succ] at M
 refine nxC (wp_seq (nxD (qG [1] S ?_))); clear S a; intro a S
 refine nxC (wp_block (wp_loop_g (fun m a w' => ∃ (k : Nat), k ≤ 8 ∧ m = 8 - k ∧ Sees 92 a [(0, .pointer (some ⟨b, 0, none⟩)), (2, .pointer (some ⟨bZ, 0, none⟩)), (4, .pointer (some ⟨bU, 0, none⟩)), (6, .pointer (some ⟨bX, 0, none⟩)), (30, .int .i64 (k : Int))] ∧ Mem wc w' (.blk bX ((stSu x 0 0).cellsL (.slice none 0 0)).toArray 39 :: .blk bU x.cellsL.toArray 24 :: .blk bZ (zSt.cellsL (.slice none 0 0)).toArray 39 :: (A ++ E))) (8) ?_ ?_))
 ·skip
  exact ⟨0, by omega, rfl, S.sub _ rfl, M⟩
 clear S M a; intro m a wl
 rintro ⟨k, hk, rfl, S, M⟩
 refine nxD (qG [1] S ?_); clear S a; intro a S
 refine nxC (wp_seq (st_if (t := 31) S rfl ?_ ?_))
 ·clear S; intro h31 S
  refine st_condT S rfl (wp_skip (then_normal (wp_seq (wp_block (nxD (qG [1, 1] S ?_)))))); clear S a; intro a S
  refine nxA (qG [1, 1] S ?_); clear S a; intro a S
  refine qC (xs := [.tmp 34, .tmp 35]) S (qE Tryz.func25) rfl (getZ_any (A := _ :: _ :: _ :: A) k hE M hup hw (by omega) (hz k (by omega))) ?_
  rintro _ w8 ⟨bN, rfl, M1⟩; refine ⟨_, rfl, ?_⟩; clear S M a; intro a S; have M := M1; clear M1
  simp only [List.cons_append] at M
  refine qG [1, 1, 1, 1, 1] S ?_; clear S a; intro a S
  refine nxC (wp_seq (nxD (qG [1, 1] S ?_))); clear S a; intro a S
  refine nxC (st_if (t := 40) S rfl ?_ ?_)
  ·clear S; intro h40 S
   exact absurd rfl h40
  clear S; intro h40 S
  refine st_condF S rfl (wp_skip (nxF (qG [16, 1] S ?_))); clear S a; intro a S
  (first | refine qY S (y_mulN S rfl rfl (by omega)) ?_ | refine qY S (y_int S rfl rfl rfl) ?_); clear S a; intro a S
  refine qG [1] S ?_; clear S a; intro a S
  (first | refine qY S (y_addN S rfl rfl (by omega)) ?_ | refine qY S (y_int S rfl rfl rfl) ?_); clear S a; intro a S
  (first | refine qY S (y_mulN S rfl rfl (by omega)) ?_ | refine qY S (y_int S rfl rfl rfl) ?_); clear S a; intro a S
  refine qY S (y_sliceA2 (m := 32) (sz := 8) S (by kernel_rfl) rfl rfl rfl (by first | omega | (simp; done) | (simp; omega))) ?_; clear S a; intro a S
  refine qG [1] S ?_; clear S a; intro a S
  refine st_copyN (e := 35) (sz := 8) (us := zVs) S M 1 rfl rfl (by kernel_rfl) rfl rfl rfl (M.cellsAt (k := 32) 0 rfl rfl) (by rw [show zVs.length = 32 from rfl]; simp only [Nat.min_def]; split <;> omega) (by kernel_rfl) (by rw [St.len (stSu_ok _ _ _), show zVs.length = 32 from rfl]; exact (show 0 + 15 + ((k : Int) * 4).toNat * 8 + 32 ≤ 273 by omega)) ?_
  clear S M a; intro a wy S M
  rw [show 0 + 15 + ((k : Int) * 4).toNat * 8 = 15 + k * 32 by omega] at M
  simp only [List.set_cons_zero, List.set_cons_succ] at M
  replace S := S.keep [0, 2, 4, 6, 30, 31, 7, 8, 9, 40]
  refine wpList_nil (block_normal (nxF ?_))
  (first | refine qY S (y_addN S rfl rfl (by omega)) ?_ | refine qY S (y_int S rfl rfl rfl) ?_); clear S a; intro a S
  refine qG [1] S ?_; clear S a; intro a S
  refine nxC ?_
  skip
  replace M := M.drop 0
  simp only [List.eraseIdx_cons_succ, List.eraseIdx_cons_zero] at M
  refine ⟨8 - (k + 1), by omega, k + 1, by omega, rfl, S.sub _ rfl, ?_⟩
  have e : ((stSu x 0 0).cellsL (.slice none 0 0)).take (15 + k * 32) ++ zVs ++ ((stSu x 0 0).cellsL (.slice none 0 0)).drop (15 + k * 32 + zVs.length) = (stSu x 0 0).cellsL (.slice none 0 0) := stSu_zero x 0 0 _ (by omega)
  rw [← e]
  exact M
 clear S; intro h31 S
 refine st_condF S rfl (wp_exit (then_exit (then_exit (block_hit (then_normal (wp_seq ?_))))))
 have hg0 : gsR (secD S0) = (x, 0) := by have e : er = 0 := h25; rw [hg, e]
 have htl := gsR_tail hg0
 obtain ⟨sc, hsc⟩ : ∃ sc, scanG S0 x.tail = sc := ⟨_, rfl⟩
 refine wp_region_lit (qR [1, 2, 2] S M ?_); clear S a; intro a S
 refine qC (xs := [.tmp 54, .tmp 56]) S (qE Tryz.func26) rfl (Scan_anyG (A := _ :: _ :: _ :: A) x.tail hE M hup hw htl) ?_
 rintro _ w9 ⟨rs, ra, rc, rlo, rhi, rfl, hrs, h90, h24, M1⟩; refine ⟨_, rfl, ?_⟩; clear S M a; intro a S
 have M := M1.perm (perm_r1 (es := rs.map RB.ent))
 simp only [List.append_eq] at M
 clear M1
 rw [hsc] at hrs S
 refine qG [1, 1, 1, 1] S ?_; clear S a; intro a S
 refine st_alloc S M rfl rfl #[.int .i64 0, .int .i64 0] (by kernel_rfl) ?_; clear S M a; intro a w10 bL S M hB
 refine qG [1] S ?_; clear S a; intro a S
 refine qS (sz := 2) (us := [_, _]) S M 0 ?_; clear M; intro w11 M
 refine qG [1] S ?_; clear S a; intro a S
 refine nxC (wp_seq (nxD (qG [1, 1] S ?_))); clear S a; intro a S
 refine nxC (st_if (t := 62) S rfl ?_ ?_)
 ·clear S; intro h62 S
  exact absurd rfl h62
 clear S; intro h62 S
 refine st_condF S rfl (wp_skip (nxE (qY S (y_loadAgg (cs := [_, _]) S (by kernel_rfl) rfl rfl (M.cellsAt (k := 2) 0 rfl rfl)) ?_))); clear S a; intro a S
 refine qG [14] S ?_; clear S a; intro a S
 refine st_store (sz := 2) (us := [_, _]) S M 1 rfl (by kernel_rfl) rfl rfl rfl rfl rfl rfl (by rw [St.len (stSu_ok _ _ _)]; exact (by decide : 15 ≤ 273)) ?_; clear M; intro w12 M
 simp only [putL, List.set_cons_zero, List.set_cons_succ, Nat.reduceAdd] at M
 refine nxC (wp_seq (wp_seq ?_))
 rw [stSu_log] at M
 replace M := M.drop 0
 simp only [List.eraseIdx_cons_succ, List.eraseIdx_cons_zero] at M
 replace M := M.drop 1
 simp only [List.eraseIdx_cons_succ, List.eraseIdx_cons_zero] at M
 obtain ⟨dlo, dhi, M1⟩ := M.nilRow 62 6
 clear M
 obtain ⟨F0, hF0⟩ : ∃ F0, F0 = rowE rlo rhi 57 1 (.slice ra rs.length rc) rs.length (rs.map RB.val) :: (rs.map RB.ent ++ (A ++ E)) := ⟨_, rfl⟩
 have hRow : rowE rlo rhi 57 1 (.slice ra rs.length rc) rs.length (rs.map RB.val) ∈ F0 := by rw [hF0]; exact List.mem_cons_self ..
 have hEnt : ∀ r ∈ rs, r.ent ∈ F0 := fun r hr => by rw [hF0]; exact List.mem_cons_of_mem _ (List.mem_append_left _ (List.mem_map_of_mem hr))
 have hSub : (A ++ E).Sublist F0 := by rw [hF0]; exact .cons _ (List.sublist_append_right _ _)
 rw [← hF0] at M1
 have M : Mem wc w12 (.blk bX ((stSu x x.tail sc.next).cellsL (.slice none ([] : Pl).length 0)).toArray 39 :: .blk bZ (zSt.cellsL (.slice none 0 0)).toArray 39 :: rowE dlo dhi 62 6 (.slice none ([] : Pl).length 0) ([] : Pl).length [] :: ([] ++ F0)) := M1.perm (List.perm_middle (l₁ := [_, _])).symm
 clear M1 hF0
 have hle : rs.length ≤ 24 := h24
 refine wp_region_lit (qG [1] S ?_); clear S a; intro a S
 refine qY S (y_lenS (E := 57) S rfl (by kernel_rfl)) ?_; clear S a; intro a S
 refine qG [1] S ?_; clear S a; intro a S
 refine nxC (wp_block (wp_loop_g (fun m a w' => ∃ (k : Nat) (s : St) (ps : Pl) (da : Option Addr) (dc dlo dhi : Nat) (cs : List Value) (es : List Ent) (l : Rl), k ≤ rs.length ∧ m = rs.length - k ∧ s.ok ∧ ps.length ≤ k ∧ Recs l ((rs.map RB.bs).take k) ∧ foldS (stSu x x.tail sc.next) [] l = (s, ps) ∧ PrBk cs ps es ∧ Sees 92 a [(2, .pointer (some ⟨bZ, 0, none⟩)), (6, .pointer (some ⟨bX, 0, none⟩)), (67, .slice ra rs.length rc), (68, .int .i64 (rs.length : Int)), (69, .int .i64 (k : Int))] ∧ Mem wc w' (.blk bX (s.cellsL (.slice da ps.length dc)).toArray 39 :: .blk bZ (zSt.cellsL (.slice none 0 0)).toArray 39 :: rowE dlo dhi 62 6 (.slice da ps.length dc) ps.length cs :: (es ++ F0))) (rs.length) ?_ ?_))
 ·skip
  exact ⟨0, stSu x x.tail sc.next, [], none, 0, dlo, dhi, [], [], [], Nat.zero_le _, rfl, stSu_ok _ _ _, Nat.le_refl _, Recs.nil, rfl, PrBk.nil', S.sub _ rfl, M⟩
 clear S M a; intro m a wl
 rintro ⟨k, s, ps, da, dc, dlo, dhi, cs, es, l, hk, rfl, hs, hpl, hRs, hfo, hBk, S, M⟩
 have hSub2 : (A ++ E).Sublist (es ++ F0) := hSub.trans (List.sublist_append_right _ _)
 refine nxD (qG [1] S ?_); clear S a; intro a S
 refine nxC (wp_seq (st_fi (t := 70) S rfl ?_ ?_))
 ·clear S; intro h70 S
  refine st_condF S rfl (wp_exit (then_exit (then_exit (block_hit (then_normal (wp_seq ?_))))))
  obtain rfl : k = rs.length := by omega
  rw [List.take_of_length_le (by simp), hrs] at hRs
  refine wp_region_lit (qY S (y_loadAgg (k := 273) (cs := _) S (by kernel_rfl) rfl (by with_reducible first | exact St.len zSt_ok _ | exact St.len (stSu_ok _ _ _) _ | exact St.len hs _ | exact St.len hs2 _) (M.cellsAt 0 rfl cutL_all)) ?_); clear S a; intro a S
  refine st_storeAll (sz := 273) S M 1 rfl (by kernel_rfl) rfl rfl (by with_reducible first | exact St.len zSt_ok _ | exact St.len (stSu_ok _ _ _) _ | exact St.len hs _ | exact St.len hs2 _) (by with_reducible first | exact St.one zSt_ok _ rfl | exact St.one (stSu_ok _ _ _) _ rfl | exact St.one hs _ rfl | exact St.one hs2 _ rfl) rfl (by with_reducible first | exact St.len zSt_ok _ | exact St.len (stSu_ok _ _ _) _ | exact St.len hs _ | exact St.len hs2 _) ?_; clear M; intro w20 M
  simp only [List.set_cons_zero, List.set_cons_succ] at M
  refine qG [1] S ?_; clear S a; intro a S
  refine nxC (wp_ret (end_two S rfl (res_agg (k := 273) (cs := _) (by kernel_rfl) rfl (by with_reducible first | exact St.len zSt_ok _ | exact St.len (stSu_ok _ _ _) _ | exact St.len hs _ | exact St.len hs2 _) (M.cellsAt 1 rfl cutL_all)) (res_tmp rfl) ?_))
  exact ⟨s, ps, da, dc, dlo, dhi, cs, es, 0, rfl, M.sub (.cons _ (.cons _ (.cons_cons _ ((List.Sublist.refl es).append hSub)))), hBk, hs, by omega, fun _ => ⟨x, l, hg0, by rw [hsc]; exact hRs, by rw [hsc]; exact hfo⟩⟩
 clear S; intro h70 S
 refine st_condT S rfl (wp_skip (then_normal (wp_seq (wp_block (wp_seq ?_)))))
 have hkl : k < rs.length := by omega
 obtain ⟨r, hr⟩ : ∃ r, rs[k]? = some r := ⟨_, List.getElem?_eq_getElem hkl⟩
 have hrm := List.mem_of_getElem? hr
 have hr90 := h90 r hrm
 refine wp_region_lit (qY S (y_indexR (e := 57) (sz := 1) S (by kernel_rfl) rfl ((M.readIn (.tail _ (.tail _ (.tail _ (List.mem_append_right _ hRow)))) (by unfold maxLen; omega))) rfl (by first | omega | (simp; done) | (simp; omega))) ?_); clear S a; intro a S
 try simp only [Int.toNat_natCast, Nat.mul_one, Nat.zero_add] at S
 refine qY S (y_load S (by kernel_rfl) rfl ((M.readIn (.tail _ (.tail _ (.tail _ (List.mem_append_right _ hRow)))) (by unfold maxLen; omega)).at_.one k (by rw [List.getElem?_map, hr]; rfl))) ?_; clear S a; intro a S
 refine qG [1] S ?_; clear S a; intro a S
 refine nxA (qG [1] S ?_); clear S a; intro a S
 refine qC (xs := [.tmp 74]) S (qE Tryz.func27) rfl (readR_any r.val r.bs _ (M.readIn (.tail _ (.tail _ (.tail _ (List.mem_append_right _ (hEnt r hrm))))) (by unfold maxLen; omega))) ?_
 rintro _ w13 hP; obtain ⟨q, wx, wa, wcp, c, rfl, hF, h8, hs31, hcc⟩ := ReadRP.form hP; refine ⟨_, rfl, ?_⟩; clear S a; intro a S
 obtain ⟨wlo, whi, -, M1⟩ := M.pushFresh hF
 clear M hP hF
 have M := M1
 clear M1
 refine qG [1, 1, 1] S ?_; clear S a; intro a S
 refine st_alloc S M rfl rfl #[.int .i8 0, .int .i64 0, .int .i64 0, .int .i64 0, .bool false, .slice none 0 0, .int .i64 0, .int .i64 0, .int .i64 0, .int .i64 0, .int .i64 0, .int .i64 0] (by kernel_rfl) ?_; clear S M a; intro a w14 bY S M hB
 refine qS (sz := 12) (us := [_, _, _, _, _, _, _, _, _, _, _, _]) S M 0 ?_; clear M; intro w15 M
 refine qG [1] S ?_; clear S a; intro a S
 refine nxC (wp_seq (nxD (qG [1, 1] S ?_))); clear S a; intro a S
 refine nxC (st_if (t := 79) S rfl ?_ ?_)
 ·clear S; intro h79 S
  refine st_condT S rfl (nxD (qY S (y_build (ps := []) (pl := [(0, 13), (13, 2), (15, 256), (271, 1), (272, 1)]) (z := zSt.cellsL (.slice none 0 0)) (cs := zSt.cellsL (.slice none 0 0)) S (by kernel_rfl) rfl (rfl)) ?_)); clear S a; intro a S
  refine st_storeAll (sz := 273) S M 3 rfl (by kernel_rfl) rfl rfl (by with_reducible first | exact St.len zSt_ok _ | exact St.len (stSu_ok _ _ _) _ | exact St.len hs _ | exact St.len hs2 _) (by with_reducible first | exact St.one zSt_ok _ rfl | exact St.one (stSu_ok _ _ _) _ rfl | exact St.one hs _ rfl | exact St.one hs2 _ rfl) rfl (by with_reducible first | exact St.len zSt_ok _ | exact St.len (stSu_ok _ _ _) _ | exact St.len hs _ | exact St.len hs2 _) ?_; clear M; intro w16 M
  simp only [List.set_cons_zero, List.set_cons_succ] at M
  refine qG [1] S ?_; clear S a; intro a S
  refine nxC (wp_ret (then_ret (block_ret (then_ret (then_ret (block_ret (then_ret (end_two S rfl (res_agg (k := 273) (cs := _) (by kernel_rfl) rfl (by with_reducible first | exact St.len zSt_ok _ | exact St.len (stSu_ok _ _ _) _ | exact St.len hs _ | exact St.len hs2 _) (M.cellsAt 3 rfl cutL_all)) (res_tmp rfl) ?_))))))))
  exact openR_no (M.sub (by repeat (first | exact hSub2 | refine List.Sublist.cons _ ?_))) (by decide)
 clear S; intro h79 S
 refine st_condF S rfl (wp_skip (then_normal (wp_seq ?_)))
 have hok : q.may wx = true ∧ q.enc wx = r.bs := by
  rcases hcc with ⟨-, h1, h2⟩ | ⟨h1, -⟩
  ·exact ⟨h1, h2⟩
  ·exfalso; omega
 refine wp_region_lit (qY S (y_loadAgg (k := 273) (cs := _) S (by kernel_rfl) rfl (by with_reducible first | exact St.len zSt_ok _ | exact St.len (stSu_ok _ _ _) _ | exact St.len hs _ | exact St.len hs2 _) (M.cellsAt 2 rfl cutL_all)) ?_); clear S a; intro a S
 refine qY S (y_loadAgg (cs := [_, _, _, _, _, _, _, _, _, _, _, _]) S (by kernel_rfl) rfl rfl (M.cellsAt (k := 12) 0 rfl rfl)) ?_; clear S a; intro a S
 refine qC (xs := [.tmp 82, .tmp 83]) S (qE Tryz.func11) rfl (apply_any s hs _ cs ps _ ((hBk.prs M (List.mem_of_getElem? (show _[4]? = _ from rfl)) (fun e he => by simp [he]) (by unfold maxLen; omega)).wide (Nat.zero_le _) (Nat.le_refl _)) (by omega) hBk.short q wa wcp wx (M.readAll 1 rfl (by unfold maxLen; omega)) (by omega) (by omega)) ?_
 rintro _ w17 hA; obtain ⟨s2, ps2, c2, da2, dc2, lo2, hi2, cs2, es2, rfl, hs2, M2, hBk2, hc2⟩ := apply_form hA (by omega); refine ⟨_, rfl, ?_⟩; clear S a hA; intro a S; have hK := M2.below
 replace M := (M.join M2).perm perm_r5
 clear M2
 refine qG [1, 1, 1] S ?_; clear S a; intro a S
 refine st_storeAll (sz := 273) S M 2 rfl (by kernel_rfl) rfl rfl (by with_reducible first | exact St.len zSt_ok _ | exact St.len (stSu_ok _ _ _) _ | exact St.len hs _ | exact St.len hs2 _) (by with_reducible first | exact St.one zSt_ok _ rfl | exact St.one (stSu_ok _ _ _) _ rfl | exact St.one hs _ rfl | exact St.one hs2 _ rfl) rfl (by with_reducible first | exact St.len zSt_ok _ | exact St.len (stSu_ok _ _ _) _ | exact St.len hs _ | exact St.len hs2 _) ?_; clear M; intro w18 M
 simp only [List.set_cons_zero, List.set_cons_succ] at M
 refine qG [1] S ?_; clear S a; intro a S
 replace S := S.keep [2, 6, 67, 68, 69, 70, 13, 14, 79, 15]
 refine nxA (qG [1, 1] S ?_); clear S a; intro a S
 refine nxC (st_fi (t := 88) S rfl ?_ ?_)
 ·clear S; intro h88 S
  refine st_condF S rfl (wp_skip (block_normal (nxF ?_)))
  (first | refine qY S (y_addN S rfl rfl (by omega)) ?_ | refine qY S (y_int S rfl rfl rfl) ?_); clear S a; intro a S
  refine qG [1] S ?_; clear S a; intro a S
  refine nxC ?_
  have hc3 : takes q wx = true ∧ s2 = appSt s ps q wx ∧ ps2 = (stepO ps q wx).1 := by
   rcases hc2 with ⟨h1, -, h2, h3⟩ | ⟨-, h1, -⟩
   ·exact ⟨h1, h2, h3⟩
   ·exfalso; omega
  obtain ⟨htk, rfl, rfl⟩ := hc3
  have hsl := stepP_len ps q wx
  replace M := M.drop 0
  simp only [List.eraseIdx_cons_succ, List.eraseIdx_cons_zero] at M
  replace M := M.drop 0
  simp only [List.eraseIdx_cons_succ, List.eraseIdx_cons_zero] at M
  replace M := M.drop 2
  simp only [List.eraseIdx_cons_succ, List.eraseIdx_cons_zero] at M
  exact ⟨rs.length - (k + 1), by omega, k + 1, _, _, da2, dc2, lo2, hi2, cs2, es2, l ++ [(q, wx)], by omega, rfl, hs2, by omega, by rw [take_nextB hr]; exact hRs.snoc hok.2 htk, by rw [foldS_snoc, hfo], hBk2, S.sub _ rfl, M.sub (.cons_cons _ (.cons_cons _ (.cons_cons _ ((List.Sublist.refl es2).append (List.sublist_append_right es F0)))))⟩
 clear S; intro h88 S
 refine st_condT S rfl (nxD (qY S (y_build (ps := []) (pl := [(0, 13), (13, 2), (15, 256), (271, 1), (272, 1)]) (z := zSt.cellsL (.slice none 0 0)) (cs := zSt.cellsL (.slice none 0 0)) S (by kernel_rfl) rfl (rfl)) ?_)); clear S a; intro a S
 refine st_storeAll (sz := 273) S M 3 rfl (by kernel_rfl) rfl rfl (by with_reducible first | exact St.len zSt_ok _ | exact St.len (stSu_ok _ _ _) _ | exact St.len hs _ | exact St.len hs2 _) (by with_reducible first | exact St.one zSt_ok _ rfl | exact St.one (stSu_ok _ _ _) _ rfl | exact St.one hs _ rfl | exact St.one hs2 _ rfl) rfl (by with_reducible first | exact St.len zSt_ok _ | exact St.len (stSu_ok _ _ _) _ | exact St.len hs _ | exact St.len hs2 _) ?_; clear M; intro w19 M
 simp only [List.set_cons_zero, List.set_cons_succ] at M
 refine qG [1] S ?_; clear S a; intro a S
 refine nxC (wp_ret (block_ret (then_ret (then_ret (block_ret (then_ret (end_two S rfl (res_agg (k := 273) (cs := _) (by kernel_rfl) rfl (by with_reducible first | exact St.len zSt_ok _ | exact St.len (stSu_ok _ _ _) _ | exact St.len hs _ | exact St.len hs2 _) (M.cellsAt 3 rfl cutL_all)) (res_tmp rfl) ?_)))))))
 exact openR_no (M.sub (by repeat (first | exact hSub2.trans (List.sublist_append_right _ _) | refine List.Sublist.cons _ ?_))) (by decide)
end Go.Proofs.YtodfphphidhjbaaGreat

namespace Go.Proofs.YtodfphphidhjbaaGreat
open Go.RowKit Go.Sort
def prRc (p : Pr) : Rc := ⟨2, p.name, false, p.give, p.take, 0, 0, 0, 0⟩
theorem prepare_any (p : Pr) (ad : Option Addr) (l c : Nat) (w : World) : Calls Tryz.prog 47 #[.agg (p.cellsL (.slice ad l c)).toArray] w fun e w' => e = .returned (.agg ((prRc p).cells (.slice ad l c))) ∧ Below w.heap.size w w' := by
 have M := Mem.start w
 refine calls_enter Tryz.func47 rfl 12 rfl rfl ?_; intro a S
 refine nxD (st_box S M rfl rfl rfl #[_, _, _, _, _, _] rfl ?_); clear S M a; intro a w1 bP S M hB
 refine st_alloc S M rfl rfl #[.int .i8 0, .int .i64 0, .int .i64 0, .int .i64 0, .bool false, .slice none 0 0, .int .i64 0, .int .i64 0, .int .i64 0, .int .i64 0, .int .i64 0, .int .i64 0] (by kernel_rfl) ?_; clear S M a; intro a w2 bZ S M hB
 refine nxA (qG [1] S ?_); clear S a; intro a S
 refine qY S (y_loadAgg (cs := [_, _, _]) S (by kernel_rfl) rfl rfl (M.cellsAt (k := 3) 1 rfl rfl)) ?_; clear S a; intro a S
 refine qR [4, 2, 5, 2, 6, 2] S M ?_; clear S a; intro a S
 refine qY S (y_build (ps := [(0, .const (.int .i8 2)), (1, .tmp 4), (3, .tmp 6), (4, .tmp 8), (5, .tmp 10)]) (pl := [(0, 1), (1, 3), (4, 1), (5, 1), (6, 1), (7, 1), (8, 1), (9, 2), (11, 1)]) (z := [.int .i8 0, .int .i64 0, .int .i64 0, .int .i64 0, .bool false, .slice none 0 0, .int .i64 0, .int .i64 0, .int .i64 0, .int .i64 0, .int .i64 0, .int .i64 0]) (cs := [_, _, _, _, _, _, _, _, _, _, _, _]) S (by kernel_rfl) rfl (rfl)) ?_; clear S a; intro a S
 refine qS (sz := 12) (us := [_, _, _, _, _, _, _, _, _, _, _, _]) S M 0 ?_; clear M; intro w3 M
 refine nxC (wp_ret (end_one S rfl (res_agg (cs := [_, _, _, _, _, _, _, _, _, _, _, _]) (by kernel_rfl) rfl rfl (M.cellsAt (k := 12) 0 rfl rfl)) ?_))
 exact ⟨rfl, M.below⟩
theorem prSame_any (p q : Pr) (va vb : Value) (x y : List Wr) (w : World) (hx : Ws 0 w.heap.size w va x) (hy : Ws 0 w.heap.size w vb y) :
 Calls Tryz.prog 45 #[.agg (p.cellsL va).toArray, .agg (q.cellsL vb).toArray] w fun e w' => e = .returned (.bool ((prRc p).same (prRc q) x y)) ∧ Below w.heap.size w w' := by
 obtain ⟨aa, ca, rfl, -, -⟩ := hx.form
 obtain ⟨ab, cb, rfl, -, -⟩ := hy.form
 have M := Mem.start w
 refine calls_enter Tryz.func45 rfl 10 rfl rfl ?_; intro a S
 refine nxD (st_box S M rfl rfl rfl #[_, _, _, _, _, _] rfl ?_); clear S M a; intro a w1 bP S M hB
 refine st_box S M rfl rfl rfl #[_, _, _, _, _, _] rfl ?_; clear S M a; intro a w2 bQ S M hB
 refine qG [1] S ?_; clear S a; intro a S
 refine nxC (wp_seq (wp_regionK [] #[false, false, false, false, false, false] rfl M (by kernel_rfl) ?_)); clear M; intro w3 M
 refine k_read 0 S rfl (fun w hW => have M := M.grow hW; y_loadAgg (cs := [_, _, _, _, _, _]) S (by kernel_rfl) rfl rfl (M.cellsAt (k := 6) 1 rfl rfl)) ?_; clear S a; intro a S
 refine k_read 2 S rfl (fun w hW => have M := M.grow hW; y_loadAgg (cs := [_, _, _, _, _, _]) S (by kernel_rfl) rfl rfl (M.cellsAt (k := 6) 0 rfl rfl)) ?_; clear S a; intro a S
 refine k_one 1 rfl (by kernel_rfl) ?_
 refine qQ (xs := [.tmp 5]) S (qE Tryz.func47) rfl (prepare_any p aa _ ca _) M ?_; clear S M a; intro a w4 S hK M
 refine wpList_nil ?_; refine then_normal ?_; refine ⟨fun _ => hK, ?_⟩
 refine k_one 3 rfl (by kernel_rfl) ?_
 refine qQ (xs := [.tmp 7]) S (qE Tryz.func47) rfl (prepare_any q ab _ cb _) M ?_; clear S M a; intro a w5 S hK M
 refine wpList_nil ?_; refine then_normal ?_; refine ⟨fun _ => hK, ?_⟩
 refine k_one 4 rfl (by kernel_rfl) ?_
 refine qQ (xs := [.tmp 6, .tmp 8]) S (qE Tryz.func46) rfl (same_any (prRc p) (prRc q) _ _ x y _ (M.argW hx) (M.argW hy)) M ?_; clear S M a; intro a w6 S hK M
 refine wpList_nil ?_; refine then_normal ?_; refine ⟨fun _ => hK, ?_⟩
 refine k_pure 5 S rfl (fun w => y_assign S rfl) ?_; clear S a; intro a S
 refine k_end (by kernel_rfl) ?_
 refine then_normal (wp_ret (end_one S rfl (res_tmp rfl) ?_))
 exact ⟨rfl, M.below⟩
theorem Nm.eqb_self (n : Nm) : n.eqb n = true := by simp [Nm.eqb]
theorem prSame_refl (p : Pr) (x : List Wr) : (prRc p).same (prRc p) x x = true := by
 simp [Rc.same, eqWs_refl, Nm.eqb_self]
set_option maxHeartbeats 400000 in
theorem equalPrs_any (va vb : Option Addr) (vc vd : Nat) (cs ct : List Value) (ps : Pl) (w : World) (hv : PrsC cs 0 w.heap.size w (.slice va ps.length vc) ps) (hu : PrsC ct 0 w.heap.size w (.slice vb ps.length vd) ps) :
 Calls Tryz.prog 44 #[.slice va ps.length vc, .slice vb ps.length vd, .func (.func 45) #[] #[]] w (fun e w' => e = .returned (.bool true) ∧ Below w.heap.size w w') := by
 have M := Mem.start w
 have hl := hv.1.2.1
 unfold maxLen at hl
 refine calls_enter Tryz.func44 rfl 32 rfl rfl ?_; intro a S
 refine nxD (qG [1] S ?_); clear S a; intro a S
 refine nxC (wp_seq (nxD (qG [1] S ?_))); clear S a; intro a S
 refine qY S (y_lenS (E := 62) S rfl (by kernel_rfl)) ?_; clear S a; intro a S
 refine qG [1] S ?_; clear S a; intro a S
 refine qY S (y_lenS (E := 62) S rfl (by kernel_rfl)) ?_; clear S a; intro a S
 refine qG [1] S ?_; clear S a; intro a S
 refine nxC (st_if (t := 14) S rfl ?_ ?_)
 ·clear S; intro h14 S
  exact absurd rfl h14
 clear S; intro h14 S
 refine st_condF S rfl (wp_skip (then_normal (wp_seq (nxD (qG [1] S ?_))))); clear S a; intro a S
 refine qY S (y_lenS (E := 62) S rfl (by kernel_rfl)) ?_; clear S a; intro a S
 refine qG [1] S ?_; clear S a; intro a S
 refine nxC (wp_block (wp_loop_g (fun m a w' => ∃ (k : Nat), k ≤ ps.length ∧ m = ps.length - k ∧ Sees 32 a [(1, .slice vb ps.length vd), (2, .func (.func 45) #[] #[]), (15, .slice va ps.length vc), (16, .int .i64 (ps.length : Int)), (17, .int .i64 (k : Int))] ∧ Mem w w' []) (ps.length) ?_ ?_))
 ·skip
  exact ⟨0, Nat.zero_le _, rfl, S.sub _ rfl, M⟩
 clear S M a; intro m a wl
 rintro ⟨k, hk, rfl, S, M⟩
 refine nxD (qG [1] S ?_); clear S a; intro a S
 refine nxC (wp_seq (st_fi (t := 18) S rfl ?_ ?_))
 ·clear S; intro h18 S
  refine st_condF S rfl (wp_exit (then_exit (then_exit (block_hit (nxE (qG [1] S ?_)))))); clear S a; intro a S
  refine nxC (wp_ret (end_one S rfl (res_tmp rfl) ?_))
  exact ⟨rfl, M.below⟩
 clear S; intro h18 S
 refine st_condT S rfl (wp_skip (then_normal (wp_seq (wp_block (wp_seq ?_)))))
 obtain ⟨p, hp⟩ : ∃ p, ps[k]? = some p := ⟨_, List.getElem?_eq_getElem (by omega)⟩
 obtain ⟨xa, xc, hrowp, hwp⟩ := hv.sl hp
 obtain ⟨ya, yc, hrowq, hwq⟩ := hu.sl hp
 refine wp_region_lit (qG [1] S ?_); clear S a; intro a S
 refine qY S (y_indexR (e := 62) (sz := 6) S (by kernel_rfl) rfl ((M.prs hv).1) rfl (by first | omega | (simp; done) | (simp; omega))) ?_; clear S a; intro a S
 try simp only [Int.toNat_natCast, Nat.mul_one, Nat.zero_add] at S
 refine qY S (y_loadAgg S (by kernel_rfl) rfl rfl ((M.prs hv).1.at_.row (i := k) hrowp rfl)) ?_; clear S a; intro a S
 refine st_alloc S M rfl rfl #[.int .i64 0, .int .i64 0, .int .i64 0, .slice none 0 0, .int .i64 0, .int .i64 0] (by kernel_rfl) ?_; clear S M a; intro a w1 bA S M hB
 refine qG [1] S ?_; clear S a; intro a S
 refine qS (sz := 6) (us := [_, _, _, _, _, _]) S M 0 ?_; clear M; intro w2 M
 refine nxA (qG [1, 1] S ?_); clear S a; intro a S
 refine qY S (y_indexR (e := 62) (sz := 6) S (by kernel_rfl) rfl ((M.prs hu).1) rfl (by first | omega | (simp; done) | (simp; omega))) ?_; clear S a; intro a S
 try simp only [Int.toNat_natCast, Nat.mul_one, Nat.zero_add] at S
 refine qY S (y_loadAgg S (by kernel_rfl) rfl rfl ((M.prs hu).1.at_.row (i := k) hrowq rfl)) ?_; clear S a; intro a S
 refine st_alloc S M rfl rfl #[.int .i64 0, .int .i64 0, .int .i64 0, .slice none 0 0, .int .i64 0, .int .i64 0] (by kernel_rfl) ?_; clear S M a; intro a w3 bB S M hB
 refine qS (sz := 6) (us := [_, _, _, _, _, _]) S M 0 ?_; clear M; intro w4 M
 refine nxA (qG [1] S ?_); clear S a; intro a S
 refine qY S (y_loadAgg (cs := [_, _, _, _, _, _]) S (by kernel_rfl) rfl rfl (M.cellsAt (k := 6) 1 rfl rfl)) ?_; clear S a; intro a S
 refine qY S (y_loadAgg (cs := [_, _, _, _, _, _]) S (by kernel_rfl) rfl rfl (M.cellsAt (k := 6) 0 rfl rfl)) ?_; clear S a; intro a S
 refine st_callB (xs := [.tmp 27, .tmp 28]) (fi := []) (ca := []) S (enters_of Tryz.func45 (by decide) rfl) rfl rfl (rfl) rfl (prSame_any p.1 p.1 _ _ p.2 p.2 _ (M.argW hwp) (M.argW hwq)) ?_
 rintro _ w5 ⟨rfl, hK⟩; refine ⟨_, rfl, ?_⟩; clear S a; intro a S; replace M := M.grow hK
 refine qG [1] S ?_; clear S a; intro a S
 refine nxC (st_if (t := 30) S rfl ?_ ?_)
 ·clear S; intro h30 S
  rw [prSame_refl] at h30; cases h30
 clear S; intro h30 S
 refine st_condF S rfl (wp_skip (block_normal (nxF ?_)))
 (first | refine qY S (y_addN S rfl rfl (by omega)) ?_ | refine qY S (y_int S rfl rfl rfl) ?_); clear S a; intro a S
 refine qG [1] S ?_; clear S a; intro a S
 refine nxC ?_
 replace M := M.drop 1
 simp only [List.eraseIdx_cons_succ, List.eraseIdx_cons_zero] at M
 replace M := M.drop 0
 simp only [List.eraseIdx_cons_succ, List.eraseIdx_cons_zero] at M
 exact ⟨ps.length - (k + 1), by omega, k + 1, by omega, rfl, S.sub _ rfl, M⟩
theorem equalM8 (d : Nat) (a b c e f g h i : Int) (w : World) : (Op.equalIn (d + 2) 22 (.agg #[.int .i64 a, .int .i64 b, .int .i64 c, .int .i64 e, .int .i64 f, .int .i64 g, .int .i64 h, .int .i64 i]) (.agg #[.int .i64 a, .int .i64 b, .int .i64 c, .int .i64 e, .int .i64 f, .int .i64 g, .int .i64 h, .int .i64 i])).run Tryz.prog w = .ok true w := by
 obtain ⟨j, hj⟩ := Option.isSome_iff_exists.1 (show (Tryz.prog.info? 3).isSome = true by kernel_rfl)
 have hc : Tryz.prog.cellsOf 3 = 1 := by kernel_rfl
 rw [run_equalIn_array w (d + 1) _ _ Tryz.underlying22 hj, hc]
 simp only [List.range, List.range.loop, Op.eqItems, part, isAgg, Sem.run_bind, run_underlying Tryz.underlying3, Result.andThen_ok]
 simp [run_equalIn_int w d 3 .i64 .i64 _ _ Tryz.underlying3]
theorem equalSu (d : Nat) (s : Su) (w : World) : (Op.equalIn (d + 3) 24 (.agg s.cellsL.toArray) (.agg s.cellsL.toArray)).run Tryz.prog w = .ok true w := by
 have h := equalM8 d s.m0 s.m1 s.m2 s.m3 s.m4 s.m5 s.m6 s.m7 w
 simp [go_sem, h]
theorem equalLg (d : Nat) (a b : Int) (w : World) : (Op.equalIn (d + 2) 33 (.agg #[.int .i64 a, .int .i64 b]) (.agg #[.int .i64 a, .int .i64 b])).run Tryz.prog w = .ok true w := by
 simp [go_sem]
def stG (x : Su) (o a b : Int) (h : List V8) (n : Int) : St := ⟨[.int .i64 x.gen, .int .i64 x.tail], o, [.int .i64 x.inc, .int .i64 x.bound, .int .i64 x.m0, .int .i64 x.m1, .int .i64 x.m2, .int .i64 x.m3, .int .i64 x.m4, .int .i64 x.m5, .int .i64 x.m6, .int .i64 x.m7, .int .i64 a, .int .i64 b], h, n⟩
theorem stG_ok (x : Su) (o a b : Int) {h : List V8} (n : Int) (hh : h.length = 32) : (stG x o a b h n).ok := ⟨rfl, rfl, hh, rfl, rfl⟩
theorem foldS_stG (x : Su) : ∀ (l : Rl) (o : Int) (h : List V8) (n : Int) (ps : Pl), ∃ (o' : Int) (h' : List V8) (n' : Int) (ps' : Pl), h'.length = h.length ∧ (0 ≤ n ∧ n + (l.length : Int) ≤ 1000000 → n' = n + (l.length : Int)) ∧ ∀ a b, foldS (stG x o a b h n) ps l = (stG x o' a b h' n', ps')
 | [], o, h, n, ps => ⟨o, h, n, ps, rfl, fun _ => by simp, fun a b => rfl⟩
 | q :: l, o, h, n, ps => by
   obtain ⟨o', h', n', ps', hl, hn, hf⟩ := foldS_stG x l (ownP o ps q.1) (onF h (stepO ps q.1 q.2).2) (IntKind.i64.wrap (n + 1)) (stepO ps q.1 q.2).1
   refine ⟨o', h', n', ps', by rw [hl, onF_length], fun hb => ?_, fun a b => hf a b⟩
   rw [List.length_cons] at hb ⊢
   have e : IntKind.i64.wrap (n + 1) = n + 1 := IntWalk.i64_in _ (by omega)
   rw [e] at hn
   rw [hn (by omega)]
   omega
set_option maxRecDepth 10000 in
theorem same10_any (x : Su) (o a b n a' b' n' : Int) (h : List V8) (hh : h.length = 32) (va vb : Option Addr) (vc vd : Nat) (cs ct : List Value) (ps : Pl) (w : World) (hv : PrsC cs 0 w.heap.size w (.slice va ps.length vc) ps) (hu : PrsC ct 0 w.heap.size w (.slice vb ps.length vd) ps) :
 Calls Tryz.prog 13 #[.agg ((stG x o a b h n).cellsL (.slice va ps.length vc)).toArray, .agg ((stG x o a' b' h n').cellsL (.slice vb ps.length vd)).toArray] w fun e w' => e = .returned (.bool true) ∧ Below w.heap.size w w' := by
 have M := Mem.start w
 have h1 := stG_ok x o a b n hh
 have h2 := stG_ok x o a' b' n' hh
 refine calls_enter Tryz.func13 rfl 24 rfl rfl ?_; intro a S
 refine nxD (st_box S M rfl rfl rfl _ rfl ?_); clear S M a; intro a w1 bX S M hB
 refine st_box S M rfl rfl rfl _ rfl ?_; clear S M a; intro a w2 bY S M hB
 refine qG [1] S ?_; clear S a; intro a S
 refine nxA (qG [1] S ?_); clear S a; intro a S
 refine qY S (y_loadAgg (cs := [_, _, _, _, _, _, _, _, _, _, _, _, _]) S (by kernel_rfl) rfl rfl (M.cellsAt (k := 13) 1 rfl rfl)) ?_; clear S a; intro a S
 refine qG [1] S ?_; clear S a; intro a S
 refine qY S (y_loadAgg (cs := [_, _, _, _, _, _, _, _, _, _, _, _, _]) S (by kernel_rfl) rfl rfl (M.cellsAt (k := 13) 0 rfl rfl)) ?_; clear S a; intro a S
 refine qY S (y_eqlG (by kernel_rfl) S rfl rfl (fun w => equalSu 9997 ({ x with owned := o } : Su) w)) ?_; clear S a; intro a S
 refine qG [1] S ?_; clear S a; intro a S
 refine st_fi (t := 10) S rfl ?_ ?_
 ·clear S; intro h10 S
  simp at h10
 clear S; intro h10 S
 refine qG [16] S ?_; clear S a; intro a S
 refine qY S (y_loadAgg (k := 256) S (by kernel_rfl) rfl (by with_reducible first | exact St.len h1 _ | exact St.len h2 _ | exact St.pre_len h1 | exact St.pre_len h2 | exact h1.hl | exact h2.hl) (M.cellsMid 1 rfl (by with_reducible first | exact St.len h1 _ | exact St.len h2 _ | exact St.pre_len h1 | exact St.pre_len h2 | exact h1.hl | exact h2.hl))) ?_; clear S a; intro a S
 refine qG [16] S ?_; clear S a; intro a S
 refine qY S (y_loadAgg (k := 256) S (by kernel_rfl) rfl (by with_reducible first | exact St.len h1 _ | exact St.len h2 _ | exact St.pre_len h1 | exact St.pre_len h2 | exact h1.hl | exact h2.hl) (M.cellsMid 0 rfl (by with_reducible first | exact St.len h1 _ | exact St.len h2 _ | exact St.pre_len h1 | exact St.pre_len h2 | exact h1.hl | exact h2.hl))) ?_; clear S a; intro a S
 refine qY S (y_eqlG (by kernel_rfl) S rfl rfl (fun w => equalHs 9997 h hh w)) ?_; clear S a; intro a S
 refine qG [1, 1] S ?_; clear S a; intro a S
 refine st_fi (t := 17) S rfl ?_ ?_
 ·clear S; intro h17 S
  simp at h17
 clear S; intro h17 S
 refine qG [272] S ?_; clear S a; intro a S
 refine qY S (y_load S (by kernel_rfl) rfl (M.cell 1 rfl (St.doubt h1 _))) ?_; clear S a; intro a S
 refine qG [272] S ?_; clear S a; intro a S
 refine qY S (y_load S (by kernel_rfl) rfl (M.cell 0 rfl (St.doubt h2 _))) ?_; clear S a; intro a S
 refine qQ (xs := [.tmp 19, .tmp 21, (Operand.func 45)]) S (qE Tryz.func44) rfl (equalPrs_any va vb vc vd cs ct ps _ (M.prsW hv) (M.prsW hu)) M ?_; clear S M a; intro a w3 S hK M
 refine qG [1, 1] S ?_; clear S a; intro a S
 replace S := S.keep [0, 1, 2, 3, 4]
 refine nxC (wp_ret (end_one S rfl (res_tmp rfl) ?_))
 exact ⟨rfl, M.below⟩
end Go.Proofs.YtodfphphidhjbaaGreat

namespace Go.Proofs.YtodfphphidhjbaaGreat
open Go.RowKit Go.Sort
theorem number9_any {wc w : World} {H : List Ent} {lo hi : Nat} {va : Option Addr} {vc : Nat} {xs : List UInt8} (M : Mem wc w (rowE lo hi 5 1 (.slice va xs.length vc) xs.length (bcells xs) :: H)) (n : Int) (k : Nat) (hn : 0 ≤ n) (hk : k ≤ 6) (hx : xs.length ≤ 1000) :
 Calls Tryz.prog 48 #[.slice va xs.length vc, .int .i64 n, .int .i64 (k : Int)] w fun e w' => ∃ (va' : Option Addr) (vc' lo' hi' : Nat) (ys : List UInt8), e = .returned (.slice va' ys.length vc') ∧ ys.length = xs.length + k ∧ Mem wc w' (rowE lo' hi' 5 1 (.slice va' ys.length vc') ys.length (bcells ys) :: H) := by
 refine calls_enter Tryz.func48 rfl 23 rfl rfl ?_; intro a S
 refine wp_seq ?_
 skip
 refine wp_region_lit (qG [1] S ?_); clear S a; intro a S
 refine nxC (wp_seq (nxD (qG [1] S ?_))); clear S a; intro a S
 refine nxC (wp_block (wp_loop_g (fun m a w' => ∃ (j lo hi : Nat) (va : Option Addr) (vc : Nat) (ys : List UInt8), j ≤ k ∧ m = k - j ∧ ys.length = xs.length + j ∧ Sees 23 a [(0, .slice va ys.length vc), (1, .int .i64 n), (2, .int .i64 (k : Int)), (7, .int .i64 (j : Int))] ∧ Mem wc w' (rowE lo hi 5 1 (.slice va ys.length vc) ys.length (bcells ys) :: H)) (k) ?_ ?_))
 ·skip
  exact ⟨0, lo, hi, va, vc, xs, Nat.zero_le _, rfl, rfl, S.sub _ rfl, M⟩
 clear S M a; intro m a wl
 rintro ⟨j, lo, hi, va, vc, ys, hj, rfl, hys, S, M⟩
 refine wp_seq (nxD (qG [1, 1, 1] S ?_)); clear S a; intro a S
 refine nxC (st_fi (t := 10) S rfl ?_ ?_)
 ·clear S; intro h10 S
  refine st_condF S rfl (wp_exit (then_exit (then_exit (block_hit (nxE (qG [1, 1] S ?_)))))); clear S a; intro a S
  refine nxC (wp_ret (end_one S rfl (res_tmp rfl) ?_))
  obtain rfl : j = k := by omega
  exact ⟨va, vc, lo, hi, ys, rfl, hys, M⟩
 clear S; intro h10 S
 refine st_condT S rfl (wp_skip (then_normal (wp_seq (wp_block (wp_region_lit (qG [1, 1, 1] S ?_)))))); clear S a; intro a S
 (first | refine qY S (y_mulN S rfl rfl (by omega)) ?_ | refine qY S (y_int S rfl rfl rfl) ?_); clear S a; intro a S
 refine qY S (y_toU64 S rfl (by kernel_rfl) (by kernel_rfl) (by omega)) ?_; clear S a; intro a S
 (first | refine qY S (y_shrN S rfl rfl (by omega)) ?_ | refine qY S (y_shr S rfl rfl (by omega)) ?_); clear S a; intro a S
 refine qY S (y_to8 S rfl (by kernel_rfl) (by kernel_rfl)) ?_; clear S a; intro a S
 refine st_lit (ps := [(0, .tmp 19)]) (e := 5) (sz := 1) (zl := [.int .u8 0]) (cs := [_]) S M rfl rfl (by kernel_rfl) rfl (rfl) ?_; clear S M a; intro a w1 bD S M hB
 refine st_append (e := 5) (sz := 1) (by_ := 1) (zc := [.int .u8 0]) S M 1 rfl rfl (by kernel_rfl) rfl (by decide) rfl rfl rfl (Rd.of_blk (sz := 1) (xs := bcells [byteOf (n / 2 ^ ((8 : Int) * (j : Int)).toNat)]) (M.blk 0 rfl) rfl (Nat.le_refl _) (by unfold maxLen; omega) rfl) (allOne_bcells _) (by omega) (by unfold maxLen; omega) ?_; clear S M a; intro a w2 vA loA hiA S M
 obtain ⟨aA, cA, rfl, -, -⟩ := (M.readAll 0 rfl (by unfold maxLen; omega)).form
 refine qY S (y_assign S rfl) ?_; clear S a; intro a S
 refine wpList_nil (block_normal (nxF (qG [1] S ?_))); clear S a; intro a S
 (first | refine qY S (y_addN S rfl rfl (by omega)) ?_ | refine qY S (y_int S rfl rfl rfl) ?_); clear S a; intro a S
 refine qG [1] S ?_; clear S a; intro a S
 replace S := S.keep [1, 2, 10, 0, 7]
 refine nxC ?_
 replace M := M.drop 1
 simp only [List.eraseIdx_cons_succ, List.eraseIdx_cons_zero] at M
 refine ⟨k - (j + 1), by omega, j + 1, loA, hiA, aA, cA, ys ++ [byteOf (n / 2 ^ ((8 : Int) * (j : Int)).toNat)], by omega, rfl, by simp; omega, ?_, ?_⟩
 ·rw [List.length_append]; exact S.sub _ rfl
 ·rw [List.length_append, bcells_append]; exact M
def NoHome (S S' : RS) : Prop := S'.sure = S.sure ∧ ∃ l, S'.cache = S.cache ++ l ∧ ∀ x ∈ l, (0 ≤ x.1 ∧ x.1 < 26) ∧ x.2.length = 64
theorem NoHome.refl (S : RS) : NoHome S S := ⟨rfl, [], by simp, fun x hx => absurd hx (by simp)⟩
theorem NoHome.trans {S T U : RS} (h : NoHome S T) (k : NoHome T U) : NoHome S U := by
 obtain ⟨a, l, b, c⟩ := h
 obtain ⟨d, m, e, g⟩ := k
 refine ⟨d.trans a, l ++ m, by rw [e, b, List.append_assoc], fun x hx => ?_⟩
 rcases List.mem_append.1 hx with h | h
 ·exact c x h
 ·exact g x h
theorem NoHome.write (S : RS) {n : Int} {bs : List UInt8} (h : 0 ≤ n ∧ n < 26) (hb : bs.length = 64) : NoHome S (S.write n bs) :=
 ⟨rfl, [(n, bs)], rfl, fun x hx => by obtain rfl := List.mem_singleton.1 hx; exact ⟨h, hb⟩⟩
theorem RingOnly.noHome {S T : RS} (h : RingOnly S T) : NoHome S T := by
 obtain ⟨a, l, b, c⟩ := h
 exact ⟨a, l, b, fun x hx => ⟨by have := c x hx; omega, (c x hx).2⟩⟩
def Put9P (wo : World) (A : List Ent) (b : Nat) (S : RS) (e : Ending) (w' : World) : Prop := ∃ (er : Int) (S' : RS) (E' : List Ent), e = .returned (.int .i64 er) ∧ R3E b S' E' ∧ Mem wo w' (A ++ E') ∧ NoHome S S' ∧ S'.cache.length ≤ S.cache.length + 1
set_option maxHeartbeats 2000000 in
theorem put9_any {wo w : World} {A E : List Ent} {b : Nat} {S0 : RS} (s : Su) (hE : R3E b S0 E) (M : Mem wo w (A ++ E)) (hc : S0.cache.length ≤ 900) (hm : s.may) :
 Calls Tryz.prog 18 #[.pointer (some ⟨b, 0, none⟩), .agg s.cellsL.toArray] w (Put9P wo A b S0) := by
 obtain ⟨hmm, h1, h2, h3, h4, h5, h6, h7, h8, h9, h10⟩ := id hm
 refine calls_enter Tryz.func18 rfl 47 rfl rfl ?_; intro a S
 refine nxD (st_box S M rfl rfl rfl #[_, _, _, _, _, _, _, _, _, _, _, _, _] rfl ?_); clear S M a; intro a w1 bB S M hB
 refine qG [1] S ?_; clear S a; intro a S
 refine nxC (wp_seq (nxD (qY S (y_loadAgg (cs := [_, _, _, _, _, _, _, _, _, _, _, _, _]) S (by kernel_rfl) rfl rfl (M.cellsAt (k := 13) 0 rfl rfl)) ?_))); clear S a; intro a S
 refine qQ (xs := [.tmp 7]) S (qE Tryz.func17) rfl (may9_any s _) M ?_; clear S M a; intro a w2 S hK M
 refine qG [1] S ?_; clear S a; intro a S
 refine nxC (st_if (t := 9) S rfl ?_ ?_)
 ·clear S; intro h9 S
  refine st_condT S rfl (nxD (qG [1] S ?_)); clear S a; intro a S
  refine nxC (wp_ret (then_ret (end_one S rfl (res_tmp rfl) ?_)))
  exfalso; simp_all
 clear S; intro h9 S
 refine st_condF S rfl (wp_skip (nxE (qG [1] S ?_))); clear S a; intro a S
 refine nxC (wp_seq ?_)
 replace M := M.rowNil 5 1
 obtain ⟨ya, yc, ylo, yhi, ys, hys, hS0, M1⟩ : ∃ (ya : Option Addr) (yc ylo yhi : Nat) (ys : List UInt8), ys.length = 0 ∧ Value.slice none 0 0 = Value.slice ya ys.length yc ∧ Mem wo w2 (rowE ylo yhi 5 1 (.slice ya ys.length yc) ys.length (bcells ys) :: .blk bB s.cellsL.toArray 24 :: (A ++ E)) := ⟨none, 0, _, _, [], rfl, rfl, M⟩
 rw [hS0] at S
 clear M hS0; have M := M1; clear M1
 refine wp_region_lit (qR [1, 1, 2] S M ?_); clear S a; intro a S
 refine qC (xs := [.tmp 10, .tmp 12, .const (.int .i64 6)]) S (qE Tryz.func48) rfl (number9_any M s.gen 6 (by omega) (by omega) (by omega)) ?_
 rintro _ w3 ⟨ya, yc, ylo, yhi, ys, rfl, hys, M1⟩; refine ⟨_, rfl, ?_⟩; clear S M a; intro a S; have M := M1; clear M1
 refine qG [1] S ?_; clear S a; intro a S
 refine nxA (qR [1, 2, 2] S M ?_); clear S a; intro a S
 refine qC (xs := [.tmp 14, .tmp 16, .const (.int .i64 6)]) S (qE Tryz.func48) rfl (number9_any M s.tail 6 (by omega) (by omega) (by omega)) ?_
 rintro _ w4 ⟨ya, yc, ylo, yhi, ys, rfl, hys, M1⟩; refine ⟨_, rfl, ?_⟩; clear S M a; intro a S; have M := M1; clear M1
 refine qG [1] S ?_; clear S a; intro a S
 refine nxA (qR [1, 3, 2] S M ?_); clear S a; intro a S
 refine qC (xs := [.tmp 18, .tmp 20, .const (.int .i64 1)]) S (qE Tryz.func48) rfl (number9_any M s.owned 1 (by omega) (by omega) (by omega)) ?_
 rintro _ w5 ⟨ya, yc, ylo, yhi, ys, rfl, hys, M1⟩; refine ⟨_, rfl, ?_⟩; clear S M a; intro a S; have M := M1; clear M1
 refine qG [1] S ?_; clear S a; intro a S
 replace S := S.keep [0, 1, 3, 4, 9, 5]
 refine nxA (qR [1, 4, 2] S M ?_); clear S a; intro a S
 refine qC (xs := [.tmp 22, .tmp 24, .const (.int .i64 3)]) S (qE Tryz.func48) rfl (number9_any M s.inc 3 (by omega) (by omega) (by omega)) ?_
 rintro _ w6 ⟨ya, yc, ylo, yhi, ys, rfl, hys, M1⟩; refine ⟨_, rfl, ?_⟩; clear S M a; intro a S; have M := M1; clear M1
 refine qG [1] S ?_; clear S a; intro a S
 refine nxA (qR [1, 5, 2] S M ?_); clear S a; intro a S
 refine qC (xs := [.tmp 26, .tmp 28, .const (.int .i64 3)]) S (qE Tryz.func48) rfl (number9_any M s.bound 3 (by omega) (by omega) (by omega)) ?_
 rintro _ w7 ⟨ya, yc, ylo, yhi, ys, rfl, hys, M1⟩; refine ⟨_, rfl, ?_⟩; clear S M a; intro a S; have M := M1; clear M1
 refine qG [1] S ?_; clear S a; intro a S
 refine nxC (wp_seq (nxD (qG [1] S ?_))); clear S a; intro a S
 refine nxC (wp_block (wp_loop_g (fun m a w' => ∃ (i ylo yhi : Nat) (ya : Option Addr) (yc : Nat) (ys : List UInt8), i ≤ 8 ∧ m = 8 - i ∧ ys.length = 19 + i ∧ Sees 47 a [(0, .pointer (some ⟨b, 0, none⟩)), (3, .pointer (some ⟨bB, 0, none⟩)), (5, .slice ya ys.length yc), (6, .int .i64 (i : Int))] ∧ Mem wo w' (rowE ylo yhi 5 1 (.slice ya ys.length yc) ys.length (bcells ys) :: .blk bB s.cellsL.toArray 24 :: (A ++ E))) (8) ?_ ?_))
 ·skip
  exact ⟨0, _, _, ya, yc, ys, by omega, rfl, by omega, S.sub _ rfl, M⟩
 clear S M a; intro m a wl
 rintro ⟨i, ylo, yhi, ya, yc, ys, hi, rfl, hys, S, M⟩
 refine wp_seq (nxD (qG [1, 1] S ?_)); clear S a; intro a S
 refine nxC (st_if (t := 31) S rfl ?_ ?_)
 ·clear S; intro h31 S
  refine st_condT S rfl (wp_skip (then_normal (wp_seq (wp_block (wp_region_lit (qG [1, 1, 6] S ?_)))))); clear S a; intro a S
  refine qY S (y_indexA (m := 8) (sz := 1) S (by kernel_rfl) rfl rfl (by first | omega | (simp; done) | (simp; omega))) ?_; clear S a; intro a S
  try simp only [Int.toNat_natCast, Nat.mul_one, Nat.zero_add] at S
  refine qY S (y_load S (by kernel_rfl) rfl (M.cell 1 rfl (s.mAt_cell (by omega)))) ?_; clear S a; intro a S
  refine qC (xs := [.tmp 34, .tmp 38, .const (.int .i64 1)]) S (qE Tryz.func48) rfl (number9_any M (s.mAt i) 1 (hmm i (by omega)).1 (by omega) (by omega)) ?_
  rintro _ w8 ⟨ya, yc, ylo, yhi, ys, rfl, hys, M1⟩; refine ⟨_, rfl, ?_⟩; clear S M a; intro a S; have M := M1; clear M1
  refine qG [1] S ?_; clear S a; intro a S
  refine wpList_nil (block_normal (nxF (qG [1] S ?_))); clear S a; intro a S
  (first | refine qY S (y_addN S rfl rfl (by omega)) ?_ | refine qY S (y_int S rfl rfl rfl) ?_); clear S a; intro a S
  refine qG [1] S ?_; clear S a; intro a S
  refine nxC ?_
  exact ⟨8 - (i + 1), by omega, i + 1, _, _, ya, yc, ys, by omega, rfl, by omega, S.sub _ rfl, M⟩
 clear S; intro h31 S
 refine st_condF S rfl (wp_exit (then_exit (then_exit (block_hit (then_normal (wp_seq (wp_regionK [6] #[false, false, false, false, false, false, false, false] rfl M (by kernel_rfl) ?_))))))); clear M; intro w9 M
 refine k_pure 0 S rfl (fun w => y_move S rfl) ?_; clear S a; intro a S
 refine k_pure 1 S rfl (fun w => y_fieldAddr (k := 0) S (by kernel_rfl) rfl) ?_; clear S a; intro a S
 refine k_read 2 S rfl (fun w hW => have M := M.grow hW; y_load S (by kernel_rfl) rfl (M.cell 1 rfl rfl)) ?_; clear S a; intro a S
 (first | refine k_pure 3 S rfl (fun w => y_remN S rfl rfl (by omega)) ?_ | refine k_pure 3 S rfl (fun w => y_remZ S rfl rfl (by omega)) ?_); clear S a; intro a S
 refine k_pure 4 S rfl (fun w => y_move S rfl) ?_; clear S a; intro a S
 refine k_one 5 rfl (by kernel_rfl) ?_
 refine qC (xs := [.tmp 44]) S (qE Tryz.func50) rfl (refSeal_any (.slice ya ys.length yc) ys _ (M.readAll 0 rfl (by unfold maxLen; omega)) (by omega)) ?_
 rintro _ w10 ⟨v4, rfl, hF⟩; refine ⟨_, rfl, ?_⟩; clear S a; intro a S
 obtain ⟨lo4, hi4, -, M4⟩ := (Mem.start _).pushFresh hF
 have hK := M4.below
 replace M := M.join M4
 clear M4 hF
 have hsl : (sealB ys).length = 31 := by unfold sealB; rw [List.length_append]; show _ + 4 = _; omega
 generalize sealB ys = zs at M hsl
 obtain ⟨za, zc, rfl, -, -⟩ := (M.readAll 0 rfl (by unfold maxLen; omega)).form
 simp only [List.cons_append, List.nil_append] at M
 refine wpList_nil ?_; refine then_normal ?_; refine ⟨fun _ => hK, ?_⟩
 refine k_one 6 rfl (by kernel_rfl) ?_
 refine qC (xs := [.tmp 40, .tmp 43, .tmp 45]) S (qE Tryz.func49) rfl (write3_any (A := _ :: _ :: _ :: A) (s.gen % 2) za zc zs hE M (fun W M => M.readAll 0 rfl (by unfold maxLen; omega)) (by omega)) ?_
 rintro _ w11 ⟨er2, S2, E2, rfl, hE2, M2, hS2⟩; refine ⟨_, rfl, ?_⟩; clear S M a; intro a S; have M := M2; clear M2
 simp only [List.cons_append, List.nil_append] at M
 have hR2 : NoHome S0 S2 ∧ S2.cache.length ≤ S0.cache.length + 1 := by
  rcases hS2 with ⟨-, h1, rfl⟩ | ⟨-, -, rfl⟩
  ·exact ⟨NoHome.write S0 (by omega) (pad64_len (by omega)), by unfold RS.write; simp⟩
  ·exact ⟨.refl _, Nat.le_succ _⟩
 refine wpList_nil ?_; refine then_normal ?_; refine ⟨fun h => absurd h (by decide), ?_⟩
 refine k_pure 7 S rfl (fun w => y_assign S rfl) ?_; clear S a; intro a S
 refine k_end (by kernel_rfl) ?_
 refine then_normal (wp_ret (end_one S rfl (res_tmp rfl) ?_))
 exact ⟨_, S2, E2, rfl, hE2, ((M.drop 0).drop 0).drop 0, hR2.1, hR2.2⟩
end Go.Proofs.YtodfphphidhjbaaGreat

namespace Go.Proofs.YtodfphphidhjbaaGreat
open Go.RowKit Go.Sort
def BRows (W : World) (v : Value) (bss : List (List UInt8)) : Prop := ∃ vs, Rd 0 W.heap.size W 1 v bss.length vs ∧ ∀ (i : Nat) x bs, vs[i]? = some x → bss[i]? = some bs → Bs 0 W.heap.size W x bs
end Go.Proofs.YtodfphphidhjbaaGreat

namespace Go.Proofs.YtodfphphidhjbaaGreat
open Go.RowKit Go.Sort
def greatB (xs : List (List UInt8)) : Bool := decide (40 < xs.length) || xs.any fun b => decide (1000 < b.length)
theorem greatL_any (v : Value) (xs : List (List UInt8)) (w : World) (hv : BRows w v xs) : Calls Tryz.prog 4 #[v] w fun e w' => ∃ g, e = .returned (.bool g) ∧ (g = false → xs.length ≤ 40 ∧ ∀ b ∈ xs, b.length ≤ 1000) ∧ Below w.heap.size w w' := by
 have M := Mem.start w
 obtain ⟨vs, hv1, hv2⟩ := hv
 have hvl := hv1.1
 have hvm := hv1.2.1
 unfold maxLen at hvm
 refine calls_enter Tryz.func4 rfl 23 rfl rfl ?_; intro a S
 refine nxD (qG [1] S ?_); clear S a; intro a S
 refine nxC (wp_seq (nxD (qG [1] S ?_))); clear S a; intro a S
 refine nxC (wp_block (wp_loop_g (fun m a w' => ∃ k : Nat, k ≤ xs.length ∧ k ≤ 41 ∧ m = 41 - k ∧ (∀ i b, i < k → xs[i]? = some b → b.length ≤ 1000) ∧ Sees 23 a [(0, v), (3, .int .i64 (k : Int))] ∧ Mem w w' []) (41) ?_ ?_))
 ·skip
  exact ⟨0, Nat.zero_le _, by omega, rfl, fun i b h => absurd h (by omega), S.sub _ rfl, M⟩
 clear S M a; intro m a wl
 rintro ⟨k, hk, hk41, rfl, hpre, S, M⟩
 refine wp_seq (nxD (qG [1, 1] S ?_)); clear S a; intro a S
 refine qY S (y_lenR (E := 57) S rfl ((M.arg hv1)) (by kernel_rfl)) ?_; clear S a; intro a S
 refine qG [1, 1] S ?_; clear S a; intro a S
 refine st_fi (t := 8) S rfl ?_ ?_
 ·clear S; intro h8 S
  refine qG [0, 0, 1] S ?_; clear S a; intro a S
  refine nxC (st_condF S rfl (wp_exit (then_exit (then_exit (block_hit (nxE (qG [1] S ?_))))))); clear S a; intro a S
  refine qY S (y_lenR (E := 57) S rfl ((M.arg hv1)) (by kernel_rfl)) ?_; clear S a; intro a S
  refine qG [1, 1] S ?_; clear S a; intro a S
  refine nxC (wp_ret (end_one S rfl (res_tmp rfl) ?_))
  refine ⟨_, rfl, fun h => ⟨?_, fun b hb => ?_⟩, M.below⟩
  ·simp at h; omega
  ·obtain ⟨i, hi⟩ := List.mem_iff_getElem?.1 hb
   have := (List.getElem?_eq_some_iff.1 hi).1
   exact hpre i b (by simp at h; omega) hi
 clear S; intro h8 S
 refine qG [1, 1, 1] S ?_; clear S a; intro a S
 refine nxC (st_fi (t := 11) S rfl ?_ ?_)
 ·clear S; intro h11 S
  refine st_condF S rfl (wp_exit (then_exit (then_exit (block_hit (nxE (qG [1] S ?_)))))); clear S a; intro a S
  refine qY S (y_lenR (E := 57) S rfl ((M.arg hv1)) (by kernel_rfl)) ?_; clear S a; intro a S
  refine qG [1, 1] S ?_; clear S a; intro a S
  refine nxC (wp_ret (end_one S rfl (res_tmp rfl) ?_))
  refine ⟨_, rfl, fun h => ⟨?_, fun b hb => ?_⟩, M.below⟩
  ·simp at h; omega
  ·obtain ⟨i, hi⟩ := List.mem_iff_getElem?.1 hb
   have := (List.getElem?_eq_some_iff.1 hi).1
   exact hpre i b (by simp at h; omega) hi
 clear S; intro h11 S
 refine st_condT S rfl (wp_skip (then_normal (wp_seq (wp_block (wp_seq ?_)))))
 obtain ⟨x, hx⟩ : ∃ x, vs[k]? = some x := ⟨_, List.getElem?_eq_getElem (by omega)⟩
 obtain ⟨bs, hbs⟩ : ∃ bs, xs[k]? = some bs := ⟨_, List.getElem?_eq_getElem (by omega)⟩
 have hxb := hv2 k x bs hx hbs
 refine wp_region_lit (qG [1, 1] S ?_); clear S a; intro a S
 refine qY S (y_indexR (e := 57) (sz := 1) S (by kernel_rfl) rfl ((M.arg hv1)) rfl (by first | omega | (simp; done) | (simp; omega))) ?_; clear S a; intro a S
 try simp only [Int.toNat_natCast, Nat.mul_one, Nat.zero_add] at S
 refine qY S (y_load S (by kernel_rfl) rfl ((M.arg hv1).at_.one k hx)) ?_; clear S a; intro a S
 refine qY S (y_lenR (E := 5) S rfl (M.arg hxb) (by kernel_rfl)) ?_; clear S a; intro a S
 refine qG [1] S ?_; clear S a; intro a S
 refine nxC (st_if (t := 19) S rfl ?_ ?_)
 ·clear S; intro h19 S
  refine st_condT S rfl (nxD (qG [1] S ?_)); clear S a; intro a S
  refine nxC (wp_ret (block_ret (then_ret (then_ret (block_ret (then_ret (end_one S rfl (res_tmp rfl) ?_)))))))
  exact ⟨true, rfl, fun h => (by cases h), M.below⟩
 clear S; intro h19 S
 refine st_condF S rfl (wp_skip (block_normal (nxF (qG [1] S ?_)))); clear S a; intro a S
 (first | refine qY S (y_addN S rfl rfl (by omega)) ?_ | refine qY S (y_int S rfl rfl rfl) ?_); clear S a; intro a S
 refine qG [1] S ?_; clear S a; intro a S
 replace S := S.keep [0, 11, 19, 3]
 refine nxC ?_
 refine ⟨41 - (k + 1), by omega, k + 1, by omega, by omega, rfl, fun i b hi hb => ?_, S.sub _ rfl, M⟩
 rcases Nat.lt_or_ge i k with h | h
 ·exact hpre i b h hb
 ·obtain rfl : i = k := by omega
  rw [hbs] at hb; cases hb
  omega
theorem flushL_len : ∀ (c : List (Int × List UInt8)) (s : List (List UInt8)), (flushL s c).length = s.length
 | [], _ => rfl
 | x :: c, s => by show (flushL (s.set x.1.toNat x.2) c).length = _; rw [flushL_len c, List.length_set]
theorem flushL_64 : ∀ (c : List (Int × List UInt8)) (s : List (List UInt8)), (∀ b ∈ s, b.length = 64) → (∀ x ∈ c, x.2.length = 64) → ∀ b ∈ flushL s c, b.length = 64
 | [], _, h, _ => h
 | x :: c, s, h, hc => flushL_64 c _ (fun b hb => by
    rcases List.mem_or_eq_of_mem_set hb with h1 | h1
    ·exact h b h1
    ·rw [h1]; exact hc x (List.mem_cons_self ..)) (fun y hy => hc y (List.mem_cons_of_mem _ hy))
theorem flushL_home : ∀ (c : List (Int × List UInt8)) (s : List (List UInt8)), (∀ x ∈ c, 0 ≤ x.1 ∧ x.1 < 26) → ∀ k, 26 ≤ k → (flushL s c)[k]? = s[k]?
 | [], _, _, _, _ => rfl
 | x :: c, s, h, k, hk => by
   show (flushL (s.set x.1.toNat x.2) c)[k]? = _
   rw [flushL_home c _ (fun y hy => h y (List.mem_cons_of_mem _ hy)) k hk, List.getElem?_set, if_neg (by have := h x (List.mem_cons_self ..); omega)]
theorem flat_at : ∀ {l : List (List UInt8)} {k : Nat} {b : List UInt8}, (∀ x ∈ l, x.length = 64) → l[k]? = some b → (l.flatten.drop (k * 64)).take 64 = b
 | [], k, b, _, h => by simp at h
 | x :: l, 0, b, h64, h => by
   obtain rfl : x = b := by simpa using h
   have := h64 x (List.mem_cons_self ..)
   rw [List.flatten_cons, Nat.zero_mul, List.drop_zero, List.take_append_of_le_length (by omega), List.take_of_length_le (by omega)]
 | x :: l, k + 1, b, h64, h => by
   have := h64 x (List.mem_cons_self ..)
   rw [List.flatten_cons, show (k + 1) * 64 = x.length + k * 64 by omega, List.drop_append, List.drop_of_length_le (by omega), List.nil_append, show x.length + k * 64 - x.length = k * 64 by omega]
   exact flat_at (fun y hy => h64 y (List.mem_cons_of_mem _ hy)) (by simpa using h)
theorem flat64_len : ∀ {l : List (List UInt8)}, (∀ x ∈ l, x.length = 64) → l.flatten.length = l.length * 64
 | [], _ => rfl
 | x :: l, h64 => by
   have := h64 x (List.mem_cons_self ..)
   rw [List.flatten_cons, List.length_append, flat64_len (fun y hy => h64 y (List.mem_cons_of_mem _ hy)), List.length_cons]
   omega
structure Sect (l : List (List UInt8)) : Prop where
 len : l.length = 34
 all : ∀ b ∈ l, b.length = 64
 home : ∀ k, k < 8 → zerosB (l.getD (26 + k) []) = true
theorem NoHome.sect {S : RS} (h : NoHome RS.new S) : Sect (flushL S.sure S.cache) := by
 obtain ⟨h1, l, h2, h3⟩ := h
 have e2 : S.cache = l := by rw [h2]; rfl
 rw [h1, e2]
 have hn : ∀ b ∈ RS.new.sure, b = List.replicate 64 0 := fun b hb => List.eq_of_mem_replicate hb
 refine ⟨by rw [flushL_len]; rfl, flushL_64 _ _ (fun b hb => by rw [hn b hb, List.length_replicate]) (fun x hx => (h3 x hx).2), fun k hk => ?_⟩
 rw [List.getD_eq_getElem?_getD, flushL_home _ _ (fun x hx => (h3 x hx).1) _ (by omega)]
 have : RS.new.sure[26 + k]? = some (List.replicate 64 0) := by
  show (List.replicate 34 (List.replicate 64 0))[26 + k]? = _
  rw [List.getElem?_replicate, if_pos (by omega)]
 rw [this]
 decide
structure Cop (l : List (List UInt8)) (k : Nat) (S : DS) : Prop where
 up : S.down = false
 few : ∀ z, (S.cache z).length ≤ 1
 nxt : ∀ z : Nat, k ≤ z → S.cache (z : Int) = []
 got : ∀ z : Nat, z < k → S.get z = l.getD z []
theorem Cop.start (l : List (List UInt8)) : Cop l 0 DS.new := ⟨rfl, fun _ => Nat.zero_le _, fun _ _ => rfl, fun z h => absurd h (by omega)⟩
theorem Cop.write {l : List (List UInt8)} {k : Nat} {S : DS} (h : Cop l k S) : Cop l (k + 1) (S.write (k : Int) (l.getD k [])) := by
 refine ⟨h.up, fun z => ?_, fun z hz => ?_, fun z hz => ?_⟩
 ·unfold DS.write; simp only
  split
  ·rw [h.nxt k (Nat.le_refl _)]; simp
  ·exact h.few z
 ·unfold DS.write; simp only
  rw [if_neg (by omega)]; exact h.nxt z (by omega)
 ·unfold DS.write DS.get; simp only
  by_cases e : z = k
  ·subst e; rw [if_pos rfl, h.nxt z (Nat.le_refl _)]; rfl
  ·rw [if_neg (by omega)]; exact h.got z (by omega)
structure Twin (S : DS) (R : RS) : Prop where
 up : S.down = false
 still : ∀ z, S.cache z = []
 cache : R.cache = []
 sect : Sect R.sure
 got : ∀ z : Nat, z < 34 → S.get z = R.get (z : Int)
theorem RS.get_still {R : RS} (h : R.cache = []) (z : Nat) : R.get (z : Int) = R.sure.getD z [] := by
 unfold RS.get; rw [h, Int.toNat_natCast]; rfl
theorem Cop.twin {S : DS} {R : RS} (h : Cop R.sure 34 S) (hR : R.cache = []) (hs : Sect R.sure) : Twin S.flush R := by
 refine ⟨h.up, fun _ => rfl, hR, hs, fun z hz => ?_⟩
 rw [RS.get_still hR, ← h.got z hz]
 unfold DS.flush; rfl
theorem Twin.sec {S : DS} {R : RS} (h : Twin S R) {i : Nat} (hi : i < 34) : secD S i = secS R i := h.got i hi
theorem Twin.home {S : DS} {R : RS} (h : Twin S R) {k : Nat} (hk : k < 8) : zerosB (S.get (26 + k)) = true := by
 rw [h.got _ (by omega), RS.get_still h.cache]; exact h.sect.home k hk
theorem Twin.scan {S : DS} {R : RS} (h : Twin S R) {tail : Int} (ht : 1 ≤ tail) : scanG S tail = scanP (sc0 tail) (secsR R tail) := by
 unfold scanG secsG secsR
 congr 1
 apply List.map_congr_left
 intro i _
 unfold secAt secR
 rw [show (2 : Int) + (tail + (i : Int)) % 24 = ((2 + ((tail + (i : Int)) % 24).toNat : Nat) : Int) by omega, ← h.got _ (by omega), Int.toNat_natCast]
theorem bestN_congr {f g : Nat → List UInt8} : ∀ {n : Nat}, (∀ i, i < n → f i = g i) → bestN f n = bestN g n
 | 0, _ => rfl
 | n + 1, h => by rw [bestN, bestN, h n (by omega), bestN_congr (fun i hi => h i (by omega))]
theorem Twin.super {S : DS} {R : RS} (h : Twin S R) : gsR (secD S) = gsR (secS R) := by
 unfold gsR
 rw [bestN_congr (f := secD S) (g := secS R) (fun i hi => h.sec (by omega)), h.sec (i := 0) (by omega), h.sec (i := 1) (by omega)]
def RowsP (w : World) (e : Ending) (w' : World) : Prop := ∃ (b bR : Nat) (S : DS) (R : RS) (E E1 : List Ent), e = .returned (.tuple #[.pointer (some ⟨b, 0, none⟩), .pointer (some ⟨bR, 0, none⟩), .bool true]) ∧ DkE b S E ∧ R3E bR R E1 ∧ Mem w w' (E1 ++ E) ∧ Twin S R
set_option maxHeartbeats 4000000 in
theorem rows10_any (x : Su) (v : Value) (xs : List (List UInt8)) (w : World) (hv : BRows w v xs) (h40 : xs.length ≤ 40) (hsm : ∀ b ∈ xs, b.length ≤ 1000) :
 Calls Tryz.prog 6 #[.agg x.cellsL.toArray, v] w (RowsP w) := by
 have M := Mem.start w
 obtain ⟨vs, hv1, hv2⟩ := hv
 have hvl := hv1.1
 have hvm := hv1.2.1
 unfold maxLen at hvm
 refine calls_enter Tryz.func6 rfl 73 rfl rfl ?_; intro a S
 refine nxD (st_box S M rfl rfl rfl #[_, _, _, _, _, _, _, _, _, _, _, _, _] rfl ?_); clear S M a; intro a w1 bX S M hB
 refine qG [1, 1, 1] S ?_; clear S a; intro a S
 refine nxA (qC (xs := []) S (qE Tryz.func15) rfl (new_any _) ?_)
 rintro _ w2 ⟨b, E, rfl, hE, M1⟩; refine ⟨_, rfl, ?_⟩; clear S a; intro a S; replace M := M.join M1; clear M1
 refine qC (xs := []) S (qE Tryz.func16) rfl (new3_any _) ?_
 rintro _ w3 ⟨bR, E1, rfl, hE1, M1⟩; refine ⟨_, rfl, ?_⟩; clear S a; intro a S
 replace M := (M.join M1).perm (List.perm_append_comm.trans (List.Perm.trans (List.perm_append_comm.append_right E1) (by rw [List.append_assoc]))); clear M1
 simp only [List.cons_append, List.nil_append] at M
 refine qG [1, 1] S ?_; clear S a; intro a S
 refine nxC (wp_cut (fun a w' => ∃ (S1 : RS) (E1 : List Ent), R3E bR S1 E1 ∧ NoHome RS.new S1 ∧ S1.cache.length ≤ 1 ∧ Sees 73 a [(1, v), (2, .pointer (some ⟨bX, 0, none⟩)), (7, .pointer (some ⟨b, 0, none⟩)), (8, .pointer (some ⟨bR, 0, none⟩))] ∧ Mem w w' (.blk bX x.cellsL.toArray 24 :: (E ++ E1))) ?_ ?_)
 ·skip
  refine nxD (qY S (y_loadAgg (cs := [_, _, _, _, _, _, _, _, _, _, _, _, _]) S (by kernel_rfl) rfl rfl (M.cellsAt (k := 13) 0 rfl rfl)) ?_); clear S a; intro a S
  refine qQ (xs := [.tmp 17]) S (qE Tryz.func17) rfl (may9_any x _) M ?_; clear S M a; intro a w4 S hK M
  refine nxC (st_fi (t := 18) S rfl ?_ ?_)
  ·clear S; intro h18 S
   refine st_condF S rfl (wp_skip (then_normal ?_))
   first
    | exact ⟨_, _, hE2, hN, by have h0 : RS.new.cache.length = 0 := rfl; omega, S.sub _ rfl, M⟩
    | exact ⟨_, _, hE1, .refl _, by decide, S.sub _ rfl, M⟩
  clear S; intro h18 S
  refine st_condT S rfl (wp_region_lit (qG [1] S ?_)); clear S a; intro a S
  refine qY S (y_loadAgg (cs := [_, _, _, _, _, _, _, _, _, _, _, _, _]) S (by kernel_rfl) rfl rfl (M.cellsAt (k := 13) 0 rfl rfl)) ?_; clear S a; intro a S
  refine qC (xs := [.tmp 19, .tmp 20]) S (qE Tryz.func18) rfl (put9_any (A := _ :: E) x hE1 M (by decide) (by simp_all)) ?_
  rintro _ w5 ⟨er, S1, E2, rfl, hE2, M2, hN, hc⟩; refine ⟨_, rfl, ?_⟩; clear S M a; intro a S; have M := M2; clear M2
  simp only [List.cons_append, List.nil_append] at M
  refine nxC ?_
  first
   | exact ⟨_, _, hE2, hN, by have h0 : RS.new.cache.length = 0 := rfl; omega, S.sub _ rfl, M⟩
   | exact ⟨_, _, hE1, .refl _, by decide, S.sub _ rfl, M⟩
 clear S a M; intro a wc
 clear hE1
 rintro ⟨S1, E1, hE1, hN, hcl, S, M⟩
 refine nxD (qR [2, 1, 2, 1] S M ?_); clear S a; intro a S
 refine qY S (y_build (ps := [(0, .tmp 23), (1, .tmp 25)]) (pl := [(0, 1), (1, 1)]) (z := [.int .i64 0, .int .i64 0]) (cs := [_, _]) S (by kernel_rfl) rfl (rfl)) ?_; clear S a; intro a S
 refine st_alloc S M rfl rfl #[.int .i64 0, .int .i64 0] (by kernel_rfl) ?_; clear S M a; intro a w6 bL S M hB
 refine qS (sz := 2) (us := [_, _]) S M 0 ?_; clear M; intro w7 M
 refine nxC (wp_seq (nxD (qG [1] S ?_))); clear S a; intro a S
 refine nxC (wp_block (wp_loop_g (fun m a w' => ∃ (i : Nat) (t n : Int) (S1 : RS) (E1 : List Ent), i ≤ xs.length ∧ m = xs.length - i ∧ R3E bR S1 E1 ∧ NoHome RS.new S1 ∧ S1.cache.length ≤ 1 + 2 * i ∧ Sees 73 a [(1, v), (2, .pointer (some ⟨bX, 0, none⟩)), (7, .pointer (some ⟨b, 0, none⟩)), (8, .pointer (some ⟨bR, 0, none⟩)), (9, .pointer (some ⟨bL, 0, none⟩)), (10, .int .i64 (i : Int))] ∧ Mem w w' (.blk bL #[.int .i64 t, .int .i64 n] 33 :: .blk bX x.cellsL.toArray 24 :: (E ++ E1))) (xs.length) ?_ ?_))
 ·skip
  exact ⟨0, _, _, S1, E1, Nat.zero_le _, rfl, hE1, hN, by omega, S.sub _ rfl, M⟩
 clear S M a; intro m a wl
 clear hN hcl hE1
 rintro ⟨i, t, n, S1, E1, hi, rfl, hE1, hN, hcl, S, M⟩
 refine wp_seq (nxD (qG [1, 1] S ?_)); clear S a; intro a S
 refine qY S (y_lenR (E := 57) S rfl ((M.arg hv1)) (by kernel_rfl)) ?_; clear S a; intro a S
 refine qG [1] S ?_; clear S a; intro a S
 refine nxC (st_fi (t := 30) S rfl ?_ ?_)
 ·clear S; intro h30 S
  refine st_condF S rfl (wp_exit (then_exit (then_exit (block_hit (nxE (qG [1] S ?_)))))); clear S a; intro a S
  refine qC (xs := [.tmp 49]) S (qE Tryz.func20) rfl (flush3_any (A := _ :: _ :: E) hE1 M (by omega)) ?_
  rintro _ w16 ⟨rfl, E2, hE2, M2⟩; refine ⟨_, rfl, ?_⟩; clear S M a; intro a S; have M := M2; clear M2
  have hSe : Sect S1.flush.sure := hN.sect
  refine nxA (qG [1] S ?_); clear S a; intro a S
  refine qC (xs := [.tmp 51]) S (qE Tryz.func21) rfl (durable3_any (A := _ :: _ :: E) hE2 M) ?_
  rintro _ w17 ⟨q, rfl, hq, M2⟩; refine ⟨_, rfl, ?_⟩; clear S M a; intro a S
  have hqs : q.bs.length = 2176 := by rw [hq, flat64_len hSe.all, hSe.len]
  replace M := M2.sub (.cons_cons _ (.cons _ (.cons _ (List.Sublist.refl _)))); clear M2
  replace M := M.perm (List.Perm.cons _ (List.perm_append_comm (l₁ := E) (l₂ := E2)))
  refine qG [1] S ?_; clear S a; intro a S
  refine nxC (wp_seq (nxD (qG [1] S ?_))); clear S a; intro a S
  refine nxC (wp_block (wp_loop_g (fun m a w' => ∃ (k : Nat) (S : DS) (E : List Ent), k ≤ 34 ∧ m = 34 - k ∧ DkE b S E ∧ Cop S1.flush.sure k S ∧ Sees 73 a [(7, .pointer (some ⟨b, 0, none⟩)), (8, .pointer (some ⟨bR, 0, none⟩)), (13, q.val), (14, .int .i64 (k : Int))] ∧ Mem w w' (q.ent :: (E2 ++ E))) (34) ?_ ?_))
  ·skip
   exact ⟨0, DS.new, E, by omega, rfl, hE, Cop.start _, S.sub _ rfl, M⟩
  clear S M a; intro m a wl
  clear hE
  rintro ⟨k, D, E, hk, rfl, hE, hC, S, M⟩
  refine wp_seq (nxD (qG [1, 1] S ?_)); clear S a; intro a S
  refine nxC (st_fi (t := 54) S rfl ?_ ?_)
  ·clear S; intro h54 S
   refine st_condF S rfl (wp_exit (then_exit (then_exit (block_hit (then_normal (wp_seq ?_))))))
   obtain rfl : k = 34 := by omega
   refine wp_region_lit (qG [1, 1, 1] S ?_); clear S a; intro a S
   refine qC (xs := [.tmp 70]) S (qE Tryz.func23) rfl (flush_any (A := _ :: E2) hE M hC.up (fun z => by have := hC.few z; omega)) ?_
   rintro _ w19 ⟨rfl, E3, hE3, M2⟩; refine ⟨_, rfl, ?_⟩; clear S M a; intro a S; have M := M2; clear M2
   simp only [List.cons_append] at M
   refine qG [1, 1, 1, 1] S ?_; clear S a; intro a S
   refine nxC (wp_ret (end_three S rfl (res_tmp rfl) (res_tmp rfl) (res_tmp rfl) ?_))
   exact ⟨b, bR, _, _, E3, E2, rfl, hE3, hE2, M.drop 0, hC.twin rfl hSe⟩
  clear S; intro h54 S
  refine st_condT S rfl (wp_skip (then_normal (wp_seq (wp_block (wp_seq ?_)))))
  have hkl : k < 34 := by omega
  obtain ⟨z, hz⟩ : ∃ z, S1.flush.sure[k]? = some z := ⟨_, List.getElem?_eq_getElem (by rw [hSe.len]; omega)⟩
  have hz64 : z.length = 64 := hSe.all z (List.mem_of_getElem? hz)
  have hzq : (q.bs.drop (k * 64)).take 64 = z := by rw [hq]; exact flat_at hSe.all hz
  have hzd : S1.flush.sure.getD k [] = z := by rw [List.getD_eq_getElem?_getD, hz]; rfl
  have hqc : (q.bs.length : Nat) ≤ capV q.val := ((M.readAll 0 rfl (by unfold maxLen; omega)) : Bs 0 _ _ q.val q.bs).cap.1
  have hRd : RdH w (q.ent :: E2) (cutV q.val ((k : Int) * 64).toNat (((k : Int) + 1) * 64).toNat (capV q.val) 1) z := fun W M => by
   have h9 : Bs 0 W.heap.size W q.val q.bs := M.readAll 0 rfl (by unfold maxLen; omega)
   have h8 := h9.cutB (i := ((k : Int) * 64).toNat) (j := (((k : Int) + 1) * 64).toNat) (mx := capV q.val) (by omega) (by omega) (by omega) (Nat.le_refl _)
   rw [show (((k : Int) + 1) * 64).toNat - ((k : Int) * 64).toNat = 64 by omega, show ((k : Int) * 64).toNat = k * 64 by omega, hzq] at h8
   rw [show ((k : Int) * 64).toNat = k * 64 by omega]
   exact h8
  refine wp_region_lit (qG [1, 1, 1, 1] S ?_); clear S a; intro a S
  (first | refine qY S (y_mulN S rfl rfl (by omega)) ?_ | refine qY S (y_int S rfl rfl rfl) ?_); clear S a; intro a S
  refine qG [1] S ?_; clear S a; intro a S
  (first | refine qY S (y_addN S rfl rfl (by omega)) ?_ | refine qY S (y_int S rfl rfl rfl) ?_); clear S a; intro a S
  (first | refine qY S (y_mulN S rfl rfl (by omega)) ?_ | refine qY S (y_int S rfl rfl rfl) ?_); clear S a; intro a S
  refine qY S (y_slice2R (e := 5) (sz := 1) S (by kernel_rfl) rfl ((M.readAll 0 rfl (by unfold maxLen; omega))) rfl rfl (by first | omega | (simp; done) | (simp; omega))) ?_; clear S a; intro a S
  refine qC (xs := [.tmp 57, .tmp 58, .tmp 65]) S (qE Tryz.func22) rfl (write_any (A := _ :: E2) (k := (k : Int)) hE M hRd hC.up (by omega) (by omega) (by have := hC.few (k : Int); omega)) ?_
  rintro _ w18 ⟨rfl, E3, hE3, M2⟩; refine ⟨_, rfl, ?_⟩; clear S M a; intro a S; have M := M2; clear M2
  simp only [List.cons_append] at M
  rw [pad64_eq hz64, ← hzd] at hE3
  refine qG [1] S ?_; clear S a; intro a S
  refine nxC (st_if (t := 67) S rfl ?_ ?_)
  ·clear S; intro h67 S
   exact absurd rfl h67
  clear S; intro h67 S
  refine st_condF S rfl (wp_skip (block_normal (nxF (qG [1] S ?_)))); clear S a; intro a S
  (first | refine qY S (y_addN S rfl rfl (by omega)) ?_ | refine qY S (y_int S rfl rfl rfl) ?_); clear S a; intro a S
  refine qG [1] S ?_; clear S a; intro a S
  refine nxC ?_
  exact ⟨34 - (k + 1), by omega, k + 1, _, E3, by omega, rfl, hE3, hC.write, S.sub _ rfl, M⟩
 clear S; intro h30 S
 refine st_condT S rfl (wp_skip (then_normal (wp_seq (wp_block ?_))))
 obtain ⟨y, hy⟩ : ∃ y, vs[i]? = some y := ⟨_, List.getElem?_eq_getElem (by omega)⟩
 obtain ⟨bs, hbs⟩ : ∃ bs, xs[i]? = some bs := ⟨_, List.getElem?_eq_getElem (by omega)⟩
 have hyb := hv2 i y bs hy hbs
 obtain ⟨ya, yc, rfl, -, -⟩ := hyb.form
 refine wp_cut (fun a w' => ∃ (t2 n2 er : Int) (S2 : RS) (E2 : List Ent) (bT : Nat), R3E bR S2 E2 ∧ NoHome RS.new S2 ∧ S2.cache.length ≤ 1 + 2 * (i + 1) ∧ Sees 73 a [(1, v), (2, .pointer (some ⟨bX, 0, none⟩)), (7, .pointer (some ⟨b, 0, none⟩)), (8, .pointer (some ⟨bR, 0, none⟩)), (9, .pointer (some ⟨bL, 0, none⟩)), (10, .int .i64 (i : Int)), (11, .pointer (some ⟨bT, 0, none⟩)), (12, .int .i64 er)] ∧ Mem w w' (.blk bT #[.int .i64 t2, .int .i64 n2] 33 :: .blk bL #[.int .i64 t, .int .i64 n] 33 :: .blk bX x.cellsL.toArray 24 :: (E ++ E2))) ?_ ?_
 ·skip
  refine wp_regionK [9, 14] #[false, false, false, false, false, false, false, false, false, false, false, false, false, false, false, false] rfl M (by kernel_rfl) ?_; clear M; intro w8 M
  refine k_pure 0 S rfl (fun w => y_move S rfl) ?_; clear S a; intro a S
  refine k_read 1 S rfl (fun w hW => have M := M.grow hW; y_loadAgg (cs := [_, _]) S (by kernel_rfl) rfl rfl (M.cellsAt (k := 2) 0 rfl rfl)) ?_; clear S a; intro a S
  refine k_pure 2 S rfl (fun w => y_fieldAddr (k := 3) S (by kernel_rfl) rfl) ?_; clear S a; intro a S
  refine k_read 3 S rfl (fun w hW => have M := M.grow hW; y_load S (by kernel_rfl) rfl (M.cell 1 rfl rfl)) ?_; clear S a; intro a S
  refine k_pure 4 S rfl (fun w => y_max S rfl rfl) ?_; clear S a; intro a S
  refine k_pure 5 S rfl (fun w => y_move S rfl) ?_; clear S a; intro a S
  refine k_pure 6 S rfl (fun w => y_move S rfl) ?_; clear S a; intro a S
  refine k_read 7 S rfl (fun w hW => have M := M.grow hW; y_indexR (e := 57) (sz := 1) S (by kernel_rfl) rfl (M.arg hv1) rfl (by first | omega | (simp; done) | (simp; omega))) ?_; clear S a; intro a S
  try simp only [Int.toNat_natCast, Nat.mul_one, Nat.zero_add] at S
  refine k_read 8 S rfl (fun w hW => have M := M.grow hW; y_load S (by kernel_rfl) rfl ((M.arg hv1).at_.one i hy)) ?_; clear S a; intro a S
  refine k_two 9 13 rfl rfl (by kernel_rfl) ?_ ?_
  ·skip
   refine qC (xs := [.tmp 34, .tmp 35, .tmp 38, .tmp 42]) S (qE Tryz.func19) rfl ((by first | exact append6_any (A := _ :: _ :: E) t n _ ya yc bs hE1 M (RdH.arg hyb) (by omega) | exact append6_any (A := _ :: _ :: _ :: E) t n _ ya yc bs hE1 M (RdH.arg hyb) (by omega))) ?_
   rintro _ w9 ⟨t2, n2, er, S2, E2, rfl, hE2, M2, hN2, hc2⟩; refine ⟨_, rfl, ?_⟩; clear S M a; intro a S; have M := M2; clear M2
   simp only [List.cons_append, List.nil_append] at M
   refine wpList_nil ?_; refine then_normal ?_; refine ⟨fun h => absurd h (by decide), ?_⟩
   refine k_pure 10 S rfl (fun w => y_move S rfl) ?_; clear S a; intro a S
   refine k_pure 11 S rfl (fun w => y_extract S rfl rfl) ?_; clear S a; intro a S
   refine k_pure 12 S rfl (fun w => y_extract S rfl rfl) ?_; clear S a; intro a S
   refine k_one 13 rfl (by kernel_rfl) ?_
   refine st_alloc S M rfl rfl #[.int .i64 0, .int .i64 0] (by kernel_rfl) ?_; clear S M a; intro a w10 bT S M hB
   refine wpList_nil ?_; refine then_normal ?_; refine ⟨fun _ => hB, ?_⟩
   refine k_one 14 rfl (by kernel_rfl) ?_
   refine qS (sz := 2) (us := [_, _]) S M 0 ?_; clear M; intro w11 M
   refine wpList_nil ?_; refine then_normal ?_; refine ⟨fun h => absurd h (by decide), ?_⟩
   refine k_pure 15 S rfl (fun w => y_assign S rfl) ?_; clear S a; intro a S
   refine k_end (by kernel_rfl) ?_
   replace S := S.keep [1, 2, 7, 8, 9, 10, 30, 11, 12]
   refine then_normal ?_
   exact ⟨_, _, _, _, _, _, hE2, hN.trans hN2.noHome, by omega, S.sub _ rfl, M⟩
  ·skip
   refine st_alloc S M rfl rfl #[.int .i64 0, .int .i64 0] (by kernel_rfl) ?_; clear S M a; intro a w12 bT S M hB
   refine wpList_nil ?_; refine then_normal ?_; refine ⟨fun _ => hB, ?_⟩
   refine k_one 9 rfl (by kernel_rfl) ?_
   refine qC (xs := [.tmp 34, .tmp 35, .tmp 38, .tmp 42]) S (qE Tryz.func19) rfl ((by first | exact append6_any (A := _ :: _ :: E) t n _ ya yc bs hE1 M (RdH.arg hyb) (by omega) | exact append6_any (A := _ :: _ :: _ :: E) t n _ ya yc bs hE1 M (RdH.arg hyb) (by omega))) ?_
   rintro _ w13 ⟨t2, n2, er, S2, E2, rfl, hE2, M2, hN2, hc2⟩; refine ⟨_, rfl, ?_⟩; clear S M a; intro a S; have M := M2; clear M2
   simp only [List.cons_append, List.nil_append] at M
   refine wpList_nil ?_; refine then_normal ?_; refine ⟨fun h => absurd h (by decide), ?_⟩
   refine k_pure 10 S rfl (fun w => y_move S rfl) ?_; clear S a; intro a S
   refine k_pure 11 S rfl (fun w => y_extract S rfl rfl) ?_; clear S a; intro a S
   refine k_pure 12 S rfl (fun w => y_extract S rfl rfl) ?_; clear S a; intro a S
   refine k_one 14 rfl (by kernel_rfl) ?_
   refine qS (sz := 2) (us := [_, _]) S M 0 ?_; clear M; intro w14 M
   refine wpList_nil ?_; refine then_normal ?_; refine ⟨fun h => absurd h (by decide), ?_⟩
   refine k_pure 15 S rfl (fun w => y_assign S rfl) ?_; clear S a; intro a S
   refine k_end (by kernel_rfl) ?_
   replace S := S.keep [1, 2, 7, 8, 9, 10, 30, 11, 12]
   refine then_normal ?_
   exact ⟨_, _, _, _, _, _, hE2, hN.trans hN2.noHome, by omega, S.sub _ rfl, M⟩
 clear S a M; intro a wc
 rintro ⟨t2, n2, er, S2, E2, bT, hE2, hN2, hc2, S, M⟩
 refine nxD (qG [1, 1] S ?_); clear S a; intro a S
 refine nxC (st_fi (t := 47) S rfl ?_ ?_)
 ·clear S; intro h47 S
  refine st_condF S rfl (wp_skip (block_normal (nxF (qG [1] S ?_)))); clear S a; intro a S
  (first | refine qY S (y_addN S rfl rfl (by omega)) ?_ | refine qY S (y_int S rfl rfl rfl) ?_); clear S a; intro a S
  refine qG [1] S ?_; clear S a; intro a S
  refine nxC ?_
  skip
  replace M := M.drop 0
  simp only [List.eraseIdx_cons_succ, List.eraseIdx_cons_zero] at M
  exact ⟨xs.length - (i + 1), by omega, i + 1, _, _, S2, E2, by omega, rfl, hE2, hN2, by omega, S.sub _ rfl, M⟩
 clear S; intro h47 S
 refine st_condT S rfl (wp_region_lit (qY S (y_loadAgg (cs := [_, _]) S (by kernel_rfl) rfl rfl (M.cellsAt (k := 2) 0 rfl rfl)) ?_)); clear S a; intro a S
 refine qS (sz := 2) (us := [_, _]) S M 1 ?_; clear M; intro w15 M
 refine wpList_nil (block_normal (nxF (qG [1] S ?_))); clear S a; intro a S
 (first | refine qY S (y_addN S rfl rfl (by omega)) ?_ | refine qY S (y_int S rfl rfl rfl) ?_); clear S a; intro a S
 refine qG [1] S ?_; clear S a; intro a S
 refine nxC ?_
 skip
 replace M := M.drop 0
 simp only [List.eraseIdx_cons_succ, List.eraseIdx_cons_zero] at M
 exact ⟨xs.length - (i + 1), by omega, i + 1, _, _, S2, E2, by omega, rfl, hE2, hN2, by omega, S.sub _ rfl, M⟩
end Go.Proofs.YtodfphphidhjbaaGreat

namespace Go.Proofs.YtodfphphidhjbaaGreat
open Go.RowKit Go.Sort
theorem rNamed_any (n : Nm) (w : World) : Calls Tryz.prog 80 #[.agg n.cells] w fun e w' => e = .returned (.bool n.named) ∧ Below w.heap.size w w' := by
 have M := Mem.start w
 refine calls_enter Tryz.func80 rfl 31 rfl rfl ?_; intro a S
 refine nxD (st_box S M rfl rfl rfl #[_, _, _] rfl ?_); clear S M a; intro a w1 b1 S M hB
 refine qG [1] S ?_; clear S a; intro a S
 refine nxA (qR [1, 1, 1, 1] S M ?_); clear S a; intro a S
 refine st_fi (t := 6) S rfl ?_ ?_
 ·clear S; intro h6 S
  refine qG [0, 0, 0, 1, 1, 0, 0, 0, 1, 1, 0, 0, 0, 1, 1, 0, 0, 0, 1, 1, 0, 0, 0, 1, 1] S ?_; clear S a; intro a S
  replace S := S.keep [0, 1, 2]
  refine nxC (wp_ret (end_one S rfl (res_tmp rfl) ?_))
  refine ⟨ret_bool ?_, M.below⟩; clear S M; rw [Bool.eq_iff_iff, named_iff]; (first | (simp; done) | (simp; omega) | omega)
 clear S; intro h6 S
 refine qR [1, 1, 1, 1, 1] S M ?_; clear S a; intro a S
 refine st_fi (t := 11) S rfl ?_ ?_
 ·clear S; intro h11 S
  refine qG [0, 0, 0, 1, 1, 0, 0, 0, 1, 1, 0, 0, 0, 1, 1, 0, 0, 0, 1, 1] S ?_; clear S a; intro a S
  replace S := S.keep [0, 1, 2]
  refine nxC (wp_ret (end_one S rfl (res_tmp rfl) ?_))
  refine ⟨ret_bool ?_, M.below⟩; clear S M; rw [Bool.eq_iff_iff, named_iff]; (first | (simp; done) | (simp; omega) | omega)
 clear S; intro h11 S
 refine qR [2, 1, 1, 1, 1] S M ?_; clear S a; intro a S
 refine st_fi (t := 16) S rfl ?_ ?_
 ·clear S; intro h16 S
  refine qG [0, 0, 0, 1, 1, 0, 0, 0, 1, 1, 0, 0, 0, 1, 1] S ?_; clear S a; intro a S
  replace S := S.keep [0, 1, 2]
  refine nxC (wp_ret (end_one S rfl (res_tmp rfl) ?_))
  refine ⟨ret_bool ?_, M.below⟩; clear S M; rw [Bool.eq_iff_iff, named_iff]; (first | (simp; done) | (simp; omega) | omega)
 clear S; intro h16 S
 refine qR [2, 1, 1, 1, 1] S M ?_; clear S a; intro a S
 refine st_fi (t := 21) S rfl ?_ ?_
 ·clear S; intro h21 S
  refine qG [0, 0, 0, 1, 1, 0, 0, 0, 1, 1] S ?_; clear S a; intro a S
  replace S := S.keep [0, 1, 2]
  refine nxC (wp_ret (end_one S rfl (res_tmp rfl) ?_))
  refine ⟨ret_bool ?_, M.below⟩; clear S M; rw [Bool.eq_iff_iff, named_iff]; (first | (simp; done) | (simp; omega) | omega)
 clear S; intro h21 S
 refine qR [3, 1, 1, 1, 1] S M ?_; clear S a; intro a S
 refine st_fi (t := 26) S rfl ?_ ?_
 ·clear S; intro h26 S
  refine qG [0, 0, 0, 1, 1] S ?_; clear S a; intro a S
  replace S := S.keep [0, 1, 2]
  refine nxC (wp_ret (end_one S rfl (res_tmp rfl) ?_))
  refine ⟨ret_bool ?_, M.below⟩; clear S M; rw [Bool.eq_iff_iff, named_iff]; (first | (simp; done) | (simp; omega) | omega)
 clear S; intro h26 S
 refine qR [3, 1, 1, 1, 1] S M ?_; clear S a; intro a S
 replace S := S.keep [0, 1, 2]
 refine nxC (wp_ret (end_one S rfl (res_tmp rfl) ?_))
 refine ⟨ret_bool ?_, M.below⟩; clear S M; rw [Bool.eq_iff_iff, named_iff]; (first | (simp; done) | (simp; omega) | omega)
def lastB (x : List Wr) (k : Nat) : Int := match k with
 | 0 => -1
 | k + 1 => ((x[k]?).map Wr.block).getD 0
theorem wcells_block {x : List Wr} {k : Nat} {p : Wr} {lo hi : Nat} {w : World} {v : Value} (h : Ws lo hi w v x) (hp : x[k]? = some p) : w.cell? ⟨(adr v).block, (adr v).off + k * 9, none⟩ = some (.int .i64 p.block) := by
 have := (h.at_.row (i := k) (wcells_get hp) rfl) 0 (by simp)
 simpa using this
theorem rWritten_any (v : Value) (x : List Wr) (w : World) (hx : Ws 0 w.heap.size w v x) : Calls Tryz.prog 81 #[v] w fun e w' => e = .returned (.bool (writtenB x)) ∧ Below w.heap.size w w' := by
 have M := Mem.start w
 refine calls_enter Tryz.func81 rfl 45 rfl rfl ?_; intro a S
 refine nxD (qG [1] S ?_); clear S a; intro a S
 refine nxC (wp_seq (nxD (qG [1] S ?_))); clear S a; intro a S
 refine qY S (y_lenR (E := 66) S rfl (M.arg hx) (by kernel_rfl)) ?_; clear S a; intro a S
 refine qG [1] S ?_; clear S a; intro a S
 refine nxC (st_if (t := 6) S rfl ?_ ?_)
 ·clear S; intro h6 S
  refine st_condT S rfl (nxD (qG [1] S ?_)); clear S a; intro a S
  refine nxC (wp_ret (then_ret (end_one S rfl (res_tmp rfl) ?_)))
  refine ⟨ret_bool ?_, M.below⟩; unfold writtenB; rw [decide_eq_false (by omega)]; rfl
 clear S; intro h6 S
 refine st_condF S rfl (wp_skip (then_normal (wp_seq (nxD (qG [1] S ?_))))); clear S a; intro a S
 refine nxC (wp_block (wp_loop_g (fun m a w' => ∃ (k : Nat), k ≤ x.length ∧ m = x.length - k ∧ Sees 45 a [(0, v), (3, .int .i64 (k : Int))] ∧ Mem w w' [] ∧ risingB (-1) x = risingB (lastB x k) (x.drop k) ∧ -1 ≤ lastB x k) (x.length) ?_ ?_))
 ·skip
  exact ⟨0, Nat.zero_le _, rfl, S.sub _ rfl, M, rfl, by simp [lastB]⟩
 clear S M a; intro m a wl
 rintro ⟨k, hk, rfl, S, M, hpre, hlast⟩
 refine wp_seq (nxD (qG [1, 1] S ?_)); clear S a; intro a S
 refine qY S (y_lenR (E := 66) S rfl ((M.arg hx)) (by kernel_rfl)) ?_; clear S a; intro a S
 refine qG [1] S ?_; clear S a; intro a S
 refine nxC (st_fi (t := 10) S rfl ?_ ?_)
 ·clear S; intro h10 S
  refine st_condF S rfl (wp_exit (then_exit (then_exit (block_hit (nxE (qG [1] S ?_)))))); clear S a; intro a S
  refine nxC (wp_ret (end_one S rfl (res_tmp rfl) ?_))
  obtain rfl : k = x.length := by omega
  refine ⟨ret_bool ?_, M.below⟩; unfold writtenB; rw [decide_eq_true (by omega), hpre, List.drop_length]; rfl
 clear S; intro h10 S
 refine st_condT S rfl (wp_skip (then_normal (wp_seq (wp_block (wp_seq ?_)))))
 obtain ⟨p, hp⟩ : ∃ p, x[k]? = some p := ⟨_, List.getElem?_eq_getElem (by omega)⟩
 have hlp : lastB x (k + 1) = p.block := by simp [lastB, hp]
 rw [drop_get hp] at hpre
 obtain ⟨q, hqq⟩ : ∃ q : Wr, 0 < k → x[((k : Int) - 1).toNat]? = some q ∧ lastB x k = q.block := by
  cases k with
  | zero => exact ⟨p, fun h => absurd h (by omega)⟩
  | succ k =>
    obtain ⟨q, hq⟩ : ∃ q, x[k]? = some q := ⟨_, List.getElem?_eq_getElem (by omega)⟩
    exact ⟨q, fun _ => ⟨by rw [show (((k + 1 : Nat) : Int) - 1).toNat = k by omega]; exact hq, by simp [lastB, hq]⟩⟩
 refine wp_quiet M (by kernel_rfl) (by kernel_rfl) ?_
 refine qt_y S rfl rfl rfl (fun w M => y_move S rfl) ?_; clear S a; intro a S
 refine qt_y S rfl rfl rfl (fun w M => y_move S rfl) ?_; clear S a; intro a S
 refine qt_y S rfl rfl rfl (fun w M => y_indexR (e := 66) (sz := 9) S (by kernel_rfl) rfl ((M.arg hx)) rfl (by first | omega | (simp; done) | (simp; omega))) ?_; clear S a; intro a S
 try simp only [Int.toNat_natCast, Nat.mul_one, Nat.zero_add] at S
 refine qt_y S rfl rfl rfl (fun w M => y_fieldAddr (k := 0) S (by kernel_rfl) rfl) ?_; clear S a; intro a S
 refine qt_y S rfl rfl rfl (fun w M => y_load S (by kernel_rfl) rfl (wcells_block (M.arg hx) hp)) ?_; clear S a; intro a S
 refine qt_y S rfl rfl rfl (fun w M => y_int S rfl rfl rfl) ?_; clear S a; intro a S
 refine qt_y S rfl rfl rfl (fun w M => y_move S rfl) ?_; clear S a; intro a S
 refine st_if (t := 19) S rfl ?_ ?_
 ·clear S; intro h19 S
  refine qt_skip 6 S rfl ?_; clear S a; intro a S
  refine qt_y S rfl rfl rfl (fun w M => y_pickT S rfl rfl) ?_; clear S a; intro a S
  refine qt_y S rfl rfl rfl (fun w M => y_move S rfl) ?_; clear S a; intro a S
  refine qt_skip 2 S rfl ?_; clear S a; intro a S
  refine qt_no S rfl rfl rfl ?_; clear S a; intro a S
  refine qt_skip 13 S rfl ?_; clear S a; intro a S
  refine qt_y S rfl rfl rfl (fun w M => y_pickT S rfl rfl) ?_; clear S a; intro a S
  refine wpQuiet_nil ?_; clear M; intro w1 M
  refine then_normal (st_condT S rfl (nxD (qG [1] S ?_))); clear S a; intro a S
  refine nxC (wp_ret (block_ret (then_ret (then_ret (block_ret (then_ret (end_one S rfl (res_tmp rfl) ?_)))))))
  refine ⟨ret_bool ?_, M.below⟩; clear S M; unfold writtenB; rw [hpre]; unfold risingB
  have hno : ¬ (lastB x k < p.block ∧ p.block < 32) := by first | omega | (have := (hqq (by omega)).2; omega)
  rw [decide_eq_false hno]; simp
 clear S; intro h19 S
 refine qt_y S rfl rfl rfl (fun w M => y_move S rfl) ?_; clear S a; intro a S
 refine qt_y S rfl rfl rfl (fun w M => y_move S rfl) ?_; clear S a; intro a S
 refine qt_y S rfl rfl rfl (fun w M => y_indexR (e := 66) (sz := 9) S (by kernel_rfl) rfl ((M.arg hx)) rfl (by first | omega | (simp; done) | (simp; omega))) ?_; clear S a; intro a S
 try simp only [Int.toNat_natCast, Nat.mul_one, Nat.zero_add] at S
 refine qt_y S rfl rfl rfl (fun w M => y_fieldAddr (k := 0) S (by kernel_rfl) rfl) ?_; clear S a; intro a S
 refine qt_y S rfl rfl rfl (fun w M => y_load S (by kernel_rfl) rfl (wcells_block (M.arg hx) hp)) ?_; clear S a; intro a S
 refine qt_y S rfl rfl rfl (fun w M => y_int S rfl rfl rfl) ?_; clear S a; intro a S
 refine qt_y S rfl rfl rfl (fun w M => y_pickF S rfl rfl) ?_; clear S a; intro a S
 refine qt_y S rfl rfl rfl (fun w M => y_move S rfl) ?_; clear S a; intro a S
 refine st_if (t := 27) S rfl ?_ ?_
 ·clear S; intro h27 S
  refine qt_skip 2 S rfl ?_; clear S a; intro a S
  refine qt_no S rfl rfl rfl ?_; clear S a; intro a S
  refine qt_skip 13 S rfl ?_; clear S a; intro a S
  refine qt_y S rfl rfl rfl (fun w M => y_pickT S rfl rfl) ?_; clear S a; intro a S
  refine wpQuiet_nil ?_; clear M; intro w2 M
  replace S := S.keep [0, 3, 10, 44]
  refine then_normal (st_condT S rfl (nxD (qG [1] S ?_))); clear S a; intro a S
  refine nxC (wp_ret (block_ret (then_ret (then_ret (block_ret (then_ret (end_one S rfl (res_tmp rfl) ?_)))))))
  refine ⟨ret_bool ?_, M.below⟩; clear S M; unfold writtenB; rw [hpre]; unfold risingB
  have hno : ¬ (lastB x k < p.block ∧ p.block < 32) := by first | omega | (have := (hqq (by omega)).2; omega)
  rw [decide_eq_false hno]; simp
 clear S; intro h27 S
 refine qt_y S rfl rfl rfl (fun w M => y_move S rfl) ?_; clear S a; intro a S
 refine qt_y S rfl rfl rfl (fun w M => y_int S rfl rfl rfl) ?_; clear S a; intro a S
 refine qt_y S rfl rfl rfl (fun w M => y_move S rfl) ?_; clear S a; intro a S
 refine st_fi (t := 30) S rfl ?_ ?_
 ·clear S; intro h30 S
  refine qt_skip 12 S rfl ?_; clear S a; intro a S
  refine qt_y S rfl rfl rfl (fun w M => y_pickF S rfl rfl) ?_; clear S a; intro a S
  refine qt_y S rfl rfl rfl (fun w M => y_pickF S rfl rfl) ?_; clear S a; intro a S
  refine wpQuiet_nil ?_; clear M; intro w4 M
  replace S := S.keep [0, 3, 10, 44]
  refine then_normal (st_condF S rfl (wp_skip (block_normal (nxF (qG [1] S ?_))))); clear S a; intro a S
  (first | refine qY S (y_addN S rfl rfl (by omega)) ?_ | refine qY S (y_int S rfl rfl rfl) ?_); clear S a; intro a S
  refine qG [1] S ?_; clear S a; intro a S
  refine nxC ?_
  refine ⟨x.length - (k + 1), by omega, k + 1, by omega, rfl, S.sub _ rfl, M, ?_, by rw [hlp]; omega⟩
  have hyes : lastB x k < p.block ∧ p.block < 32 := by
   rcases Nat.eq_zero_or_pos k with h0 | h0
   ·subst h0; simp [lastB]; omega
   ·have := (hqq h0).2; omega
  rw [hpre, hlp]; unfold risingB; rw [decide_eq_true hyes]; cases hd : x.drop (k + 1) <;> simp [risingB]
 clear S; intro h30 S
 refine qt_y S rfl rfl rfl (fun w M => y_move S rfl) ?_; clear S a; intro a S
 refine qt_y S rfl rfl rfl (fun w M => y_move S rfl) ?_; clear S a; intro a S
 refine qt_y S rfl rfl rfl (fun w M => y_indexR (e := 66) (sz := 9) S (by kernel_rfl) rfl ((M.arg hx)) rfl (by first | omega | (simp; done) | (simp; omega))) ?_; clear S a; intro a S
 try simp only [Int.toNat_natCast, Nat.mul_one, Nat.zero_add] at S
 refine qt_y S rfl rfl rfl (fun w M => y_fieldAddr (k := 0) S (by kernel_rfl) rfl) ?_; clear S a; intro a S
 refine qt_y S rfl rfl rfl (fun w M => y_load S (by kernel_rfl) rfl (wcells_block (M.arg hx) hp)) ?_; clear S a; intro a S
 refine qt_y S rfl rfl rfl (fun w M => y_move S rfl) ?_; clear S a; intro a S
 refine qt_y S rfl rfl rfl (fun w M => y_move S rfl) ?_; clear S a; intro a S
 (first | refine qt_y S rfl rfl rfl (fun w M => y_subN S rfl rfl (by omega)) ?_ | refine qt_y S rfl rfl rfl (fun w M => y_int S rfl rfl rfl) ?_); clear S a; intro a S
 refine qt_y S rfl rfl rfl (fun w M => y_indexR (e := 66) (sz := 9) S (by kernel_rfl) rfl ((M.arg hx)) rfl (by first | omega | (simp; done) | (simp; omega))) ?_; clear S a; intro a S
 try simp only [Int.toNat_natCast, Nat.mul_one, Nat.zero_add] at S
 refine qt_y S rfl rfl rfl (fun w M => y_fieldAddr (k := 0) S (by kernel_rfl) rfl) ?_; clear S a; intro a S
 refine qt_y S rfl rfl rfl (fun w M => y_load S (by kernel_rfl) rfl (wcells_block (M.arg hx) (hqq (by omega)).1)) ?_; clear S a; intro a S
 refine qt_y S rfl rfl rfl (fun w M => y_int S rfl rfl rfl) ?_; clear S a; intro a S
 refine qt_y S rfl rfl rfl (fun w M => y_pickT S rfl rfl) ?_; clear S a; intro a S
 refine qt_y S rfl rfl rfl (fun w M => y_pickF S rfl rfl) ?_; clear S a; intro a S
 refine wpQuiet_nil ?_; clear M; intro w3 M
 replace S := S.keep [0, 3, 10, 44]
 refine then_normal (st_if (t := 44) S rfl ?_ ?_)
 ·clear S; intro h44 S
  refine st_condT S rfl (nxD (qG [1] S ?_)); clear S a; intro a S
  refine nxC (wp_ret (block_ret (then_ret (then_ret (block_ret (then_ret (end_one S rfl (res_tmp rfl) ?_)))))))
  refine ⟨ret_bool ?_, M.below⟩; clear S M; unfold writtenB; rw [hpre]; unfold risingB
  have hno : ¬ (lastB x k < p.block ∧ p.block < 32) := by first | omega | (have := (hqq (by omega)).2; omega)
  rw [decide_eq_false hno]; simp
 clear S; intro h44 S
 refine st_condF S rfl (wp_skip (block_normal (nxF (qG [1] S ?_)))); clear S a; intro a S
 (first | refine qY S (y_addN S rfl rfl (by omega)) ?_ | refine qY S (y_int S rfl rfl rfl) ?_); clear S a; intro a S
 refine qG [1] S ?_; clear S a; intro a S
 refine nxC ?_
 refine ⟨x.length - (k + 1), by omega, k + 1, by omega, rfl, S.sub _ rfl, M, ?_, by rw [hlp]; omega⟩
 have hyes : lastB x k < p.block ∧ p.block < 32 := by
  rcases Nat.eq_zero_or_pos k with h0 | h0
  ·subst h0; simp [lastB]; omega
  ·have := (hqq h0).2; omega
 rw [hpre, hlp]; unfold risingB; rw [decide_eq_true hyes]; cases hd : x.drop (k + 1) <;> simp [risingB]
theorem sameWrites_any (va vb : Value) (x y : List Wr) (w : World) (hx : Ws 0 w.heap.size w va x) (hy : Ws 0 w.heap.size w vb y) :
 Calls Tryz.prog 119 #[va, vb] w fun e w' => e = .returned (.bool (eqWs x y)) ∧ Below w.heap.size w w' := by
 have M := Mem.start w
 have hl := hx.2.1
 unfold maxLen at hl
 have hne : x.length ≠ y.length → eqWs x y = false := fun h => by
  cases e : eqWs x y with
  | false => rfl
  | true => exact absurd (by rw [eqWs_iff.1 e]) h
 refine calls_enter Tryz.func119 rfl 26 rfl rfl ?_; intro a S
 refine nxD (qG [1] S ?_); clear S a; intro a S
 refine nxC (wp_seq (nxD (qG [1] S ?_))); clear S a; intro a S
 refine qY S (y_lenR (E := 66) S rfl (M.arg hx) (by kernel_rfl)) ?_; clear S a; intro a S
 refine qG [1] S ?_; clear S a; intro a S
 refine qY S (y_lenR (E := 66) S rfl (M.arg hy) (by kernel_rfl)) ?_; clear S a; intro a S
 refine qG [1] S ?_; clear S a; intro a S
 refine nxC (st_if (t := 10) S rfl ?_ ?_)
 ·clear S; intro h10 S
  refine st_condT S rfl (nxD (qG [1] S ?_)); clear S a; intro a S
  refine nxC (wp_ret (then_ret (end_one S rfl (res_tmp rfl) ?_)))
  exact ⟨ret_bool (hne (by omega)).symm, M.below⟩
 clear S; intro h10 S
 refine st_condF S rfl (wp_skip (then_normal (wp_seq (nxD (qG [1] S ?_))))); clear S a; intro a S
 refine nxC (wp_block (wp_loop_g (fun m a w' => ∃ (k : Nat), k ≤ x.length ∧ m = x.length - k ∧ Sees 26 a [(0, va), (1, vb), (5, .int .i64 (k : Int))] ∧ Mem w w' [] ∧ ∀ j, j < k → x[j]? = y[j]?) (x.length) ?_ ?_))
 ·skip
  exact ⟨0, Nat.zero_le _, rfl, S.sub _ rfl, M, fun j h => by omega⟩
 clear S M a; intro m a wl
 rintro ⟨k, hk, rfl, S, M, hpre⟩
 refine wp_seq (nxD (qG [1, 1] S ?_)); clear S a; intro a S
 refine qY S (y_lenR (E := 66) S rfl ((M.arg hx)) (by kernel_rfl)) ?_; clear S a; intro a S
 refine qG [1] S ?_; clear S a; intro a S
 refine nxC (st_fi (t := 14) S rfl ?_ ?_)
 ·clear S; intro h14 S
  refine st_condF S rfl (wp_exit (then_exit (then_exit (block_hit (nxE (qG [1] S ?_)))))); clear S a; intro a S
  refine nxC (wp_ret (end_one S rfl (res_tmp rfl) ?_))
  obtain rfl : k = x.length := by omega
  refine ⟨ret_bool (eqWs_iff.2 (List.ext_getElem? fun j => ?_)).symm, M.below⟩
  by_cases hj : j < x.length
  ·exact hpre j hj
  ·rw [List.getElem?_eq_none (by omega), List.getElem?_eq_none (by omega)]
 clear S; intro h14 S
 refine st_condT S rfl (wp_skip (then_normal (wp_seq (wp_block (wp_seq ?_)))))
 obtain ⟨p, hp⟩ : ∃ p, x[k]? = some p := ⟨_, List.getElem?_eq_getElem (by omega)⟩
 obtain ⟨q, hq⟩ : ∃ q, y[k]? = some q := ⟨_, List.getElem?_eq_getElem (by omega)⟩
 refine wp_quiet M (by kernel_rfl) (by kernel_rfl) ?_
 refine qt_y S rfl rfl rfl (fun w M => y_move S rfl) ?_; clear S a; intro a S
 refine qt_y S rfl rfl rfl (fun w M => y_move S rfl) ?_; clear S a; intro a S
 refine qt_y S rfl rfl rfl (fun w M => y_indexR (e := 66) (sz := 9) S (by kernel_rfl) rfl ((M.arg hx)) rfl (by first | omega | (simp; done) | (simp; omega))) ?_; clear S a; intro a S
 try simp only [Int.toNat_natCast, Nat.mul_one, Nat.zero_add] at S
 refine qt_y S rfl rfl rfl (fun w M => y_loadAgg S (by kernel_rfl) rfl rfl ((M.arg hx).at_.row (i := k) (wcells_get hp) rfl)) ?_; clear S a; intro a S
 refine qt_y S rfl rfl rfl (fun w M => y_move S rfl) ?_; clear S a; intro a S
 refine qt_y S rfl rfl rfl (fun w M => y_move S rfl) ?_; clear S a; intro a S
 refine qt_y S rfl rfl rfl (fun w M => y_indexR (e := 66) (sz := 9) S (by kernel_rfl) rfl ((M.arg hy)) rfl (by first | omega | (simp; done) | (simp; omega))) ?_; clear S a; intro a S
 try simp only [Int.toNat_natCast, Nat.mul_one, Nat.zero_add] at S
 refine qt_y S rfl rfl rfl (fun w M => y_loadAgg S (by kernel_rfl) rfl rfl ((M.arg hy).at_.row (i := k) (wcells_get hq) rfl)) ?_; clear S a; intro a S
 refine qt_y S rfl rfl rfl (fun w M => y_neqG (by kernel_rfl) S rfl rfl (fun w => equalWr 9997 p q w)) ?_; clear S a; intro a S
 refine wpQuiet_nil ?_; clear M; intro w1 M
 refine then_normal (st_split (t := 25) S rfl ?_ ?_)
 ·clear S; intro h25 S
  refine st_condT S rfl (nxD (qG [1] S ?_)); clear S a; intro a S
  refine nxC (wp_ret (block_ret (then_ret (then_ret (block_ret (then_ret (end_one S rfl (res_tmp rfl) ?_)))))))
  refine ⟨ret_bool ?_, M.below⟩
  cases e : eqWs x y with
  | false => rfl
  | true =>
    rw [eqWs_iff.1 e, hq] at hp
    cases hp
    rw [Wr.eqb_iff.2 rfl] at h25
    cases h25
 clear S; intro h25 S
 refine st_condF S rfl (wp_skip (block_normal (nxF (qG [1] S ?_)))); clear S a; intro a S
 (first | refine qY S (y_addN S rfl rfl (by omega)) ?_ | refine qY S (y_int S rfl rfl rfl) ?_); clear S a; intro a S
 refine qG [1] S ?_; clear S a; intro a S
 replace S := S.keep [0, 1, 14, 25, 5]
 refine nxC ?_
 refine ⟨x.length - (k + 1), by omega, k + 1, by omega, rfl, S.sub _ rfl, M, fun j hj => ?_⟩
 rcases Nat.lt_or_ge j k with h | h
 ·exact hpre j h
 ·obtain rfl : j = k := by omega
  rw [hp, hq, (Wr.eqb_iff (a := p) (b := q)).1 (by simpa using h25)]
def givenB (g t : Int) : Bool := bitsB g && bitsB t && (andV g t == 0)
theorem given_any (g t : Int) (w : World) : Calls Tryz.prog 82 #[.int .i64 g, .int .i64 t] w fun e w' => e = .returned (.bool (givenB g t)) ∧ Below w.heap.size w w' := by
 have M := Mem.start w
 refine calls_enter Tryz.func82 rfl 25 rfl rfl ?_; intro a S
 refine nxD (qG [1] S ?_); clear S a; intro a S
 refine nxA (qG [1, 1, 1] S ?_); clear S a; intro a S
 refine st_fi (t := 7) S rfl ?_ ?_
 ·clear S; intro h7 S
  refine qG [0, 0, 1, 1, 0, 0, 1, 1, 0, 0, 1, 1, 0, 0, 0, 0, 1, 1] S ?_; clear S a; intro a S
  replace S := S.keep [0, 1, 4]
  refine nxC (wp_ret (end_one S rfl (res_tmp rfl) ?_))
  refine ⟨ret_bool ?_, M.below⟩; clear S M; unfold givenB bitsB
  first
   | (rw [decide_eq_true (p := 0 ≤ g ∧ g < 256) (by omega), decide_eq_true (p := 0 ≤ t ∧ t < 256) (by omega)]; rfl)
   | (rw [decide_eq_false (p := 0 ≤ g ∧ g < 256) (by omega)]; rfl)
   | (rw [decide_eq_false (p := 0 ≤ t ∧ t < 256) (by omega)]; simp)
 clear S; intro h7 S
 refine qG [1, 1, 1, 1] S ?_; clear S a; intro a S
 refine st_fi (t := 11) S rfl ?_ ?_
 ·clear S; intro h11 S
  refine qG [0, 0, 1, 1, 0, 0, 1, 1, 0, 0, 0, 0, 1, 1] S ?_; clear S a; intro a S
  replace S := S.keep [0, 1, 4]
  refine nxC (wp_ret (end_one S rfl (res_tmp rfl) ?_))
  refine ⟨ret_bool ?_, M.below⟩; clear S M; unfold givenB bitsB
  first
   | (rw [decide_eq_true (p := 0 ≤ g ∧ g < 256) (by omega), decide_eq_true (p := 0 ≤ t ∧ t < 256) (by omega)]; rfl)
   | (rw [decide_eq_false (p := 0 ≤ g ∧ g < 256) (by omega)]; rfl)
   | (rw [decide_eq_false (p := 0 ≤ t ∧ t < 256) (by omega)]; simp)
 clear S; intro h11 S
 refine qG [1, 1, 1, 1] S ?_; clear S a; intro a S
 refine st_fi (t := 15) S rfl ?_ ?_
 ·clear S; intro h15 S
  refine qG [0, 0, 1, 1, 0, 0, 0, 0, 1, 1] S ?_; clear S a; intro a S
  replace S := S.keep [0, 1, 4]
  refine nxC (wp_ret (end_one S rfl (res_tmp rfl) ?_))
  refine ⟨ret_bool ?_, M.below⟩; clear S M; unfold givenB bitsB
  first
   | (rw [decide_eq_true (p := 0 ≤ g ∧ g < 256) (by omega), decide_eq_true (p := 0 ≤ t ∧ t < 256) (by omega)]; rfl)
   | (rw [decide_eq_false (p := 0 ≤ g ∧ g < 256) (by omega)]; rfl)
   | (rw [decide_eq_false (p := 0 ≤ t ∧ t < 256) (by omega)]; simp)
 clear S; intro h15 S
 refine qG [1, 1, 1, 1] S ?_; clear S a; intro a S
 refine st_fi (t := 19) S rfl ?_ ?_
 ·clear S; intro h19 S
  refine qG [0, 0, 0, 0, 1, 1] S ?_; clear S a; intro a S
  replace S := S.keep [0, 1, 4]
  refine nxC (wp_ret (end_one S rfl (res_tmp rfl) ?_))
  refine ⟨ret_bool ?_, M.below⟩; clear S M; unfold givenB bitsB
  first
   | (rw [decide_eq_true (p := 0 ≤ g ∧ g < 256) (by omega), decide_eq_true (p := 0 ≤ t ∧ t < 256) (by omega)]; rfl)
   | (rw [decide_eq_false (p := 0 ≤ g ∧ g < 256) (by omega)]; rfl)
   | (rw [decide_eq_false (p := 0 ≤ t ∧ t < 256) (by omega)]; simp)
 clear S; intro h19 S
 refine qG [1, 1] S ?_; clear S a; intro a S
 refine qY S (y_int S rfl rfl rfl) ?_; clear S a; intro a S
 refine qG [1, 1, 1] S ?_; clear S a; intro a S
 replace S := S.keep [0, 1, 4]
 refine nxC (wp_ret (end_one S rfl (res_tmp rfl) ?_))
 refine ⟨ret_bool ?_, M.below⟩; clear S M; unfold givenB bitsB
 first
  | (rw [decide_eq_true (p := 0 ≤ g ∧ g < 256) (by omega), decide_eq_true (p := 0 ≤ t ∧ t < 256) (by omega)]; rfl)
  | (rw [decide_eq_false (p := 0 ≤ g ∧ g < 256) (by omega)]; rfl)
  | (rw [decide_eq_false (p := 0 ≤ t ∧ t < 256) (by omega)]; simp)
end Go.Proofs.YtodfphphidhjbaaGreat

namespace Go.Proofs.YtodfphphidhjbaaGreat
open Go.RowKit Go.Sort
theorem rSame_any (a b : Rc) (va vb : Value) (x y : List Wr) (w : World) (hx : Ws 0 w.heap.size w va x) (hy : Ws 0 w.heap.size w vb y) :
 Calls Tryz.prog 78 #[.agg (a.cells va), .agg (b.cells vb)] w fun e w' => e = .returned (.bool (a.same b x y)) ∧ Below w.heap.size w w' := by
 obtain ⟨aa, ca, rfl, -, -⟩ := hx.form
 obtain ⟨ab, cb, rfl, -, -⟩ := hy.form
 have M := Mem.start w
 generalize hr : a.same b x y = R
 refine calls_enter Tryz.func78 rfl 66 rfl rfl ?_; intro a S
 refine nxD (st_box S M rfl rfl rfl #[_, _, _, _, _, _, _, _, _, _, _, _] rfl ?_); clear S M a; intro a w1 b1 S M hB
 refine st_box S M rfl rfl rfl #[_, _, _, _, _, _, _, _, _, _, _, _] rfl ?_; clear S M a; intro a w2 b2 S M hB
 refine qG [1] S ?_; clear S a; intro a S
 refine nxA (qR [1, 2, 1, 1, 1, 1] S M ?_); clear S a; intro a S
 refine st_tils (t := 10) S rfl ?_ ?_
 ·clear S; intro h10 S
  refine qG [0, 0, 0, 0, 0, 1, 1, 0, 0, 0, 0, 0, 1, 1, 0, 0, 0, 0, 0, 1, 1, 0, 0, 0, 0, 0, 1, 1, 0, 0, 0, 0, 0, 1, 1, 0, 0, 0, 0, 0, 1, 1, 0, 0, 0, 0, 0, 1, 1, 0, 0, 0, 0, 0, 1, 1] S ?_; clear S a; intro a S
  replace S := S.keep [0, 1, 2, 3, 4]
  refine nxC (wp_ret (end_one S rfl (res_tmp rfl) ?_))
  refine ⟨ret_bool ?_, M.below⟩; rw [← hr]; clear S M; simp [Rc.same, *]
 clear S; intro h10 S
 refine qG [2] S ?_; clear S a; intro a S
 refine qY S (y_loadAgg (cs := [_, _, _]) S (by kernel_rfl) rfl rfl (M.cellsAt (k := 3) 1 rfl rfl)) ?_; clear S a; intro a S
 refine qG [2] S ?_; clear S a; intro a S
 refine qY S (y_loadAgg (cs := [_, _, _]) S (by kernel_rfl) rfl rfl (M.cellsAt (k := 3) 0 rfl rfl)) ?_; clear S a; intro a S
 refine qY S (y_eqlG (by kernel_rfl) S rfl rfl (fun w => equalNm 9998 ⟨_, _, _⟩ ⟨_, _, _⟩ w)) ?_; clear S a; intro a S
 refine qG [1, 1] S ?_; clear S a; intro a S
 refine st_tils (t := 17) S rfl ?_ ?_
 ·clear S; intro h17 S
  refine qG [0, 0, 0, 0, 0, 1, 1, 0, 0, 0, 0, 0, 1, 1, 0, 0, 0, 0, 0, 1, 1, 0, 0, 0, 0, 0, 1, 1, 0, 0, 0, 0, 0, 1, 1, 0, 0, 0, 0, 0, 1, 1, 0, 0, 0, 0, 0, 1, 1] S ?_; clear S a; intro a S
  replace S := S.keep [0, 1, 2, 3, 4]
  refine nxC (wp_ret (end_one S rfl (res_tmp rfl) ?_))
  refine ⟨ret_bool ?_, M.below⟩; rw [← hr]; clear S M; simp [Rc.same, *]
 clear S; intro h17 S
 refine qR [5, 2, 5, 1] S M ?_; clear S a; intro a S
 refine qY S (y_eqlBool (by kernel_rfl) S rfl rfl) ?_; clear S a; intro a S
 refine qG [1, 1] S ?_; clear S a; intro a S
 refine st_tils (t := 24) S rfl ?_ ?_
 ·clear S; intro h24 S
  refine qG [0, 0, 0, 0, 0, 1, 1, 0, 0, 0, 0, 0, 1, 1, 0, 0, 0, 0, 0, 1, 1, 0, 0, 0, 0, 0, 1, 1, 0, 0, 0, 0, 0, 1, 1, 0, 0, 0, 0, 0, 1, 1] S ?_; clear S a; intro a S
  replace S := S.keep [0, 1, 2, 3, 4]
  refine nxC (wp_ret (end_one S rfl (res_tmp rfl) ?_))
  refine ⟨ret_bool ?_, M.below⟩; rw [← hr]; clear S M; simp [Rc.same, *]
 clear S; intro h24 S
 refine qR [6, 2, 6, 1] S M ?_; clear S a; intro a S
 refine qQ (xs := [.tmp 26, .tmp 28]) S (qE Tryz.func119) rfl (sameWrites_any _ _ x y _ (M.argW hx) (M.argW hy)) M ?_; clear S M a; intro a w3 S hK M
 refine qG [1, 1] S ?_; clear S a; intro a S
 refine st_tils (t := 31) S rfl ?_ ?_
 ·clear S; intro h31 S
  refine qG [0, 0, 0, 0, 0, 1, 1, 0, 0, 0, 0, 0, 1, 1, 0, 0, 0, 0, 0, 1, 1, 0, 0, 0, 0, 0, 1, 1, 0, 0, 0, 0, 0, 1, 1] S ?_; clear S a; intro a S
  replace S := S.keep [0, 1, 2, 3, 4]
  refine nxC (wp_ret (end_one S rfl (res_tmp rfl) ?_))
  refine ⟨ret_bool ?_, M.below⟩; rw [← hr]; clear S M; simp [Rc.same, *]
 clear S; intro h31 S
 refine qR [7, 2, 7, 1, 1, 1, 1] S M ?_; clear S a; intro a S
 refine st_tils (t := 38) S rfl ?_ ?_
 ·clear S; intro h38 S
  refine qG [0, 0, 0, 0, 0, 1, 1, 0, 0, 0, 0, 0, 1, 1, 0, 0, 0, 0, 0, 1, 1, 0, 0, 0, 0, 0, 1, 1] S ?_; clear S a; intro a S
  replace S := S.keep [0, 1, 2, 3, 4]
  refine nxC (wp_ret (end_one S rfl (res_tmp rfl) ?_))
  refine ⟨ret_bool ?_, M.below⟩; rw [← hr]; clear S M; simp [Rc.same, *]
 clear S; intro h38 S
 refine qR [8, 2, 8, 1, 1, 1, 1] S M ?_; clear S a; intro a S
 refine st_tils (t := 45) S rfl ?_ ?_
 ·clear S; intro h45 S
  refine qG [0, 0, 0, 0, 0, 1, 1, 0, 0, 0, 0, 0, 1, 1, 0, 0, 0, 0, 0, 1, 1] S ?_; clear S a; intro a S
  replace S := S.keep [0, 1, 2, 3, 4]
  refine nxC (wp_ret (end_one S rfl (res_tmp rfl) ?_))
  refine ⟨ret_bool ?_, M.below⟩; rw [← hr]; clear S M; simp [Rc.same, *]
 clear S; intro h45 S
 refine qR [9, 2, 9, 1, 1, 1, 1] S M ?_; clear S a; intro a S
 refine st_tils (t := 52) S rfl ?_ ?_
 ·clear S; intro h52 S
  refine qG [0, 0, 0, 0, 0, 1, 1, 0, 0, 0, 0, 0, 1, 1] S ?_; clear S a; intro a S
  replace S := S.keep [0, 1, 2, 3, 4]
  refine nxC (wp_ret (end_one S rfl (res_tmp rfl) ?_))
  refine ⟨ret_bool ?_, M.below⟩; rw [← hr]; clear S M; simp [Rc.same, *]
 clear S; intro h52 S
 refine qG [10] S ?_; clear S a; intro a S
 refine qY S (y_loadAgg (cs := [_, _]) S (by kernel_rfl) rfl rfl (M.cellsAt (k := 2) 1 rfl rfl)) ?_; clear S a; intro a S
 refine qG [10] S ?_; clear S a; intro a S
 refine qY S (y_loadAgg (cs := [_, _]) S (by kernel_rfl) rfl rfl (M.cellsAt (k := 2) 0 rfl rfl)) ?_; clear S a; intro a S
 refine qY S (y_eqlG (by kernel_rfl) S rfl rfl (fun w => equalCh 9998 _ _ _ _ w)) ?_; clear S a; intro a S
 refine qG [1, 1] S ?_; clear S a; intro a S
 refine st_tils (t := 59) S rfl ?_ ?_
 ·clear S; intro h59 S
  refine qG [0, 0, 0, 0, 0, 1, 1] S ?_; clear S a; intro a S
  replace S := S.keep [0, 1, 2, 3, 4]
  refine nxC (wp_ret (end_one S rfl (res_tmp rfl) ?_))
  refine ⟨ret_bool ?_, M.below⟩; rw [← hr]; clear S M; simp [Rc.same, *]
 clear S; intro h59 S
 refine qR [12, 2, 12, 1, 1, 1, 1] S M ?_; clear S a; intro a S
 replace S := S.keep [0, 1, 2, 3, 4]
 refine nxC (wp_ret (end_one S rfl (res_tmp rfl) ?_))
 refine ⟨ret_bool ?_, M.below⟩; rw [← hr]; clear S M; simp [Rc.same, *]
theorem rChanged_any (s t : Int) (w : World) : Calls Tryz.prog 84 #[.agg #[.int .i64 s, .int .i64 t]] w fun e w' => e = .returned (.bool (changedB s t)) ∧ Below w.heap.size w w' := by
 have M := Mem.start w
 refine calls_enter Tryz.func84 rfl 27 rfl rfl ?_; intro a S
 refine nxD (st_box S M rfl rfl rfl #[_, _] rfl ?_); clear S M a; intro a w1 b1 S M hB
 refine qG [1] S ?_; clear S a; intro a S
 refine nxC (wp_seq (nxD (qR [1, 1, 1] S M ?_))); clear S a; intro a S
 refine nxC (st_if (t := 5) S rfl ?_ ?_)
 ·clear S; intro h5 S
  refine st_condT S rfl (nxD (qR [2, 1, 1, 1] S M ?_)); clear S a; intro a S
  refine nxC (wp_ret (then_ret (end_one S rfl (res_tmp rfl) ?_)))
  refine ⟨ret_bool ?_, M.below⟩; unfold changedB; rw [Bool.eq_iff_iff]; (first | (simp; done) | (simp; omega))
 clear S; intro h5 S
 refine st_condF S rfl (wp_skip (nxE (qR [1, 1, 1, 1] S M ?_))); clear S a; intro a S
 refine st_fi (t := 12) S rfl ?_ ?_
 ·clear S; intro h12 S
  refine qG [0, 0, 0, 1, 1, 0, 0, 0, 1, 1, 0, 0, 0, 1, 1] S ?_; clear S a; intro a S
  replace S := S.keep [0, 1, 5, 2]
  refine nxC (wp_ret (end_one S rfl (res_tmp rfl) ?_))
  refine ⟨ret_bool ?_, M.below⟩; unfold changedB; rw [Bool.eq_iff_iff]; (first | (simp; done) | (simp; omega))
 clear S; intro h12 S
 refine qR [1, 1, 1, 1, 1] S M ?_; clear S a; intro a S
 refine st_fi (t := 17) S rfl ?_ ?_
 ·clear S; intro h17 S
  refine qG [0, 0, 0, 1, 1, 0, 0, 0, 1, 1] S ?_; clear S a; intro a S
  replace S := S.keep [0, 1, 5, 2]
  refine nxC (wp_ret (end_one S rfl (res_tmp rfl) ?_))
  refine ⟨ret_bool ?_, M.below⟩; unfold changedB; rw [Bool.eq_iff_iff]; (first | (simp; done) | (simp; omega))
 clear S; intro h17 S
 refine qR [2, 1, 1, 1, 1] S M ?_; clear S a; intro a S
 refine st_fi (t := 22) S rfl ?_ ?_
 ·clear S; intro h22 S
  refine qG [0, 0, 0, 1, 1] S ?_; clear S a; intro a S
  replace S := S.keep [0, 1, 5, 2]
  refine nxC (wp_ret (end_one S rfl (res_tmp rfl) ?_))
  refine ⟨ret_bool ?_, M.below⟩; unfold changedB; rw [Bool.eq_iff_iff]; (first | (simp; done) | (simp; omega))
 clear S; intro h22 S
 refine qR [2, 1, 1, 1, 1] S M ?_; clear S a; intro a S
 replace S := S.keep [0, 1, 5, 2]
 refine nxC (wp_ret (end_one S rfl (res_tmp rfl) ?_))
 refine ⟨ret_bool ?_, M.below⟩; unfold changedB; rw [Bool.eq_iff_iff]; (first | (simp; done) | (simp; omega))
theorem and1 {n : Int} (h0 : 0 < n) (h : n ≤ 9223372036854775807) : (andV n 1 == 0) = decide (n % 2 = 0) := by
 obtain ⟨k, rfl⟩ := Int.eq_ofNat_of_zero_le (show 0 ≤ n by omega)
 have e1 : BitVec.ofInt 64 (k : Int) = BitVec.ofNat 64 k := by simp
 unfold andV
 rw [show IntKind.i64.bits = 64 from rfl, e1, show BitVec.ofInt 64 1 = BitVec.ofNat 64 1 from rfl]
 have e2 : (BitVec.ofNat 64 k &&& BitVec.ofNat 64 1).toNat = k % 2 := by
  rw [BitVec.toNat_and, BitVec.toNat_ofNat, BitVec.toNat_ofNat, Nat.mod_eq_of_lt (a := k) (by omega)]
  exact Nat.and_one_is_mod k
 rw [e2, Bool.eq_iff_iff]
 simp only [IntKind.wrap, IntKind.bits, IntKind.signed]
 simp; omega
theorem rShards_any (n : Int) (w : World) (hn : n ≤ 9223372036854775807) : Calls Tryz.prog 83 #[.int .i64 n] w fun e w' => e = .returned (.bool (shardsB n)) ∧ Below w.heap.size w w' := by
 have M := Mem.start w
 have key := fun h => and1 (n := n) h hn
 unfold andV at key
 refine calls_enter Tryz.func83 rfl 14 rfl rfl ?_; intro a S
 refine nxD (qG [1] S ?_); clear S a; intro a S
 refine nxA (qG [1, 1, 1] S ?_); clear S a; intro a S
 refine st_fi (t := 5) S rfl ?_ ?_
 ·clear S; intro h5 S
  refine qG [0, 0, 0, 1, 1, 0, 0, 1, 1] S ?_; clear S a; intro a S
  refine nxC (wp_ret (end_one S rfl (res_tmp rfl) ?_))
  refine ⟨ret_bool ?_, M.below⟩; unfold shardsB
  first
   | (rw [key (by assumption)] at h10; rw [Bool.eq_iff_iff]; simp at h10 ⊢; omega)
   | (rw [Bool.eq_iff_iff]; simp; omega)
 clear S; intro h5 S
 refine qG [1] S ?_; clear S a; intro a S
 refine qY S (y_int S rfl rfl rfl) ?_; clear S a; intro a S
 refine qG [1, 1, 1] S ?_; clear S a; intro a S
 refine st_split (t := 10) S rfl ?_ ?_
 ·clear S; intro h10 S
  refine qG [1, 1, 1, 1] S ?_; clear S a; intro a S
  refine nxC (wp_ret (end_one S rfl (res_tmp rfl) ?_))
  refine ⟨ret_bool ?_, M.below⟩; unfold shardsB
  first
   | (rw [key (by assumption)] at h10; rw [Bool.eq_iff_iff]; simp at h10 ⊢; omega)
   | (rw [Bool.eq_iff_iff]; simp; omega)
 clear S; intro h10 S
 refine qG [0, 0, 1, 1] S ?_; clear S a; intro a S
 refine nxC (wp_ret (end_one S rfl (res_tmp rfl) ?_))
 refine ⟨ret_bool ?_, M.below⟩; unfold shardsB
 first
  | (rw [key (by assumption)] at h10; rw [Bool.eq_iff_iff]; simp at h10 ⊢; omega)
  | (rw [Bool.eq_iff_iff]; simp; omega)
def Rc.flds (r : Rc) : Rc :=
 if r.kind = 1 then { Rc.zero with kind := r.kind, name := r.name }
 else if r.kind = 2 then { Rc.zero with kind := r.kind, name := r.name, give := r.give, take := r.take }
 else if r.kind = 3 then { Rc.zero with kind := r.kind, name := r.name, yes := r.yes }
 else if r.kind = 4 then { Rc.zero with kind := r.kind, name := r.name, shards := r.shards, cs := r.cs, ct := r.ct }
 else if r.kind = 5 then { Rc.zero with kind := r.kind, name := r.name }
 else if r.kind = 6 ∨ r.kind = 7 then { Rc.zero with kind := r.kind, n := r.n }
 else { Rc.zero with kind := r.kind }
def fldX (r : Rc) (x : List Wr) : List Wr := if r.kind = 1 ∨ r.kind = 2 then x else []
theorem fields_any (r : Rc) (va : Option Addr) (vn vc : Nat) (x : List Wr) (w : World) :
 Calls Tryz.prog 79 #[.agg (r.cells (.slice va vn vc))] w fun e w' => ∃ ad l c, e = .returned (.agg (r.flds.cells (.slice ad l c))) ∧ Below w.heap.size w w' ∧ ((ad = none ∧ l = 0 ∧ c = 0 ∧ fldX r x = []) ∨ (ad = va ∧ l = vn ∧ c = vc ∧ fldX r x = x)) := by
 have M := Mem.start w
 refine calls_enter Tryz.func79 rfl 62 rfl rfl ?_; intro a S
 refine nxD (st_box S M rfl rfl rfl #[_, _, _, _, _, _, _, _, _, _, _, _] rfl ?_); clear S M a; intro a w1 b1 S M hB
 refine st_alloc S M rfl rfl #[.int .i8 0, .int .i64 0, .int .i64 0, .int .i64 0, .bool false, .slice none 0 0, .int .i64 0, .int .i64 0, .int .i64 0, .int .i64 0, .int .i64 0, .int .i64 0] (by kernel_rfl) ?_; clear S M a; intro a w2 b2 S M hB
 refine nxA (qR [1, 2] S M ?_); clear S a; intro a S
 refine qY S (y_build (ps := [(0, .tmp 5)]) (pl := [(0, 1), (1, 3), (4, 1), (5, 1), (6, 1), (7, 1), (8, 1), (9, 2), (11, 1)]) (z := [.int .i8 0, .int .i64 0, .int .i64 0, .int .i64 0, .bool false, .slice none 0 0, .int .i64 0, .int .i64 0, .int .i64 0, .int .i64 0, .int .i64 0, .int .i64 0]) (cs := [_, _, _, _, _, _, _, _, _, _, _, _]) S (by kernel_rfl) rfl (rfl)) ?_; clear S a; intro a S
 refine st_alloc S M rfl rfl #[.int .i8 0, .int .i64 0, .int .i64 0, .int .i64 0, .bool false, .slice none 0 0, .int .i64 0, .int .i64 0, .int .i64 0, .int .i64 0, .int .i64 0, .int .i64 0] (by kernel_rfl) ?_; clear S M a; intro a w3 b3 S M hB
 refine qS (sz := 12) (us := [_, _, _, _, _, _, _, _, _, _, _, _]) S M 0 ?_; clear M; intro w4 M
 refine nxC (wp_seq (nxD (qR [1, 3] S M ?_))); clear S a; intro a S
 refine nxC (wp_block (nxD (qG [1, 1] S ?_))); clear S a; intro a S
 refine nxC (st_if (t := 9) S rfl ?_ ?_)
 ·clear S; intro h9 S
  refine st_condT S rfl (nxD (qG [2] S ?_)); clear S a; intro a S
  refine qY S (y_loadAgg (cs := [_, _, _]) S (by kernel_rfl) rfl rfl (M.cellsAt (k := 3) 2 rfl rfl)) ?_; clear S a; intro a S
  refine qG [2] S ?_; clear S a; intro a S
  refine qS (sz := 3) (us := [_, _, _]) S M 0 ?_; clear M; intro w5 M
  refine nxB (qR [6, 3, 6] S M ?_); clear S a; intro a S
  refine qS (sz := 1) (us := [_]) S M 0 ?_; clear M; intro w6 M
  refine wpList_nil (block_normal (nxE (qY S (y_loadAgg (cs := [_, _, _, _, _, _, _, _, _, _, _, _]) S (by kernel_rfl) rfl rfl (M.cellsAt (k := 12) 0 rfl rfl)) ?_))); clear S a; intro a S
  refine qS (sz := 12) (us := [_, _, _, _, _, _, _, _, _, _, _, _]) S M 1 ?_; clear M; intro w7 M
  refine nxC (wp_ret (end_one S rfl (res_agg (cs := [_, _, _, _, _, _, _, _, _, _, _, _]) (by kernel_rfl) rfl rfl (M.cellsAt (k := 12) 1 rfl rfl)) ?_))
  have hB := M.below
  clear S M
  first
   | (refine ⟨none, 0, 0, ?_, hB, .inl ⟨rfl, rfl, rfl, ?_⟩⟩
      ·simp [Rc.flds, Rc.zero, *]
      ·simp [fldX, *])
   | (refine ⟨va, vn, vc, ?_, hB, .inr ⟨rfl, rfl, rfl, ?_⟩⟩
      ·simp [Rc.flds, Rc.zero, *]
      ·simp [fldX, *])
 clear S; intro h9 S
 refine st_condF S rfl (nxD (qG [1, 1] S ?_)); clear S a; intro a S
 refine nxC (st_if (t := 17) S rfl ?_ ?_)
 ·clear S; intro h17 S
  refine st_condT S rfl (nxD (qG [2] S ?_)); clear S a; intro a S
  refine qY S (y_loadAgg (cs := [_, _, _]) S (by kernel_rfl) rfl rfl (M.cellsAt (k := 3) 2 rfl rfl)) ?_; clear S a; intro a S
  refine qG [2] S ?_; clear S a; intro a S
  refine qS (sz := 3) (us := [_, _, _]) S M 0 ?_; clear M; intro w8 M
  refine nxA (qR [6, 3, 6] S M ?_); clear S a; intro a S
  refine qS (sz := 1) (us := [_]) S M 0 ?_; clear M; intro w9 M
  refine nxA (qR [7, 3, 7] S M ?_); clear S a; intro a S
  refine qS (sz := 1) (us := [_]) S M 0 ?_; clear M; intro w10 M
  replace S := S.keep [0, 1, 2, 3, 8, 9, 17]
  refine nxB (qR [8, 3, 8] S M ?_); clear S a; intro a S
  refine qS (sz := 1) (us := [_]) S M 0 ?_; clear M; intro w11 M
  refine wpList_nil (block_normal (nxE (qY S (y_loadAgg (cs := [_, _, _, _, _, _, _, _, _, _, _, _]) S (by kernel_rfl) rfl rfl (M.cellsAt (k := 12) 0 rfl rfl)) ?_))); clear S a; intro a S
  refine qS (sz := 12) (us := [_, _, _, _, _, _, _, _, _, _, _, _]) S M 1 ?_; clear M; intro w12 M
  refine nxC (wp_ret (end_one S rfl (res_agg (cs := [_, _, _, _, _, _, _, _, _, _, _, _]) (by kernel_rfl) rfl rfl (M.cellsAt (k := 12) 1 rfl rfl)) ?_))
  have hB := M.below
  clear S M
  first
   | (refine ⟨none, 0, 0, ?_, hB, .inl ⟨rfl, rfl, rfl, ?_⟩⟩
      ·simp [Rc.flds, Rc.zero, *]
      ·simp [fldX, *])
   | (refine ⟨va, vn, vc, ?_, hB, .inr ⟨rfl, rfl, rfl, ?_⟩⟩
      ·simp [Rc.flds, Rc.zero, *]
      ·simp [fldX, *])
 clear S; intro h17 S
 refine st_condF S rfl (nxD (qG [1, 1] S ?_)); clear S a; intro a S
 refine nxC (st_if (t := 31) S rfl ?_ ?_)
 ·clear S; intro h31 S
  refine st_condT S rfl (nxD (qG [2] S ?_)); clear S a; intro a S
  refine qY S (y_loadAgg (cs := [_, _, _]) S (by kernel_rfl) rfl rfl (M.cellsAt (k := 3) 2 rfl rfl)) ?_; clear S a; intro a S
  refine qG [2] S ?_; clear S a; intro a S
  refine qS (sz := 3) (us := [_, _, _]) S M 0 ?_; clear M; intro w13 M
  refine nxB (qR [5, 3, 5] S M ?_); clear S a; intro a S
  refine qS (sz := 1) (us := [_]) S M 0 ?_; clear M; intro w14 M
  refine wpList_nil (block_normal (nxE (qY S (y_loadAgg (cs := [_, _, _, _, _, _, _, _, _, _, _, _]) S (by kernel_rfl) rfl rfl (M.cellsAt (k := 12) 0 rfl rfl)) ?_))); clear S a; intro a S
  refine qS (sz := 12) (us := [_, _, _, _, _, _, _, _, _, _, _, _]) S M 1 ?_; clear M; intro w15 M
  replace S := S.keep [0, 1, 2, 3, 8, 9, 17, 31]
  refine nxC (wp_ret (end_one S rfl (res_agg (cs := [_, _, _, _, _, _, _, _, _, _, _, _]) (by kernel_rfl) rfl rfl (M.cellsAt (k := 12) 1 rfl rfl)) ?_))
  have hB := M.below
  clear S M
  first
   | (refine ⟨none, 0, 0, ?_, hB, .inl ⟨rfl, rfl, rfl, ?_⟩⟩
      ·simp [Rc.flds, Rc.zero, *]
      ·simp [fldX, *])
   | (refine ⟨va, vn, vc, ?_, hB, .inr ⟨rfl, rfl, rfl, ?_⟩⟩
      ·simp [Rc.flds, Rc.zero, *]
      ·simp [fldX, *])
 clear S; intro h31 S
 refine st_condF S rfl (nxD (qG [1, 1] S ?_)); clear S a; intro a S
 refine nxC (st_if (t := 39) S rfl ?_ ?_)
 ·clear S; intro h39 S
  refine st_condT S rfl (nxD (qG [2] S ?_)); clear S a; intro a S
  refine qY S (y_loadAgg (cs := [_, _, _]) S (by kernel_rfl) rfl rfl (M.cellsAt (k := 3) 2 rfl rfl)) ?_; clear S a; intro a S
  refine qG [2] S ?_; clear S a; intro a S
  refine qS (sz := 3) (us := [_, _, _]) S M 0 ?_; clear M; intro w16 M
  refine nxA (qR [9, 3, 9] S M ?_); clear S a; intro a S
  refine qS (sz := 1) (us := [_]) S M 0 ?_; clear M; intro w17 M
  replace S := S.keep [0, 1, 2, 3, 8, 9, 17, 31, 39]
  refine nxB (qG [10] S ?_); clear S a; intro a S
  refine qY S (y_loadAgg (cs := [_, _]) S (by kernel_rfl) rfl rfl (M.cellsAt (k := 2) 2 rfl rfl)) ?_; clear S a; intro a S
  refine qG [10] S ?_; clear S a; intro a S
  refine qS (sz := 2) (us := [_, _]) S M 0 ?_; clear M; intro w18 M
  refine wpList_nil (block_normal (nxE (qY S (y_loadAgg (cs := [_, _, _, _, _, _, _, _, _, _, _, _]) S (by kernel_rfl) rfl rfl (M.cellsAt (k := 12) 0 rfl rfl)) ?_))); clear S a; intro a S
  refine qS (sz := 12) (us := [_, _, _, _, _, _, _, _, _, _, _, _]) S M 1 ?_; clear M; intro w19 M
  refine nxC (wp_ret (end_one S rfl (res_agg (cs := [_, _, _, _, _, _, _, _, _, _, _, _]) (by kernel_rfl) rfl rfl (M.cellsAt (k := 12) 1 rfl rfl)) ?_))
  have hB := M.below
  clear S M
  first
   | (refine ⟨none, 0, 0, ?_, hB, .inl ⟨rfl, rfl, rfl, ?_⟩⟩
      ·simp [Rc.flds, Rc.zero, *]
      ·simp [fldX, *])
   | (refine ⟨va, vn, vc, ?_, hB, .inr ⟨rfl, rfl, rfl, ?_⟩⟩
      ·simp [Rc.flds, Rc.zero, *]
      ·simp [fldX, *])
 clear S; intro h39 S
 refine st_condF S rfl (nxD (qG [1, 1] S ?_)); clear S a; intro a S
 refine nxC (st_if (t := 50) S rfl ?_ ?_)
 ·clear S; intro h50 S
  refine st_condT S rfl (wp_region_lit (qG [2] S ?_)); clear S a; intro a S
  refine qY S (y_loadAgg (cs := [_, _, _]) S (by kernel_rfl) rfl rfl (M.cellsAt (k := 3) 2 rfl rfl)) ?_; clear S a; intro a S
  refine qG [2] S ?_; clear S a; intro a S
  refine qS (sz := 3) (us := [_, _, _]) S M 0 ?_; clear M; intro w20 M
  refine wpList_nil (block_normal (nxE (qY S (y_loadAgg (cs := [_, _, _, _, _, _, _, _, _, _, _, _]) S (by kernel_rfl) rfl rfl (M.cellsAt (k := 12) 0 rfl rfl)) ?_))); clear S a; intro a S
  refine qS (sz := 12) (us := [_, _, _, _, _, _, _, _, _, _, _, _]) S M 1 ?_; clear M; intro w21 M
  refine nxC (wp_ret (end_one S rfl (res_agg (cs := [_, _, _, _, _, _, _, _, _, _, _, _]) (by kernel_rfl) rfl rfl (M.cellsAt (k := 12) 1 rfl rfl)) ?_))
  have hB := M.below
  clear S M
  first
   | (refine ⟨none, 0, 0, ?_, hB, .inl ⟨rfl, rfl, rfl, ?_⟩⟩
      ·simp [Rc.flds, Rc.zero, *]
      ·simp [fldX, *])
   | (refine ⟨va, vn, vc, ?_, hB, .inr ⟨rfl, rfl, rfl, ?_⟩⟩
      ·simp [Rc.flds, Rc.zero, *]
      ·simp [fldX, *])
 clear S; intro h50 S
 refine st_condF S rfl (wp_seq (nxD (qG [1, 1] S ?_))); clear S a; intro a S
 refine nxC (st_if (t := 55) S rfl ?_ ?_)
 ·clear S; intro h55 S
  refine st_condT S rfl (wp_skip (then_normal (st_condT S rfl (wp_region_lit (qR [12, 3, 12] S M ?_))))); clear S a; intro a S
  refine qS (sz := 1) (us := [_]) S M 0 ?_; clear M; intro w22 M
  refine wpList_nil (block_normal (nxE (qY S (y_loadAgg (cs := [_, _, _, _, _, _, _, _, _, _, _, _]) S (by kernel_rfl) rfl rfl (M.cellsAt (k := 12) 0 rfl rfl)) ?_))); clear S a; intro a S
  refine qS (sz := 12) (us := [_, _, _, _, _, _, _, _, _, _, _, _]) S M 1 ?_; clear M; intro w23 M
  replace S := S.keep [0, 1, 2, 3, 8, 9, 17, 31, 39, 50, 55]
  refine nxC (wp_ret (end_one S rfl (res_agg (cs := [_, _, _, _, _, _, _, _, _, _, _, _]) (by kernel_rfl) rfl rfl (M.cellsAt (k := 12) 1 rfl rfl)) ?_))
  have hB := M.below
  clear S M
  first
   | (refine ⟨none, 0, 0, ?_, hB, .inl ⟨rfl, rfl, rfl, ?_⟩⟩
      ·simp [Rc.flds, Rc.zero, *]
      ·simp [fldX, *])
   | (refine ⟨va, vn, vc, ?_, hB, .inr ⟨rfl, rfl, rfl, ?_⟩⟩
      ·simp [Rc.flds, Rc.zero, *]
      ·simp [fldX, *])
 clear S; intro h55 S
 refine st_condF S rfl (wp_region_lit (qG [1, 1] S ?_)); clear S a; intro a S
 refine nxC (st_fi (t := 55) S rfl ?_ ?_)
 ·clear S; intro h55 S
  refine st_condF S rfl (wp_skip (block_normal (nxE (qY S (y_loadAgg (cs := [_, _, _, _, _, _, _, _, _, _, _, _]) S (by kernel_rfl) rfl rfl (M.cellsAt (k := 12) 0 rfl rfl)) ?_)))); clear S a; intro a S
  refine qS (sz := 12) (us := [_, _, _, _, _, _, _, _, _, _, _, _]) S M 1 ?_; clear M; intro w26 M
  refine nxC (wp_ret (end_one S rfl (res_agg (cs := [_, _, _, _, _, _, _, _, _, _, _, _]) (by kernel_rfl) rfl rfl (M.cellsAt (k := 12) 1 rfl rfl)) ?_))
  have hB := M.below
  clear S M
  first
   | (refine ⟨none, 0, 0, ?_, hB, .inl ⟨rfl, rfl, rfl, ?_⟩⟩
      ·simp [Rc.flds, Rc.zero, *]
      ·simp [fldX, *])
   | (refine ⟨va, vn, vc, ?_, hB, .inr ⟨rfl, rfl, rfl, ?_⟩⟩
      ·simp [Rc.flds, Rc.zero, *]
      ·simp [fldX, *])
 clear S; intro h55 S
 refine st_condT S rfl (wp_region_lit (qR [12, 3, 12] S M ?_)); clear S a; intro a S
 refine qS (sz := 1) (us := [_]) S M 0 ?_; clear M; intro w24 M
 replace S := S.keep [0, 1, 2, 3, 8, 9, 17, 31, 39, 50, 55]
 refine wpList_nil (block_normal (nxE (qY S (y_loadAgg (cs := [_, _, _, _, _, _, _, _, _, _, _, _]) S (by kernel_rfl) rfl rfl (M.cellsAt (k := 12) 0 rfl rfl)) ?_))); clear S a; intro a S
 refine qS (sz := 12) (us := [_, _, _, _, _, _, _, _, _, _, _, _]) S M 1 ?_; clear M; intro w25 M
 refine nxC (wp_ret (end_one S rfl (res_agg (cs := [_, _, _, _, _, _, _, _, _, _, _, _]) (by kernel_rfl) rfl rfl (M.cellsAt (k := 12) 1 rfl rfl)) ?_))
 have hB := M.below
 clear S M
 first
  | (refine ⟨none, 0, 0, ?_, hB, .inl ⟨rfl, rfl, rfl, ?_⟩⟩
     ·simp [Rc.flds, Rc.zero, *]
     ·simp [fldX, *])
  | (refine ⟨va, vn, vc, ?_, hB, .inr ⟨rfl, rfl, rfl, ?_⟩⟩
     ·simp [Rc.flds, Rc.zero, *]
     ·simp [fldX, *])
def refMay (r : Rc) (x : List Wr) : Bool :=
 if (r.kind < 1 ∨ 7 < r.kind) ∨ r.same r.flds x (fldX r x) = false then false
 else if r.kind = 6 then withinB r.n 1048577
 else if r.kind = 7 then withinB r.n 1048576
 else if (r.name.named && (writtenB x && givenB r.give r.take)) = false then false
 else (decide (r.kind ≠ 4) || (shardsB r.shards && changedB r.cs r.ct))
theorem may_ref (r : Rc) (x : List Wr) : r.may x = refMay r x := by
 by_cases hk : 1 ≤ r.kind ∧ r.kind ≤ 7
 ·have hc : r.kind = 1 ∨ r.kind = 2 ∨ r.kind = 3 ∨ r.kind = 4 ∨ r.kind = 5 ∨ r.kind = 6 ∨ r.kind = 7 := by omega
  have z1 : writtenB [] = true := rfl
  have z2 : givenB 0 0 = true := by decide
  rw [Bool.eq_iff_iff]
  constructor
  ·intro hm
   have hsame : r.same r.flds x (fldX r x) = true := by
    rw [Rc.same_iff]
    rcases may_cases hm with ⟨hk, hr, -⟩ | ⟨hk, hr, -⟩ | ⟨hk, hr, rfl, -⟩ | ⟨hk, hr, rfl, -⟩ | ⟨hk, hr, rfl, -⟩ | ⟨hk, hr, rfl, -⟩ | ⟨hk, hr, rfl, -⟩ <;> (refine ⟨?_, by simp [fldX, hk]⟩; simp only [Rc.flds, hk]; exact hr)
   unfold refMay
   rw [if_neg (by rintro (h | h); · omega
                  ·rw [hsame] at h; cases h)]
   rcases may_cases hm with ⟨hk, hr, hn, hw⟩ | ⟨hk, hr, hn, hw, hg, ht, ha⟩ | ⟨hk, hr, rfl, hn⟩ | ⟨hk, hr, rfl, hn, h1, h2⟩ | ⟨hk, hr, rfl, hn⟩ | ⟨hk, hr, rfl, hn⟩ | ⟨hk, hr, rfl, hn⟩
   ·have e1 : r.give = 0 := by rw [hr]; rfl
    have e2 : r.take = 0 := by rw [hr]; rfl
    simp [hk, hn, hw, e1, e2, z2]
   ·simp [hk, hn, hw, givenB, hg, ht, ha]
   ·have e1 : r.give = 0 := by rw [hr]; rfl
    have e2 : r.take = 0 := by rw [hr]; rfl
    simp [hk, hn, z1, e1, e2, z2]
   ·have e1 : r.give = 0 := by rw [hr]; rfl
    have e2 : r.take = 0 := by rw [hr]; rfl
    simp [hk, hn, z1, e1, e2, z2, h1, h2]
   ·have e1 : r.give = 0 := by rw [hr]; rfl
    have e2 : r.take = 0 := by rw [hr]; rfl
    simp [hk, hn, z1, e1, e2, z2]
   ·simp [hk, hn]
   ·simp [hk, hn]
  ·intro hm
   unfold refMay at hm
   split at hm
   ·cases hm
   ·rename_i hns
    have hsame : r = r.flds ∧ x = fldX r x := by
     rw [← Rc.same_iff]
     cases h : r.same r.flds x (fldX r x) with
     | true => rfl
     | false => exact absurd (.inr h) hns
    obtain ⟨hr, hx⟩ := hsame
    unfold Rc.may
    rw [if_pos hk, Bool.and_eq_true, Rc.same_iff]
    unfold Rc.flds at hr
    unfold fldX at hx
    unfold Rc.ok Rc.rest
    rcases hc with hk | hk | hk | hk | hk | hk | hk
    ·rw [if_pos hk] at hr
     rw [if_pos (by omega)] at hx
     rw [if_neg (by omega), if_neg (by omega)] at hm
     refine ⟨?_, ?_, ?_⟩
     ·rw [if_pos hk]; simp [givenB, hk] at hm ⊢; exact ⟨hm.1, hm.2.1⟩
     ·rw [if_pos hk]; rw [hr]; rfl
     ·rw [if_pos (by omega)]
    ·rw [if_neg (by omega), if_pos hk] at hr
     rw [if_pos (by omega)] at hx
     rw [if_neg (by omega), if_neg (by omega)] at hm
     refine ⟨?_, ?_, ?_⟩
     ·rw [if_neg (by omega), if_pos hk]; simp [givenB, hk] at hm ⊢; obtain ⟨q1, q2, q3, q4, q5⟩ := hm; exact ⟨⟨⟨⟨q1, q2⟩, q3⟩, q4⟩, q5⟩
     ·rw [if_neg (by omega), if_pos hk]; rw [hr]; rfl
     ·rw [if_pos (by omega)]
    ·rw [if_neg (by omega), if_neg (by omega), if_pos hk] at hr
     rw [if_neg (by omega)] at hx
     rw [if_neg (by omega), if_neg (by omega)] at hm
     refine ⟨?_, ?_, ?_⟩
     ·rw [if_neg (by omega), if_neg (by omega), if_pos hk]; simp [givenB, hk] at hm ⊢; exact hm.1
     ·rw [if_neg (by omega), if_neg (by omega), if_pos hk]; rw [hr]; rfl
     ·rw [if_neg (by omega)]; exact hx
    ·rw [if_neg (by omega), if_neg (by omega), if_neg (by omega), if_pos hk] at hr
     rw [if_neg (by omega)] at hx
     rw [if_neg (by omega), if_neg (by omega)] at hm
     refine ⟨?_, ?_, ?_⟩
     ·rw [if_neg (by omega), if_neg (by omega), if_neg (by omega), if_pos hk]; simp [givenB, hk] at hm ⊢; exact ⟨⟨hm.1.1, hm.2.1⟩, hm.2.2⟩
     ·rw [if_neg (by omega), if_neg (by omega), if_neg (by omega), if_pos hk]; rw [hr]; rfl
     ·rw [if_neg (by omega)]; exact hx
    ·rw [if_neg (by omega), if_neg (by omega), if_neg (by omega), if_neg (by omega), if_pos hk] at hr
     rw [if_neg (by omega)] at hx
     rw [if_neg (by omega), if_neg (by omega)] at hm
     refine ⟨?_, ?_, ?_⟩
     ·rw [if_neg (by omega), if_neg (by omega), if_neg (by omega), if_neg (by omega), if_pos hk]; simp [givenB, hk] at hm ⊢; exact hm.1
     ·rw [if_neg (by omega), if_neg (by omega), if_neg (by omega), if_neg (by omega), if_pos hk]; rw [hr]; rfl
     ·rw [if_neg (by omega)]; exact hx
    ·rw [if_neg (by omega), if_neg (by omega), if_neg (by omega), if_neg (by omega), if_neg (by omega), if_pos (by omega)] at hr
     rw [if_neg (by omega)] at hx
     rw [if_pos hk] at hm
     refine ⟨?_, ?_, ?_⟩
     ·rw [if_neg (by omega), if_neg (by omega), if_neg (by omega), if_neg (by omega), if_neg (by omega), if_pos hk]; exact hm
     ·rw [if_neg (by omega), if_neg (by omega), if_neg (by omega), if_neg (by omega), if_neg (by omega)]; rw [hr]; rfl
     ·rw [if_neg (by omega)]; exact hx
    ·rw [if_neg (by omega), if_neg (by omega), if_neg (by omega), if_neg (by omega), if_neg (by omega), if_pos (by omega)] at hr
     rw [if_neg (by omega)] at hx
     rw [if_neg (by omega), if_pos hk] at hm
     refine ⟨?_, ?_, ?_⟩
     ·rw [if_neg (by omega), if_neg (by omega), if_neg (by omega), if_neg (by omega), if_neg (by omega), if_neg (by omega)]; exact hm
     ·rw [if_neg (by omega), if_neg (by omega), if_neg (by omega), if_neg (by omega), if_neg (by omega)]; rw [hr]; rfl
     ·rw [if_neg (by omega)]; exact hx
 ·unfold Rc.may refMay
  rw [if_neg hk, if_pos (.inl (by omega))]
theorem rMay_any (r : Rc) (va : Option Addr) (vn vc : Nat) (x : List Wr) (w : World) (hs : r.shards ≤ 9223372036854775807) (hv : Ws 0 w.heap.size w (.slice va vn vc) x) :
 Calls Tryz.prog 38 #[.agg (r.cells (.slice va vn vc))] w fun e w' => e = .returned (.bool (r.may x)) ∧ Below w.heap.size w w' := by
 have M := Mem.start w
 rw [may_ref]
 generalize hR : refMay r x = R
 refine calls_enter Tryz.func38 rfl 71 rfl rfl ?_; intro a S
 refine nxD (st_box S M rfl rfl rfl #[_, _, _, _, _, _, _, _, _, _, _, _] rfl ?_); clear S M a; intro a w1 b1 S M hB
 refine qG [1] S ?_; clear S a; intro a S
 refine nxC (wp_seq (wp_seq (wp_regionK [] #[false, false, false, false, false, false, false, false, false, false, false, false, false, false, false] rfl M (by kernel_rfl) ?_))); clear M; intro w2 M
 refine k_pure 0 S rfl (fun w => y_fieldAddr (k := 0) S (by kernel_rfl) rfl) ?_; clear S a; intro a S
 refine k_read 1 S rfl (fun w hW => have M := M.grow hW; y_load S (by kernel_rfl) rfl (M.cell 0 rfl rfl)) ?_; clear S a; intro a S
 refine k_pure 2 S rfl (fun w => y_int S rfl rfl rfl) ?_; clear S a; intro a S
 refine k_pure 3 S rfl (fun w => y_move S rfl) ?_; clear S a; intro a S
 refine st_if (t := 6) S rfl ?_ ?_
 ·clear S; intro h6 S
  refine k_no 4 S rfl ?_; clear S a; intro a S
  refine k_no 5 S rfl ?_; clear S a; intro a S
  refine k_no 6 S rfl ?_; clear S a; intro a S
  refine k_pure 7 S rfl (fun w => y_pickT S rfl rfl) ?_; clear S a; intro a S
  refine k_pure 8 S rfl (fun w => y_move S rfl) ?_; clear S a; intro a S
  refine k_no 9 S rfl ?_; clear S a; intro a S
  refine k_no 10 S rfl ?_; clear S a; intro a S
  refine k_no 11 S rfl ?_; clear S a; intro a S
  refine k_no 12 S rfl ?_; clear S a; intro a S
  refine k_no 13 S rfl ?_; clear S a; intro a S
  refine k_pure 14 S rfl (fun w => y_pickT S rfl rfl) ?_; clear S a; intro a S
  refine k_end (by kernel_rfl) ?_
  replace S := S.keep [0, 1, 2, 17]
  refine then_normal (st_condT S rfl (nxD (qG [1] S ?_))); clear S a; intro a S
  refine nxC (wp_ret (then_ret (end_one S rfl (res_tmp rfl) ?_)))
  refine ⟨ret_bool ?_, M.below⟩; rw [← hR]; clear S M; unfold refMay withinB
  first
   | (rw [if_pos (.inl (by omega))]; done)
   | (rw [if_pos (.inr (by simpa using h17))]; done)
   | (rw [if_neg hns, if_pos (by assumption), Bool.eq_iff_iff]; simp; done)
   | (rw [if_neg hns, if_pos (by assumption), Bool.eq_iff_iff]; simp; omega)
   | (rw [if_neg hns, if_neg (by omega), if_pos (by assumption), Bool.eq_iff_iff]; simp; done)
   | (rw [if_neg hns, if_neg (by omega), if_pos (by assumption), Bool.eq_iff_iff]; simp; omega)
   | (rw [if_neg hns, if_neg (by omega), if_neg (by omega)]; clear hns hsm h17 hR; simp_all; done)
 clear S; intro h6 S
 refine k_pure 4 S rfl (fun w => y_fieldAddr (k := 0) S (by kernel_rfl) rfl) ?_; clear S a; intro a S
 refine k_read 5 S rfl (fun w hW => have M := M.grow hW; y_load S (by kernel_rfl) rfl (M.cell 0 rfl rfl)) ?_; clear S a; intro a S
 refine k_pure 6 S rfl (fun w => y_int S rfl rfl rfl) ?_; clear S a; intro a S
 refine k_pure 7 S rfl (fun w => y_pickF S rfl rfl) ?_; clear S a; intro a S
 refine k_pure 8 S rfl (fun w => y_move S rfl) ?_; clear S a; intro a S
 refine st_if (t := 11) S rfl ?_ ?_
 ·clear S; intro h11 S
  refine k_no 9 S rfl ?_; clear S a; intro a S
  refine k_no 10 S rfl ?_; clear S a; intro a S
  refine k_no 11 S rfl ?_; clear S a; intro a S
  refine k_no 12 S rfl ?_; clear S a; intro a S
  refine k_no 13 S rfl ?_; clear S a; intro a S
  refine k_pure 14 S rfl (fun w => y_pickT S rfl rfl) ?_; clear S a; intro a S
  refine k_end (by kernel_rfl) ?_
  replace S := S.keep [0, 1, 2, 17]
  refine then_normal (st_condT S rfl (nxD (qG [1] S ?_))); clear S a; intro a S
  refine nxC (wp_ret (then_ret (end_one S rfl (res_tmp rfl) ?_)))
  refine ⟨ret_bool ?_, M.below⟩; rw [← hR]; clear S M; unfold refMay withinB
  first
   | (rw [if_pos (.inl (by omega))]; done)
   | (rw [if_pos (.inr (by simpa using h17))]; done)
   | (rw [if_neg hns, if_pos (by assumption), Bool.eq_iff_iff]; simp; done)
   | (rw [if_neg hns, if_pos (by assumption), Bool.eq_iff_iff]; simp; omega)
   | (rw [if_neg hns, if_neg (by omega), if_pos (by assumption), Bool.eq_iff_iff]; simp; done)
   | (rw [if_neg hns, if_neg (by omega), if_pos (by assumption), Bool.eq_iff_iff]; simp; omega)
   | (rw [if_neg hns, if_neg (by omega), if_neg (by omega)]; clear hns hsm h17 hR; simp_all; done)
 clear S; intro h11 S
 refine k_read 9 S rfl (fun w hW => have M := M.grow hW; y_loadAgg (cs := [_, _, _, _, _, _, _, _, _, _, _, _]) S (by kernel_rfl) rfl rfl (M.cellsAt (k := 12) 0 rfl rfl)) ?_; clear S a; intro a S
 refine k_read 10 S rfl (fun w hW => have M := M.grow hW; y_loadAgg (cs := [_, _, _, _, _, _, _, _, _, _, _, _]) S (by kernel_rfl) rfl rfl (M.cellsAt (k := 12) 0 rfl rfl)) ?_; clear S a; intro a S
 refine k_one 11 rfl (by kernel_rfl) ?_
 refine qC (xs := [.tmp 13]) S (qE Tryz.func79) rfl (fields_any r va vn vc x _) ?_
 rintro _ w3 ⟨ad, l, c, rfl, hK, hV⟩; refine ⟨_, rfl, ?_⟩; clear S a; intro a S; replace M := M.grow hK
 have hW : Ws 0 w.heap.size w (.slice ad l c) (fldX r x) := by
  rcases hV with ⟨rfl, rfl, rfl, e⟩ | ⟨rfl, rfl, rfl, e⟩ <;> rw [e]
  ·exact Rd.nil _ _ _ _
  ·exact hv
 refine wpList_nil ?_; refine then_normal ?_; refine ⟨fun _ => hK, ?_⟩
 refine k_one 12 rfl (by kernel_rfl) ?_
 refine qQ (xs := [.tmp 12, .tmp 14]) S (qE Tryz.func78) rfl (rSame_any r r.flds _ _ x (fldX r x) _ (M.argW hv) (M.argW hW)) M ?_; clear S M a; intro a w4 S hK M
 refine wpList_nil ?_; refine then_normal ?_; refine ⟨fun _ => hK, ?_⟩
 refine k_pure 13 S rfl (fun w => y_not S rfl) ?_; clear S a; intro a S
 refine k_pure 14 S rfl (fun w => y_pickF S rfl rfl) ?_; clear S a; intro a S
 refine k_end (by kernel_rfl) ?_
 replace S := S.keep [0, 1, 2, 17]
 refine then_normal (st_split (t := 17) S rfl ?_ ?_)
 ·clear S; intro h17 S
  refine st_condT S rfl (nxD (qG [1] S ?_)); clear S a; intro a S
  refine nxC (wp_ret (then_ret (end_one S rfl (res_tmp rfl) ?_)))
  refine ⟨ret_bool ?_, M.below⟩; rw [← hR]; clear S M; unfold refMay withinB
  first
   | (rw [if_pos (.inl (by omega))]; done)
   | (rw [if_pos (.inr (by simpa using h17))]; done)
   | (rw [if_neg hns, if_pos (by assumption), Bool.eq_iff_iff]; simp; done)
   | (rw [if_neg hns, if_pos (by assumption), Bool.eq_iff_iff]; simp; omega)
   | (rw [if_neg hns, if_neg (by omega), if_pos (by assumption), Bool.eq_iff_iff]; simp; done)
   | (rw [if_neg hns, if_neg (by omega), if_pos (by assumption), Bool.eq_iff_iff]; simp; omega)
   | (rw [if_neg hns, if_neg (by omega), if_neg (by omega)]; clear hns hsm h17 hR; simp_all; done)
 clear S; intro h17 S
 refine st_condF S rfl (wp_skip (then_normal (wp_seq (wp_seq ?_))))
 have hsm : r.same r.flds x (fldX r x) = true := by simpa using h17
 have hns : ¬ ((r.kind < 1 ∨ 7 < r.kind) ∨ r.same r.flds x (fldX r x) = false) := by
  rintro (h | h)
  ·omega
  ·rw [hsm] at h; cases h
 refine wp_region_lit (qR [1, 1] S M ?_); clear S a; intro a S
 refine nxC (wp_block (nxD (qG [1, 1] S ?_))); clear S a; intro a S
 refine nxC (st_if (t := 20) S rfl ?_ ?_)
 ·clear S; intro h20 S
  refine st_condT S rfl (nxD (qR [12, 1, 1, 1] S M ?_)); clear S a; intro a S
  refine st_fi (t := 25) S rfl ?_ ?_
  ·clear S; intro h25 S
   refine qG [0, 0, 0, 1, 1] S ?_; clear S a; intro a S
   refine nxC (wp_ret (block_ret (then_ret (end_one S rfl (res_tmp rfl) ?_))))
   refine ⟨ret_bool ?_, M.below⟩; rw [← hR]; clear S M; unfold refMay withinB
   first
    | (rw [if_pos (.inl (by omega))]; done)
    | (rw [if_pos (.inr (by simpa using h17))]; done)
    | (rw [if_neg hns, if_pos (by assumption), Bool.eq_iff_iff]; simp; done)
    | (rw [if_neg hns, if_pos (by assumption), Bool.eq_iff_iff]; simp; omega)
    | (rw [if_neg hns, if_neg (by omega), if_pos (by assumption), Bool.eq_iff_iff]; simp; done)
    | (rw [if_neg hns, if_neg (by omega), if_pos (by assumption), Bool.eq_iff_iff]; simp; omega)
    | (rw [if_neg hns, if_neg (by omega), if_neg (by omega)]; clear hns hsm h17 hR; simp_all; done)
  clear S; intro h25 S
  refine qR [12, 1, 1, 1, 1] S M ?_; clear S a; intro a S
  refine nxC (wp_ret (block_ret (then_ret (end_one S rfl (res_tmp rfl) ?_))))
  refine ⟨ret_bool ?_, M.below⟩; rw [← hR]; clear S M; unfold refMay withinB
  first
   | (rw [if_pos (.inl (by omega))]; done)
   | (rw [if_pos (.inr (by simpa using h17))]; done)
   | (rw [if_neg hns, if_pos (by assumption), Bool.eq_iff_iff]; simp; done)
   | (rw [if_neg hns, if_pos (by assumption), Bool.eq_iff_iff]; simp; omega)
   | (rw [if_neg hns, if_neg (by omega), if_pos (by assumption), Bool.eq_iff_iff]; simp; done)
   | (rw [if_neg hns, if_neg (by omega), if_pos (by assumption), Bool.eq_iff_iff]; simp; omega)
   | (rw [if_neg hns, if_neg (by omega), if_neg (by omega)]; clear hns hsm h17 hR; simp_all; done)
 clear S; intro h20 S
 refine st_condF S rfl (nxD (qG [1, 1] S ?_)); clear S a; intro a S
 refine nxC (st_if (t := 30) S rfl ?_ ?_)
 ·clear S; intro h30 S
  refine st_condT S rfl (nxD (qR [12, 1, 1, 1] S M ?_)); clear S a; intro a S
  refine st_fi (t := 35) S rfl ?_ ?_
  ·clear S; intro h35 S
   refine qG [0, 0, 0, 1, 1] S ?_; clear S a; intro a S
   refine nxC (wp_ret (block_ret (then_ret (end_one S rfl (res_tmp rfl) ?_))))
   refine ⟨ret_bool ?_, M.below⟩; rw [← hR]; clear S M; unfold refMay withinB
   first
    | (rw [if_pos (.inl (by omega))]; done)
    | (rw [if_pos (.inr (by simpa using h17))]; done)
    | (rw [if_neg hns, if_pos (by assumption), Bool.eq_iff_iff]; simp; done)
    | (rw [if_neg hns, if_pos (by assumption), Bool.eq_iff_iff]; simp; omega)
    | (rw [if_neg hns, if_neg (by omega), if_pos (by assumption), Bool.eq_iff_iff]; simp; done)
    | (rw [if_neg hns, if_neg (by omega), if_pos (by assumption), Bool.eq_iff_iff]; simp; omega)
    | (rw [if_neg hns, if_neg (by omega), if_neg (by omega)]; clear hns hsm h17 hR; simp_all; done)
  clear S; intro h35 S
  refine qR [12, 1, 1, 1, 1] S M ?_; clear S a; intro a S
  refine nxC (wp_ret (block_ret (then_ret (end_one S rfl (res_tmp rfl) ?_))))
  refine ⟨ret_bool ?_, M.below⟩; rw [← hR]; clear S M; unfold refMay withinB
  first
   | (rw [if_pos (.inl (by omega))]; done)
   | (rw [if_pos (.inr (by simpa using h17))]; done)
   | (rw [if_neg hns, if_pos (by assumption), Bool.eq_iff_iff]; simp; done)
   | (rw [if_neg hns, if_pos (by assumption), Bool.eq_iff_iff]; simp; omega)
   | (rw [if_neg hns, if_neg (by omega), if_pos (by assumption), Bool.eq_iff_iff]; simp; done)
   | (rw [if_neg hns, if_neg (by omega), if_pos (by assumption), Bool.eq_iff_iff]; simp; omega)
   | (rw [if_neg hns, if_neg (by omega), if_neg (by omega)]; clear hns hsm h17 hR; simp_all; done)
 clear S; intro h30 S
 refine st_condF S rfl (wp_skip (block_normal (then_normal (wp_seq (nxD (qG [2] S ?_)))))); clear S a; intro a S
 refine qY S (y_loadAgg (cs := [_, _, _]) S (by kernel_rfl) rfl rfl (M.cellsAt (k := 3) 0 rfl rfl)) ?_; clear S a; intro a S
 refine qQ (xs := [.tmp 41]) S (qE Tryz.func80) rfl (rNamed_any r.name _) M ?_; clear S M a; intro a w5 S hK M
 refine qG [1, 1] S ?_; clear S a; intro a S
 refine st_split (t := 44) S rfl ?_ ?_
 ·clear S; intro h44 S
  refine qG [0, 0, 0, 0, 1, 1, 0, 0, 0, 0, 0, 0, 1] S ?_; clear S a; intro a S
  replace S := S.keep [0, 1, 2, 17, 19, 20, 30, 57]
  refine nxC (st_condT S rfl (nxD (qG [1] S ?_))); clear S a; intro a S
  refine nxC (wp_ret (then_ret (end_one S rfl (res_tmp rfl) ?_)))
  refine ⟨ret_bool ?_, M.below⟩; rw [← hR]; clear S M; unfold refMay withinB
  first
   | (rw [if_pos (.inl (by omega))]; done)
   | (rw [if_pos (.inr (by simpa using h17))]; done)
   | (rw [if_neg hns, if_pos (by assumption), Bool.eq_iff_iff]; simp; done)
   | (rw [if_neg hns, if_pos (by assumption), Bool.eq_iff_iff]; simp; omega)
   | (rw [if_neg hns, if_neg (by omega), if_pos (by assumption), Bool.eq_iff_iff]; simp; done)
   | (rw [if_neg hns, if_neg (by omega), if_pos (by assumption), Bool.eq_iff_iff]; simp; omega)
   | (rw [if_neg hns, if_neg (by omega), if_neg (by omega)]; clear hns hsm h17 hR; simp_all; done)
 clear S; intro h44 S
 refine qR [6, 1] S M ?_; clear S a; intro a S
 refine qQ (xs := [.tmp 46]) S (qE Tryz.func81) rfl (rWritten_any _ x _ (M.argW hv)) M ?_; clear S M a; intro a w6 S hK M
 refine qG [1, 1, 1] S ?_; clear S a; intro a S
 refine st_split (t := 50) S rfl ?_ ?_
 ·clear S; intro h50 S
  refine qG [0, 0, 0, 0, 0, 0, 1] S ?_; clear S a; intro a S
  replace S := S.keep [0, 1, 2, 17, 19, 20, 30, 57]
  refine nxC (st_condT S rfl (nxD (qG [1] S ?_))); clear S a; intro a S
  refine nxC (wp_ret (then_ret (end_one S rfl (res_tmp rfl) ?_)))
  refine ⟨ret_bool ?_, M.below⟩; rw [← hR]; clear S M; unfold refMay withinB
  first
   | (rw [if_pos (.inl (by omega))]; done)
   | (rw [if_pos (.inr (by simpa using h17))]; done)
   | (rw [if_neg hns, if_pos (by assumption), Bool.eq_iff_iff]; simp; done)
   | (rw [if_neg hns, if_pos (by assumption), Bool.eq_iff_iff]; simp; omega)
   | (rw [if_neg hns, if_neg (by omega), if_pos (by assumption), Bool.eq_iff_iff]; simp; done)
   | (rw [if_neg hns, if_neg (by omega), if_pos (by assumption), Bool.eq_iff_iff]; simp; omega)
   | (rw [if_neg hns, if_neg (by omega), if_neg (by omega)]; clear hns hsm h17 hR; simp_all; done)
 clear S; intro h50 S
 refine qR [7, 1, 8, 1] S M ?_; clear S a; intro a S
 refine qQ (xs := [.tmp 52, .tmp 54]) S (qE Tryz.func82) rfl (given_any _ _ _) M ?_; clear S M a; intro a w7 S hK M
 refine qG [1, 1] S ?_; clear S a; intro a S
 replace S := S.keep [0, 1, 2, 17, 19, 20, 30, 57]
 refine nxC (st_split (t := 57) S rfl ?_ ?_)
 ·clear S; intro h57 S
  refine st_condT S rfl (nxD (qG [1] S ?_)); clear S a; intro a S
  refine nxC (wp_ret (then_ret (end_one S rfl (res_tmp rfl) ?_)))
  refine ⟨ret_bool ?_, M.below⟩; rw [← hR]; clear S M; unfold refMay withinB
  first
   | (rw [if_pos (.inl (by omega))]; done)
   | (rw [if_pos (.inr (by simpa using h17))]; done)
   | (rw [if_neg hns, if_pos (by assumption), Bool.eq_iff_iff]; simp; done)
   | (rw [if_neg hns, if_pos (by assumption), Bool.eq_iff_iff]; simp; omega)
   | (rw [if_neg hns, if_neg (by omega), if_pos (by assumption), Bool.eq_iff_iff]; simp; done)
   | (rw [if_neg hns, if_neg (by omega), if_pos (by assumption), Bool.eq_iff_iff]; simp; omega)
   | (rw [if_neg hns, if_neg (by omega), if_neg (by omega)]; clear hns hsm h17 hR; simp_all; done)
 clear S; intro h57 S
 refine st_condF S rfl (wp_skip (nxE (qR [1, 1, 1, 1] S M ?_))); clear S a; intro a S
 refine st_if (t := 61) S rfl ?_ ?_
 ·clear S; intro h61 S
  refine qG [0, 0, 0, 0, 0, 0, 0, 0, 1, 1] S ?_; clear S a; intro a S
  replace S := S.keep [0, 1, 17, 19, 20, 30, 57, 2]
  refine nxC (wp_ret (end_one S rfl (res_tmp rfl) ?_))
  refine ⟨ret_bool ?_, M.below⟩; rw [← hR]; clear S M; unfold refMay withinB
  first
   | (rw [if_pos (.inl (by omega))]; done)
   | (rw [if_pos (.inr (by simpa using h17))]; done)
   | (rw [if_neg hns, if_pos (by assumption), Bool.eq_iff_iff]; simp; done)
   | (rw [if_neg hns, if_pos (by assumption), Bool.eq_iff_iff]; simp; omega)
   | (rw [if_neg hns, if_neg (by omega), if_pos (by assumption), Bool.eq_iff_iff]; simp; done)
   | (rw [if_neg hns, if_neg (by omega), if_pos (by assumption), Bool.eq_iff_iff]; simp; omega)
   | (rw [if_neg hns, if_neg (by omega), if_neg (by omega)]; clear hns hsm h17 hR; simp_all; done)
 clear S; intro h61 S
 refine qR [9, 1] S M ?_; clear S a; intro a S
 refine qQ (xs := [.tmp 63]) S (qE Tryz.func83) rfl (rShards_any _ _ hs) M ?_; clear S M a; intro a w8 S hK M
 refine qG [1] S ?_; clear S a; intro a S
 refine st_tils (t := 65) S rfl ?_ ?_
 ·clear S; intro h65 S
  refine qG [0, 0, 0, 1, 1, 1] S ?_; clear S a; intro a S
  replace S := S.keep [0, 1, 17, 19, 20, 30, 57, 2]
  refine nxC (wp_ret (end_one S rfl (res_tmp rfl) ?_))
  refine ⟨ret_bool ?_, M.below⟩; rw [← hR]; clear S M; unfold refMay withinB
  first
   | (rw [if_pos (.inl (by omega))]; done)
   | (rw [if_pos (.inr (by simpa using h17))]; done)
   | (rw [if_neg hns, if_pos (by assumption), Bool.eq_iff_iff]; simp; done)
   | (rw [if_neg hns, if_pos (by assumption), Bool.eq_iff_iff]; simp; omega)
   | (rw [if_neg hns, if_neg (by omega), if_pos (by assumption), Bool.eq_iff_iff]; simp; done)
   | (rw [if_neg hns, if_neg (by omega), if_pos (by assumption), Bool.eq_iff_iff]; simp; omega)
   | (rw [if_neg hns, if_neg (by omega), if_neg (by omega)]; clear hns hsm h17 hR; simp_all; done)
 clear S; intro h65 S
 refine qG [10] S ?_; clear S a; intro a S
 refine qY S (y_loadAgg (cs := [_, _]) S (by kernel_rfl) rfl rfl (M.cellsAt (k := 2) 0 rfl rfl)) ?_; clear S a; intro a S
 refine qQ (xs := [.tmp 67]) S (qE Tryz.func84) rfl (rChanged_any _ _ _) M ?_; clear S M a; intro a w9 S hK M
 refine qG [1, 1, 1] S ?_; clear S a; intro a S
 replace S := S.keep [0, 1, 17, 19, 20, 30, 57, 2]
 refine nxC (wp_ret (end_one S rfl (res_tmp rfl) ?_))
 refine ⟨ret_bool ?_, M.below⟩; rw [← hR]; clear S M; unfold refMay withinB
 first
  | (rw [if_pos (.inl (by omega))]; done)
  | (rw [if_pos (.inr (by simpa using h17))]; done)
  | (rw [if_neg hns, if_pos (by assumption), Bool.eq_iff_iff]; simp; done)
  | (rw [if_neg hns, if_pos (by assumption), Bool.eq_iff_iff]; simp; omega)
  | (rw [if_neg hns, if_neg (by omega), if_pos (by assumption), Bool.eq_iff_iff]; simp; done)
  | (rw [if_neg hns, if_neg (by omega), if_pos (by assumption), Bool.eq_iff_iff]; simp; omega)
  | (rw [if_neg hns, if_neg (by omega), if_neg (by omega)]; clear hns hsm h17 hR; simp_all; done)
end Go.Proofs.YtodfphphidhjbaaGreat

namespace Go.Proofs.YtodfphphidhjbaaGreat
open Go.RowKit Go.Sort
abbrev byE (lo hi : Nat) (v : Value) (bs : List UInt8) : Ent := rowE lo hi 5 1 v bs.length (bcells bs)
end Go.Proofs.YtodfphphidhjbaaGreat

namespace Go.Proofs.YtodfphphidhjbaaGreat
open Go.RowKit Go.Sort
end Go.Proofs.YtodfphphidhjbaaGreat

