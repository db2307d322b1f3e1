/-
  What ShardAgain rests on, part 8.
-/
import Derived.Test.YtndabhdepjnbcaaGreatP7
namespace Go.Proofs.YtndabhdepjnbcaaGreat
open Go.RowKit Go.Sort
theorem blk_cell11 {w : World} {b i : Nat} {c : Array Value} {t : TypeId} {v : Value} (B : Blk w b c t) (h : c[i]? = some v) : w.cell? ⟨b, i, none⟩ = some v := by rw [B.cells]; exact h
theorem same08_any (va vb : Value) (x y : List Wr) (w : World) (hx : Ws 0 w.heap.size w va x) (hy : Ws 0 w.heap.size w vb y) : Calls Tryz.prog 37 #[va, vb] w fun e w' => e = .returned (.bool (eqWs x y)) ∧ Below w.heap.size w w' := by
 have M := Mem.start w
 refine calls_enter Tryz.func37 rfl 8 rfl rfl ?_; intro a S
 refine nxD (qG [1] S ?_); clear S a; intro a S
 refine nxA (qG [1, 1] S ?_); clear S a; intro a S
 refine qQ (xs := [.tmp 5, .tmp 6]) S (qE Tryz.func62) rfl (sameWrites_any _ _ x y _ (M.argW hx) (M.argW hy)) M ?_; clear S M a; intro a w1 S hK M
 refine qG [1] S ?_; clear S a; intro a S
 refine nxC (wp_ret (end_one S rfl (res_tmp rfl) ?_))
 exact ⟨rfl, M.below⟩
set_option maxHeartbeats 1000000 in
set_option maxRecDepth 10000 in
theorem same11_any (x : Su) (c1 n1 k1 c2 n2 k2 : Int) (h : List V8) (hh : h.length = 32) (va vb : Option Addr) (vc vd : Nat) (cs ct : List Value) (ps : Pl) (w : World) (hv : PrsC cs 0 w.heap.size w (.slice va ps.length vc) ps) (hu : PrsC ct 0 w.heap.size w (.slice vb ps.length vd) ps) :
 Calls Tryz.prog 23 #[.agg ((stX x c1 n1 h k1).cellsL (.slice va ps.length vc)).toArray, .agg ((stX x c2 n2 h k2).cellsL (.slice vb ps.length vd)).toArray] w fun e w' => e = .returned (.bool true) ∧ Below w.heap.size w w' := by
 have M := Mem.start w
 have h1 := stX_ok x c1 n1 k1 hh
 have h2 := stX_ok x c2 n2 k2 hh
 have hl := hv.1.2.1
 unfold maxLen at hl
 refine calls_enter Tryz.func23 rfl 73 rfl rfl ?_; intro a S
 refine nxD (st_box S M rfl rfl rfl _ rfl ?_); clear S M a; intro a w1 bX S M hB
 refine st_box S M rfl rfl rfl _ rfl ?_; clear S M a; intro a w2 bY S M hB
 refine qG [1] S ?_; clear S a; intro a S
 refine nxC (wp_seq (nxD (qG [1] S ?_))); clear S a; intro a S
 refine qY S (y_loadAgg (cs := [_, _, _, _, _, _, _, _, _, _, _, _, _]) S (by kernel_rfl) rfl rfl (M.cellsAt (k := 13) 1 rfl rfl)) ?_; clear S a; intro a S
 refine qG [1] S ?_; clear S a; intro a S
 refine qY S (y_loadAgg (cs := [_, _, _, _, _, _, _, _, _, _, _, _, _]) S (by kernel_rfl) rfl rfl (M.cellsAt (k := 13) 0 rfl rfl)) ?_; clear S a; intro a S
 refine qY S (y_neqG (by kernel_rfl) S rfl rfl (fun w => equalSu 9997 x w)) ?_; clear S a; intro a S
 refine qG [1] S ?_; clear S a; intro a S
 refine st_if (t := 13) S rfl ?_ ?_
 ·clear S; intro h13 S
  simp at h13
 clear S; intro h13 S
 refine qG [16] S ?_; clear S a; intro a S
 refine qY S (y_loadAgg (k := 256) S (by kernel_rfl) rfl (by with_reducible first | exact St.len h1 _ | exact St.len h2 _ | exact St.pre_len h1 | exact St.pre_len h2 | exact h1.hl | exact h2.hl) (M.cellsMid 1 rfl (by with_reducible first | exact St.len h1 _ | exact St.len h2 _ | exact St.pre_len h1 | exact St.pre_len h2 | exact h1.hl | exact h2.hl))) ?_; clear S a; intro a S
 refine qG [16] S ?_; clear S a; intro a S
 refine qY S (y_loadAgg (k := 256) S (by kernel_rfl) rfl (by with_reducible first | exact St.len h1 _ | exact St.len h2 _ | exact St.pre_len h1 | exact St.pre_len h2 | exact h1.hl | exact h2.hl) (M.cellsMid 0 rfl (by with_reducible first | exact St.len h1 _ | exact St.len h2 _ | exact St.pre_len h1 | exact St.pre_len h2 | exact h1.hl | exact h2.hl))) ?_; clear S a; intro a S
 refine qY S (y_neqG (by kernel_rfl) S rfl rfl (fun w => equalHs 9997 h hh w)) ?_; clear S a; intro a S
 refine qG [1, 1] S ?_; clear S a; intro a S
 refine st_if (t := 20) S rfl ?_ ?_
 ·clear S; intro h20 S
  simp at h20
 clear S; intro h20 S
 refine qG [272] S ?_; clear S a; intro a S
 refine qY S (y_load S (by kernel_rfl) rfl (M.cell 1 rfl (St.doubt h1 _))) ?_; clear S a; intro a S
 refine qY S (y_lenR (E := 75) S rfl ((M.prs hv).1) (by kernel_rfl)) ?_; clear S a; intro a S
 refine qG [272] S ?_; clear S a; intro a S
 refine qY S (y_load S (by kernel_rfl) rfl (M.cell 0 rfl (St.doubt h2 _))) ?_; clear S a; intro a S
 refine qY S (y_lenR (E := 75) S rfl ((M.prs hu).1) (by kernel_rfl)) ?_; clear S a; intro a S
 refine qG [1, 1] S ?_; clear S a; intro a S
 replace S := S.keep [0, 1, 2, 3, 4, 28]
 refine nxC (st_if (t := 28) S rfl ?_ ?_)
 ·clear S; intro h28 S
  all_goals (first | exact absurd h28 (by simp) | (simp at h28; done))
 clear S; intro h28 S
 refine st_condF S rfl (wp_skip (then_normal (wp_seq (nxD (qG [1] S ?_))))); clear S a; intro a S
 refine nxC (wp_block (wp_loop_g (fun m a w' => ∃ (i : Nat), i ≤ ps.length ∧ m = ps.length - i ∧ Sees 73 a [(2, .pointer (some ⟨bX, 0, none⟩)), (3, .pointer (some ⟨bY, 0, none⟩)), (5, .int .i64 (i : Int))] ∧ Mem w w' [.blk bY ((stX x c2 n2 h k2).cellsL (.slice vb ps.length vd)).toArray 57, .blk bX ((stX x c1 n1 h k1).cellsL (.slice va ps.length vc)).toArray 57]) (ps.length) ?_ ?_))
 ·skip
  exact ⟨0, Nat.zero_le _, rfl, S.sub _ rfl, M⟩
 clear S M a; intro m a wl
 rintro ⟨i, hi, rfl, S, M⟩
 refine wp_seq (nxD (qG [1, 272] S ?_)); clear S a; intro a S
 refine qY S (y_load S (by kernel_rfl) rfl (M.cell 1 rfl (St.doubt h1 _))) ?_; clear S a; intro a S
 refine qY S (y_lenR (E := 75) S rfl ((M.prs hv).1) (by kernel_rfl)) ?_; clear S a; intro a S
 refine qG [1] S ?_; clear S a; intro a S
 refine nxC (st_fi (t := 33) S rfl ?_ ?_)
 ·clear S; intro h33 S
  refine st_condF S rfl (wp_exit (then_exit (then_exit (block_hit (nxE (qG [1] S ?_)))))); clear S a; intro a S
  refine nxC (wp_ret (end_one S rfl (res_tmp rfl) ?_))
  exact ⟨rfl, M.below⟩
 clear S; intro h33 S
 refine st_condT S rfl (wp_skip (then_normal (wp_seq (wp_block (wp_cut (fun a w' => ∃ (q : Pr × List Wr) (xa ya : Value) (bA bB : Nat), Ws 0 w.heap.size w xa q.2 ∧ Ws 0 w.heap.size w ya q.2 ∧ Sees 73 a [(2, .pointer (some ⟨bX, 0, none⟩)), (3, .pointer (some ⟨bY, 0, none⟩)), (5, .int .i64 (i : Int)), (6, .pointer (some ⟨bA, 0, none⟩)), (7, .pointer (some ⟨bB, 0, none⟩))] ∧ Mem w w' [.blk bA (q.1.cellsL xa).toArray 75, .blk bB (q.1.cellsL ya).toArray 75, .blk bY ((stX x c2 n2 h k2).cellsL (.slice vb ps.length vd)).toArray 57, .blk bX ((stX x c1 n1 h k1).cellsL (.slice va ps.length vc)).toArray 57]) ?_ ?_)))))
 ·skip
  obtain ⟨q, hq⟩ : ∃ q, ps[i]? = some q := ⟨_, List.getElem?_eq_getElem (by omega)⟩
  obtain ⟨xa, xc, hrowp, hwp⟩ := hv.sl hq
  obtain ⟨ya, yc, hrowq, hwq⟩ := hu.sl hq
  refine wp_regionKC (C := fun W => Blk W bY ((stX x c2 n2 h k2).cellsL (.slice vb ps.length vd)).toArray 57 ∧ PrsC ct 0 w.heap.size W (.slice vb ps.length vd) ps) [12, 13] #[false, false, false, false, false, false, false, false, false, false, false, false, false, false] rfl M (by kernel_rfl) ?_; clear M; intro w3 M; have hC := And.intro (M.blk 0 rfl) (M.prs hu)
  refine kc_readC 0 S rfl hC (fun w _ => y_fieldAddr (k := 271) S (by kernel_rfl) rfl) ?_; clear S a; intro a S
  refine kc_read 1 S rfl hC (fun w hW => have M := M.grow hW; y_load S (by kernel_rfl) rfl (M.cell 1 rfl (St.doubt h1 _))) ?_; clear S a; intro a S
  refine kc_readC 2 S rfl hC (fun w _ => y_move S rfl) ?_; clear S a; intro a S
  refine kc_read 3 S rfl hC (fun w hW => have M := M.grow hW; y_indexR (e := 75) (sz := 6) S (by kernel_rfl) rfl ((M.prs hv).1) rfl (by first | omega | (simp; done) | (simp; omega))) ?_; clear S a; intro a S
  try simp only [Int.toNat_natCast, Nat.mul_one, Nat.zero_add] at S
  refine kc_read 4 S rfl hC (fun w hW => have M := M.grow hW; y_loadAgg S (by kernel_rfl) rfl rfl ((M.prs hv).1.at_.row (i := i) hrowp rfl)) ?_; clear S a; intro a S
  refine kc_readC 5 S rfl hC (fun w _ => y_fieldAddr (k := 271) S (by kernel_rfl) rfl) ?_; clear S a; intro a S
  refine kc_readC 6 S rfl hC (fun w hC => y_load S (by kernel_rfl) rfl (blk_cell11 hC.1 (St.doubt h2 _))) ?_; clear S a; intro a S
  refine kc_readC 7 S rfl hC (fun w _ => y_move S rfl) ?_; clear S a; intro a S
  refine kc_readC 8 S rfl hC (fun w hC => y_indexR (e := 75) (sz := 6) S (by kernel_rfl) rfl (hC.2.1) rfl (by first | omega | (simp; done) | (simp; omega))) ?_; clear S a; intro a S
  try simp only [Int.toNat_natCast, Nat.mul_one, Nat.zero_add] at S
  refine kc_readC 9 S rfl hC (fun w hC => y_loadAgg (cs := [_, _, _, _, _, _]) S (by kernel_rfl) rfl rfl (show CellsAt _ _ _ (q.1.cellsL (.slice ya q.2.length yc)) from hC.2.1.at_.row (i := i) hrowq rfl)) ?_; clear S a; intro a S
  refine kc_two 10 11 rfl rfl (by kernel_rfl) ?_ ?_
  ·skip
   refine st_alloc S M rfl rfl #[.int .i64 0, .int .i64 0, .int .i64 0, .slice none 0 0, .int .i64 0, .int .i64 0] (by kernel_rfl) ?_; clear S M a; intro a w4 bA S M hB
   replace hC := And.intro (M.blk 1 rfl) (M.prs hu)
   refine wpList_nil ?_; refine then_normal ?_; refine ⟨fun _ => hB, hC, ?_⟩
   refine kc_one 11 rfl (by kernel_rfl) ?_
   refine st_alloc S M rfl rfl #[.int .i64 0, .int .i64 0, .int .i64 0, .slice none 0 0, .int .i64 0, .int .i64 0] (by kernel_rfl) ?_; clear S M a; intro a w5 bB S M hB
   replace hC := And.intro (M.blk 2 rfl) (M.prs hu)
   refine wpList_nil ?_; refine then_normal ?_; refine ⟨fun _ => hB, hC, ?_⟩
   refine kc_one 12 rfl (by kernel_rfl) ?_
   refine qS (sz := 6) (us := [_, _, _, _, _, _]) S M 1 ?_; clear M; intro w6 M
   replace hC := And.intro (M.blk 2 rfl) (M.prs hu)
   refine wpList_nil ?_; refine then_normal ?_; refine ⟨fun h => absurd h (by decide), hC, ?_⟩
   refine kc_one 13 rfl (by kernel_rfl) ?_
   refine qS (sz := 6) (us := [_, _, _, _, _, _]) S M 0 ?_; clear M; intro w7 M
   replace hC := And.intro (M.blk 2 rfl) (M.prs hu)
   refine wpList_nil ?_; refine then_normal ?_; refine ⟨fun h => absurd h (by decide), hC, ?_⟩
   refine kc_end (by kernel_rfl) ?_
   replace S := S.keep [2, 3, 5, 33, 6, 7]
   refine then_normal ?_
   skip
   replace M := M.front 1 rfl
   simp only [List.eraseIdx_cons_succ, List.eraseIdx_cons_zero] at M
   exact ⟨q, _, _, bA, bB, hwp, hwq, S.sub _ rfl, M⟩
  ·skip
   refine st_alloc S M rfl rfl #[.int .i64 0, .int .i64 0, .int .i64 0, .slice none 0 0, .int .i64 0, .int .i64 0] (by kernel_rfl) ?_; clear S M a; intro a w8 bB S M hB
   replace hC := And.intro (M.blk 1 rfl) (M.prs hu)
   refine wpList_nil ?_; refine then_normal ?_; refine ⟨fun _ => hB, hC, ?_⟩
   refine kc_one 10 rfl (by kernel_rfl) ?_
   refine st_alloc S M rfl rfl #[.int .i64 0, .int .i64 0, .int .i64 0, .slice none 0 0, .int .i64 0, .int .i64 0] (by kernel_rfl) ?_; clear S M a; intro a w9 bA S M hB
   replace hC := And.intro (M.blk 2 rfl) (M.prs hu)
   refine wpList_nil ?_; refine then_normal ?_; refine ⟨fun _ => hB, hC, ?_⟩
   refine kc_one 12 rfl (by kernel_rfl) ?_
   refine qS (sz := 6) (us := [_, _, _, _, _, _]) S M 0 ?_; clear M; intro w10 M
   replace hC := And.intro (M.blk 2 rfl) (M.prs hu)
   refine wpList_nil ?_; refine then_normal ?_; refine ⟨fun h => absurd h (by decide), hC, ?_⟩
   refine kc_one 13 rfl (by kernel_rfl) ?_
   refine qS (sz := 6) (us := [_, _, _, _, _, _]) S M 1 ?_; clear M; intro w11 M
   replace hC := And.intro (M.blk 2 rfl) (M.prs hu)
   refine wpList_nil ?_; refine then_normal ?_; refine ⟨fun h => absurd h (by decide), hC, ?_⟩
   refine kc_end (by kernel_rfl) ?_
   replace S := S.keep [2, 3, 5, 33, 7, 6]
   refine then_normal ?_
   skip
   replace M := M.ord [1, 1] (by simp only [ordO, oG, oS, oE, oZ, oB] <;> rfl)
   exact ⟨q, _, _, bA, bB, hwp, hwq, S.sub _ rfl, M⟩
 clear S a M; intro a wc
 rintro ⟨q, xa, ya, bA, bB, hwp, hwq, S, M⟩
 refine nxD (qG [1] S ?_); clear S a; intro a S
 refine qY S (y_loadAgg (cs := [_, _, _]) S (by kernel_rfl) rfl rfl (M.cellsAt (k := 3) 0 rfl rfl)) ?_; clear S a; intro a S
 refine qG [1] S ?_; clear S a; intro a S
 refine qY S (y_loadAgg (cs := [_, _, _]) S (by kernel_rfl) rfl rfl (M.cellsAt (k := 3) 1 rfl rfl)) ?_; clear S a; intro a S
 refine qY S (y_neqG (by kernel_rfl) S rfl rfl (fun w => equalNm 9998 q.1.name q.1.name w)) ?_; clear S a; intro a S
 refine qG [1] S ?_; clear S a; intro a S
 refine st_if (t := 51) S rfl ?_ ?_
 ·clear S; intro h51 S
  simp [Nm.eqb_self] at h51
 clear S; intro h51 S
 refine qR [5, 1, 5, 2, 1, 1, 1] S M ?_; clear S a; intro a S
 refine st_if (t := 58) S rfl ?_ ?_
 ·clear S; intro h58 S
  simp at h58
 clear S; intro h58 S
 refine qR [6, 1, 6, 2, 1, 1, 1] S M ?_; clear S a; intro a S
 refine st_if (t := 65) S rfl ?_ ?_
 ·clear S; intro h65 S
  simp at h65
 clear S; intro h65 S
 refine qR [4, 1, 4, 2] S M ?_; clear S a; intro a S
 refine qQ (xs := [.tmp 67, .tmp 69]) S (qE Tryz.func37) rfl (same08_any _ _ q.2 q.2 _ (M.argW hwp) (M.argW hwq)) M ?_; clear S M a; intro a w12 S hK M
 refine qG [1, 1] S ?_; clear S a; intro a S
 replace S := S.keep [2, 3, 5, 6, 7, 72]
 refine nxC (st_if (t := 72) S rfl ?_ ?_)
 ·clear S; intro h72 S
  all_goals (exfalso; first | (rw [eqWs_refl] at h72; cases h72) | (simp [Nm.eqb_self, eqWs_refl] at h72; done))
 clear S; intro h72 S
 refine st_condF S rfl (wp_skip (block_normal (nxF (qG [1] S ?_)))); clear S a; intro a S
 (first | refine qY S (y_addN S rfl rfl (by omega)) ?_ | refine qY S (y_int S rfl rfl rfl) ?_); clear S a; intro a S
 refine qG [1] S ?_; clear S a; intro a S
 refine nxC ?_
 skip
 replace M := M.drop 0
 simp only [List.eraseIdx_cons_succ, List.eraseIdx_cons_zero] at M
 replace M := M.drop 0
 simp only [List.eraseIdx_cons_succ, List.eraseIdx_cons_zero] at M
 exact ⟨ps.length - (i + 1), by omega, i + 1, by omega, rfl, S.sub _ rfl, M⟩
end Go.Proofs.YtndabhdepjnbcaaGreat

namespace Go.Proofs.YtndabhdepjnbcaaGreat
open Go.RowKit Go.Sort
structure JLog (S : DS) (t inc : Int) (put : List (List UInt8)) (c : Nat) : Prop where
 inv : JInv S t (framesL inc t put) c
 ok : ∀ p ∈ beginsL t put, cutOk p.2 p.1 inc
 up : S.down = false
 small : ∀ k, (S.cache k).length ≤ (framesL inc t put).length
abbrev JLog.nx (t inc : Int) (put : List (List UInt8)) : Int := t + ((framesL inc t put).length : Nat)
def PutV (w0 : World) (pvs : List Value) (put : List (List UInt8)) : Prop := pvs.length = put.length ∧ ∀ (i : Nat) x bs, pvs[i]? = some x → put[i]? = some bs → Bs 0 w0.heap.size w0 x bs
structure ArgB (w : World) (v : Value) (bss : List (List UInt8)) : Prop where
 rows : BRows w v bss
end Go.Proofs.YtndabhdepjnbcaaGreat

namespace Go.Proofs.YtndabhdepjnbcaaGreat
open Go.RowKit Go.Sort
theorem framesL_read {inc : Int} : ∀ {t : Int} {put : List (List UInt8)}, (∀ p ∈ beginsL t put, cutOk p.2 p.1 inc) → ∀ {m : Nat} {x : FrB}, (framesL inc t put)[m]? = some x → readF (secB x) = some x
 | t, [], _, m, x, h => by simp [framesL] at h
 | t, b :: put, hok, m, x, h => by
   rw [framesL] at h
   rcases Nat.lt_or_ge m (nOf b.length) with h1 | h1
   ·rw [List.getElem?_append_left (by rw [cutF_length]; exact h1)] at h
    have e : (cutF b t inc)[m]? = some (frOf b t inc m) := by unfold cutF; simp [h1]
    rw [e] at h; obtain rfl := Option.some.inj h
    exact frOf_read (hok (t, b) (by simp [beginsL])) h1
   ·rw [List.getElem?_append_right (by rw [cutF_length]; exact h1)] at h
    exact framesL_read (fun p hp => hok p (by rw [beginsL]; exact List.mem_cons_of_mem _ hp)) h
end Go.Proofs.YtndabhdepjnbcaaGreat

namespace Go.Proofs.YtndabhdepjnbcaaGreat
open Go.RowKit Go.Sort
theorem sv_homes (h : List V8) (ps : Pl) (x : Su) (S : DS) (n : Int) : ∀ j, j ≤ 8 → ∃ S1, sv h ps x j (S, n) = (S1, n) ∧ S1.dur = S.dur ∧ (∀ k : Int, (k < 26 ∨ 26 + (j : Int) ≤ k) → S1.cache k = S.cache k) ∧ ∀ i, i < j → (S1.cache (26 + (i : Int))).getLast? = some (pad64 (homeB (homeAt h i)))
 | 0, _ => ⟨S, rfl, rfl, fun _ _ => rfl, fun i hi => by omega⟩
 | j + 1, hj => by
   obtain ⟨S1, e1, e2, e3, e4⟩ := sv_homes h ps x S n j (by omega)
   refine ⟨S1.write (26 + (j : Int)) (pad64 (homeB (homeAt h j))), ?_, e2, fun k hk => ?_, fun i hi => ?_⟩
   ·rw [sv, e1, sv1_put (by omega)]; rfl
   ·show (if k = 26 + (j : Int) then _ else S1.cache k) = _
    rw [if_neg (by omega)]; exact e3 k (by omega)
   ·show (if 26 + (i : Int) = 26 + (j : Int) then S1.cache (26 + (j : Int)) ++ [pad64 (homeB (homeAt h j))] else S1.cache (26 + (i : Int))).getLast? = _
    rcases Nat.lt_or_ge i j with h1 | h1
    ·rw [if_neg (by omega)]; exact e4 i h1
    ·obtain rfl : i = j := by omega
     rw [if_pos rfl, List.getLast?_append]; rfl
theorem frames_wt (inc : Int) : ∀ (ps : Pl) (q : Int), (framesL inc q (ps.map encQ)).length = wtP ps
 | [], _ => rfl
 | p :: ps, q => by
   show (cutF (encQ p) q inc ++ framesL inc _ (ps.map encQ)).length = secQ p + wtP ps
   rw [List.length_append, cutF_length, frames_wt inc ps]; rfl
theorem sv_recs (h : List V8) (ps : Pl) (x : Su) (p : DS × Int) (T : DS) (n : Int) (e9 : sv h ps x 9 p = (T, n)) : ∀ i, i ≤ ps.length → sv h ps x (9 + i) p = (putF T (framesL x.inc n ((ps.take i).map encQ)), n + (wtP (ps.take i) : Nat))
 | 0, _ => by
   show sv h ps x 9 p = _
   rw [e9]
   show _ = (T, n + ((0 : Nat) : Int))
   simp
 | i + 1, hi => by
   obtain ⟨q, hq⟩ : ∃ q, ps[i]? = some q := ⟨_, List.getElem?_eq_getElem (by omega)⟩
   have ih := sv_recs h ps x p T n e9 i (by omega)
   show sv1 h ps x (9 + i) (sv h ps x (9 + i) p) = _
   rw [ih, sv1_app hq, wtP_take hq]
   have e : ps.take (i + 1) = ps.take i ++ [q] := by rw [List.take_add_one, hq]; rfl
   rw [e, List.map_append, framesL_append, frames_wt, putF_append]
   show (putF _ (cutF (encQ q) (n + (wtP (ps.take i) : Nat)) x.inc), n + (wtP (ps.take i) : Nat) + (secQ q : Nat)) = (putF _ (cutF (encQ q) (n + (wtP (ps.take i) : Nat)) x.inc ++ []), _)
   rw [List.append_nil]
   congr 1
   omega
theorem sv_all (h : List V8) (ps : Pl) (x : Su) (S : DS) (n : Int) : ∃ S1 : DS, S1.dur = S.dur ∧ (∀ k : Int, k < 26 → S1.cache k = S.cache k) ∧ (∀ i : Nat, i < 8 → (S1.cache (26 + (i : Int))).getLast? = some (pad64 (homeB (homeAt h i)))) ∧
 (sv h ps x (12 + ps.length) (S, n)).1 = (((putF S1.flush (framesL x.inc n (ps.map encQ))).flush).write (x.gen % 2) (supS x)).flush := by
 obtain ⟨S1, e1, e2, e3, e4⟩ := sv_homes h ps x S n 8 (Nat.le_refl _)
 refine ⟨S1, e2, fun k hk => e3 k (.inl hk), e4, ?_⟩
 have e9 : sv h ps x 9 (S, n) = (S1.flush, n) := by
  show sv1 h ps x 8 (sv h ps x 8 (S, n)) = _
  rw [e1, sv1_fl (.inl rfl)]
 have eR := sv_recs h ps x (S, n) S1.flush n e9 ps.length (Nat.le_refl _)
 rw [List.take_length] at eR
 rw [show 12 + ps.length = (9 + ps.length) + 1 + 1 + 1 by omega]
 rw [sv, sv, sv, eR, sv1_fl (.inr (.inl rfl)), show 9 + ps.length + 1 = 10 + ps.length by omega, sv1_sup, sv1_fl (.inr (.inr (by omega)))]
theorem begins_ok {inc : Int} (hi : 0 ≤ inc ∧ inc ≤ 1048576) : ∀ (ps : Pl) (q : Int), (∀ p ∈ ps, mayQ p) → 1 ≤ q → q + (wtP ps : Nat) ≤ 1099511627776 → ∀ p ∈ beginsL q (ps.map encQ), cutOk p.2 p.1 inc
 | [], _, _, _, _ => fun p hp => by cases hp
 | r :: ps, q, hm, h1, h2 => by
   have hr := hm r (List.mem_cons_self ..)
   have hl : 1 ≤ (encQ r).length ∧ (encQ r).length ≤ 90 := enc_len hr
   have e : wtP (r :: ps) = secQ r + wtP ps := rfl
   have hs := secQ_le hr
   have es : secQ r = nOf (encQ r).length := rfl
   rw [e] at h2
   intro p hp
   rcases List.mem_cons.1 (show p ∈ (q, encQ r) :: beginsL (q + (nOf (encQ r).length : Nat)) (ps.map encQ) from hp) with rfl | hp
   ·exact ⟨fun e0 => by rw [show encQ r = [] from e0] at hl; simp at hl, ⟨h1, by omega⟩, hi, hl.2, by show q + (nOf (encQ r).length : Nat) - 1 ≤ _; omega⟩
   ·exact begins_ok hi ps _ (fun p hp => hm p (List.mem_cons_of_mem _ hp)) (by omega) (by omega) p hp
theorem StD.save {S : DS} {s : Sh} {y : Su} {h0 : List V8} {l : Rl} {c : Nat} {noes : List Nm} {N : Int} (h : StD S s y h0 l c noes) (hI : ShI S s N) : ∃ c2, StD (s.saveD S) s.save (ckSu s.x s.n) s.h (prRl s.ps) c2 [] := by
 obtain ⟨S1, e1, e2, e3, e4⟩ := sv_all s.h s.ps (ckSu s.x s.n) S s.n
 have hmay := Sh.save_may hI
 have hlg := hI.lg; unfold mayL at hlg
 have hnx := hI.nx; have hfew := hI.few; have hroom := hI.room; have hw8 := hI.w8
 have hsx := hI.may
 have hhn := h.hn
 have hgen : (ckSu s.x s.n).gen = y.gen + 1 := by
  have := congrArg Su.gen h.hx
  show s.x.gen + 1 = _; rw [this]
 obtain ⟨X, hX⟩ : ∃ X, framesL (ckSu s.x s.n).inc s.n (s.ps.map encQ) = X := ⟨_, rfl⟩
 have hXl : X.length = wtP s.ps := by rw [← hX]; exact frames_wt _ _ _
 rw [hX] at e4
 obtain ⟨T, hT⟩ : ∃ T, (putF S1.flush X).flush = T := ⟨_, rfl⟩
 rw [hT] at e4
 have hS : s.saveD S = (T.write ((ckSu s.x s.n).gen % 2) (supS (ckSu s.x s.n))).flush := e4
 obtain ⟨p1, p2⟩ := putF_else X S1.flush
 have hTc : ∀ k, T.cache k = [] := fun k => by rw [← hT]; rfl
 have hTd : ∀ k : Nat, (k < 2 ∨ 26 ≤ k) → T.dur k = S1.get k := fun k hk => by
  rw [← hT]
  show (putF S1.flush X).get k = S1.flush.dur k
  rw [get_nil (by rw [p2 (k : Int) (by omega)]; rfl), p1]
 have hTg : ∀ k : Nat, T.get k = T.dur k := fun k => get_nil (hTc k)
 have hwg : ∀ k : Nat, (k : Int) ≠ (ckSu s.x s.n).gen % 2 → (s.saveD S).get k = T.dur k := fun k hk => by
  rw [hS, get_nil rfl]
  refine (get_eq (S := T) (S2 := T.write ((ckSu s.x s.n).gen % 2) (supS (ckSu s.x s.n))) rfl ?_).trans (hTg k)
  show (if (k : Int) = _ then _ else T.cache (k : Int)) = _
  rw [if_neg hk]
 have hS1 : ∀ k : Nat, k < 2 → S1.get k = S.get k := fun k hk => get_eq (congrFun e1 k) (e2 k (by omega))
 have hL : LogF T s.a (framesL y.inc s.a (encL l) ++ X) (framesL y.inc s.a (encL l) ++ X).length := by
  rw [← hT]
  refine LogF.flush (c := (framesL y.inc s.a (encL l)).length) ?_
  refine LogF.steps X ?_ (by rw [hXl]; omega) fun i z hz => ?_
  ·refine LogF.flush (c := c) (h.log.congr fun j hj => ⟨congrFun e1 _, e2 _ (by omega)⟩)
  ·rw [← hX] at hz
   rw [(framesL_get _ _ _ hz).1, hhn]; omega
 have hL2 : LogF T s.n X X.length := by
  have := hL.tail fun x hx => by
   obtain ⟨i, hi⟩ := List.mem_iff_getElem?.1 hx
   exact framesL_read h.cut hi
  rw [hhn]; exact this
 have hcg : LogF (s.saveD S) s.n X X.length := hL2.congr fun j hj => by
  have hne : (((2 + (s.n + (j : Int)) % 24).toNat : Nat) : Int) ≠ (ckSu s.x s.n).gen % 2 := by omega
  refine ⟨?_, ?_⟩
  ·show (s.saveD S).dur _ = _
   have h9 := hwg _ hne
   rw [hS, get_nil rfl] at h9
   rw [hS]; exact h9
  ·show (s.saveD S).cache _ = T.cache _
   rw [hTc, hS]; rfl
 have hinc : (ckSu s.x s.n).inc = s.x.inc := rfl
 refine ⟨X.length, h.sup.put hmay hgen ?_ ?_, rfl, rfl, fun k _ _ => by rw [hS]; rfl, fun k _ => by rw [hS]; rfl, fun j hj => .inl ?_, ?_, ?_, ?_, ?_, ?_, ⟨(prRl s.ps).length, Nat.le_refl _, ?_, ?_⟩, h.nd⟩
 ·show (s.saveD S).get _ = _
  rw [hS, get_nil rfl]
  show (T.write _ _).get _ = _
  unfold DS.get
  show (match (if (((((ckSu s.x s.n).gen % 2).toNat : Nat) : Int) = (ckSu s.x s.n).gen % 2) then T.cache ((ckSu s.x s.n).gen % 2) ++ [supS (ckSu s.x s.n)] else T.cache _ : List (List UInt8)).getLast? with
   | some b => b
   | none => _) = _
  rw [if_pos (by omega), hTc]; rfl
 ·intro k hk hne
  show (s.saveD S).get k = S.get k
  rw [hwg k (by omega), hTd k (.inl hk), hS1 k hk]
 ·rw [hwg _ (by omega), hTd _ (.inr (by omega))]
  unfold DS.get
  rw [show ((26 + j : Nat) : Int) = 26 + (j : Int) by omega, e3 j hj]
 ·show LogF (s.saveD S) s.n (framesL (ckSu s.x s.n).inc s.n (encL (prRl s.ps))) _
  rw [encL_pr, hX]; exact hcg
 ·show s.n + (wtP s.ps : Nat) = s.n + ((framesL (ckSu s.x s.n).inc s.n (encL (prRl s.ps))).length : Nat)
  rw [encL_pr, hX, hXl]
 ·intro q hq
  obtain ⟨p, hp, rfl⟩ := List.mem_map.1 hq
  unfold takes
  rw [Bool.and_eq_true]
  exact ⟨hI.mq p hp, (by decide : decide ((2 : Int) ≤ 3) = true)⟩
 ·show ∀ p ∈ beginsL s.n (encL (prRl s.ps)), _
  rw [encL_pr]
  exact begins_ok ⟨hsx.2.2.2.2.2.2.2.1, hsx.2.2.2.2.2.2.2.2.1⟩ s.ps s.n hI.mq (by omega) (by omega)
 ·exact fold3_pr _ _ s.ps [] h.nd
 ·rw [List.take_length]
  show (framesL (ckSu s.x s.n).inc s.n (encL (prRl s.ps))).length ≤ _
  rw [encL_pr, hX]; exact Nat.le_refl _
 ·rw [List.drop_length]; intro q hq; cases hq
abbrev su11 : Su := begSu sh0 suFirst
abbrev S11 : DS := (DS.new.write ((suFirst.gen + 1) % 2) (supS su11)).flush
theorem durAt_z11 (k : Nat) (h : k < 34) : durAt (List.replicate 2176 0) k = zero64 := by
 unfold durAt zero64
 rw [List.drop_replicate, List.take_replicate]
 congr 1
 omega
theorem StD.start : StD S11 sh1 su11 (List.replicate 32 zV8) [] 0 [] := by
 have hcw : ∀ k : Int, (DS.new.write ((suFirst.gen + 1) % 2) (supS su11)).cache k = if k = 1 then [supS su11] else [] := fun k => rfl
 have hget : ∀ k : Nat, k ≠ 1 → k < 34 → S11.get k = zero64 := fun k hk h34 => by
  rw [get_nil rfl]
  show (DS.new.write ((suFirst.gen + 1) % 2) (supS su11)).get k = _
  unfold DS.get
  rw [hcw, if_neg (by omega)]
  exact durAt_z11 k h34
 have hl : LogF S11 1 [] 0 := (LogF.start 1).flush.congr fun j hj => ⟨?_, rfl⟩
 rotate_left
 ·have e : durS S11 1 j = S11.get (2 + ((1 : Int) + (j : Int)) % 24).toNat := rfl
  have e2 : durS DS.new.flush 1 j = DS.new.get (2 + ((1 : Int) + (j : Int)) % 24).toNat := rfl
  rw [e, e2, hget _ (by omega) (by omega)]
  exact (durAt_z11 _ (by omega)).symm
 refine ⟨⟨sh1_may, ?_, fun k x hk hne hx => ?_⟩, rfl, rfl, fun k _ _ => rfl, fun k _ => rfl, fun j hj => .inr ⟨hget _ (by omega) (by omega), ?_⟩, hl, rfl, fun q hq => (by cases hq), fun p hp => (by cases hp), rfl, ⟨0, Nat.le_refl _, Nat.le_refl _, fun q hq => (by cases hq)⟩, List.nodup_nil⟩
 ·show S11.get 1 = supS su11
  rfl
 ·obtain rfl : k = 0 := by
   have : (su11.gen % 2).toNat = 1 := by decide
   rw [this] at hne; omega
  rw [show secD S11 0 = zero64 from hget 0 (by omega) (by omega), supP_zero (by decide) (by decide)] at hx
  cases hx
 ·unfold homeAt
  rw [List.drop_replicate, List.take_replicate]
  congr 1
  omega
theorem StD.crash {S : DS} {s : Sh} {y : Su} {h0 : List V8} {l : Rl} {c : Nat} {noes : List Nm} {N : Int} (h : StD S s y h0 l c noes) (hI : ShI S s N) (plan : List (Int × Int)) :
 ∃ (s2 : Sh) (l2 : Rl), gsR (secD (S.rise plan)) = (y, 0) ∧ (∀ j, j < 8 → HomeB h0 j ((S.rise plan).get (26 + j))) ∧ Recs l2 ((scanG (S.rise plan) y.tail).l.map (·.2)) ∧ foldS (stX y y.tail (scanG (S.rise plan) y.tail).next h0 0) [] l2 = (s2.st, s2.ps) ∧
  s2.x = s.x ∧ s2.h = s.h ∧ (∀ q ∈ s.ps, q ∈ s2.ps) ∧ (∀ q ∈ s2.ps, q ∈ s.ps ∨ q.1.name ∈ noes) ∧ (noes = [] → s2.ps = s.ps) := by
 have hlg := hI.lg; unfold mayL at hlg
 have hm := hI.may
 have hinc := h.inc
 obtain ⟨m, hm1, hm2, hm3⟩ := h.last
 have hlen : (encL l).length = l.length := by unfold encL; rw [List.length_map]
 have htk : ∀ k, encL (l.take k) = (encL l).take k := fun k => by unfold encL; rw [List.map_take]
 obtain ⟨k, hk1, hk2, hk3, hk4⟩ := h.log.crash h.cut (by rw [← hinc]; exact hm.2.2.2.2.2.2.2.1) (m := m) (by omega) (by rw [← htk]; exact hm2) plan (S2 := S.rise plan) (fun j => rfl)
 rw [hlen] at hk2
 have hta : y.tail = s.a := h.ha
 have hsc : scanG (S.rise plan) y.tail = scanOf (S.rise plan) s.a := by rw [hta]; exact scanG_eq _ (by have := hI.nx; have := hI.few; have := h.hn; omega)
 have hsup : SupI (secD (S.rise plan)) y := h.sup.of_eq fun k hk => crash_nil plan (h.csup (k : Int) (by omega) (by omega))
 have hnl : ∀ q ∈ (l.take k).drop m, NoOut noes q := fun q hq => hm3 q (by
  rw [List.drop_take] at hq; exact List.mem_of_mem_take hq)
 have e1 : l.take k = l.take m ++ (l.take k).drop m := by
  have := (List.take_append_drop m (l.take k)).symm
  rwa [List.take_take, Nat.min_eq_left hk1] at this
 have e2 : l = l.take k ++ l.drop k := (List.take_append_drop k l).symm
 have hnd : ∀ q ∈ l.drop k, NoOut noes q := fun q hq => hm3 q (by
  have : l.drop k = (l.drop m).drop (k - m) := by rw [List.drop_drop]; congr 1; omega
  rw [this] at hq; exact List.mem_of_mem_drop hq)
 obtain ⟨o9, h9, p9, hf9⟩ : ∃ o9 h9 p9, fold3 y.owned h0 [] (l.take k) = (o9, h9, p9) := ⟨_, _, _, rfl⟩
 have hfl := h.fold
 rw [e2, fold3_append, hf9] at hfl
 obtain ⟨ps2, hps2, hin, hout⟩ := fold3_no o9 h9 (l.drop k) p9 hnd
 rw [hps2] at hfl
 obtain rfl : o9 = s.x.owned := congrArg Prod.fst hfl
 obtain rfl : h9 = s.h := congrArg (fun z => z.2.1) hfl
 obtain rfl : ps2 = s.ps := congrArg (fun z => z.2.2) hfl
 obtain ⟨n, hn⟩ := foldS_3 (l.take k) (stX y y.tail (scanG (S.rise plan) y.tail).next h0 0) []
 have hf9' : fold3 (stX y y.tail (scanG (S.rise plan) y.tail).next h0 0).owned (stX y y.tail (scanG (S.rise plan) y.tail).next h0 0).home [] (l.take k) = (s.x.owned, s.h, p9) := hf9
 rw [hf9'] at hn
 refine ⟨⟨s.x, y.tail, (scanG (S.rise plan) y.tail).next, s.h, n, p9⟩, l.take k, hsup.gs, fun j hj => ?_, ?_, ?_, rfl, rfl, hin, hout, fun hno => ?_⟩
 ·rw [crash_nil plan (h.chome ((26 + j : Nat) : Int) (by omega))]; exact h.home j hj
 ·rw [hsc, hk3, ← htk]
  refine ⟨by unfold encL; rw [List.length_map], fun i q b hq hb => ?_⟩
  unfold encL at hb
  rw [List.getElem?_map, hq] at hb
  exact ⟨Option.some.inj hb, h.tk q (List.mem_of_mem_take (List.mem_of_getElem? hq))⟩
 ·rw [hn]
  have := h.hx
  show (_, p9) = (stX s.x _ _ _ _, p9)
  rw [show stX s.x y.tail (scanG (S.rise plan) y.tail).next s.h n = stX { y with owned := s.x.owned } y.tail (scanG (S.rise plan) y.tail).next s.h n by rw [← this]]
  rfl
 ·subst hno
  have : l.drop k = [] := by
   cases hd : l.drop k with
   | nil => rfl
   | cons q t =>
     obtain ⟨nm, hnm, -⟩ := hnd q (by rw [hd]; exact List.mem_cons_self ..)
     cases hnm
  rw [this] at hps2
  exact congrArg (fun z => z.2.2) hps2
end Go.Proofs.YtndabhdepjnbcaaGreat

namespace Go.Proofs.YtndabhdepjnbcaaGreat
open Go.RowKit Go.Sort
theorem StD.more {S : DS} {s : Sh} {y : Su} {h0 : List V8} {l : Rl} {c : Nat} {noes noes2 : List Nm} (h : StD S s y h0 l c noes) (hno : ∀ nm ∈ noes, nm ∈ noes2) : StD S s y h0 l c noes2 := by
 obtain ⟨m, h1, h2, h3⟩ := h.last
 exact ⟨h.sup, h.hx, h.ha, h.csup, h.chome, h.home, h.log, h.hn, h.tk, h.cut, h.fold, ⟨m, h1, h2, fun q hq => let ⟨nm, a, b⟩ := h3 q hq; ⟨nm, hno nm a, b⟩⟩, h.nd⟩
structure StA (S : DS) (s : Sh) (noes : List Nm) (N : Int) : Prop where
 I : ShI S s N
 D : ∃ (y : Su) (h0 : List V8) (l : Rl) (c : Nat), h0.length = 32 ∧ StD S s y h0 l c noes
theorem StA.mono {S : DS} {s : Sh} {noes noes2 : List Nm} {N M : Int} (h : StA S s noes N) (h1 : N ≤ M) (h2 : M ≤ 1000) (hno : ∀ nm ∈ noes, nm ∈ noes2) : StA S s noes2 M := by
 obtain ⟨y, h0, l, c, hl, hD⟩ := h.D
 exact ⟨h.I.mono h1 h2, y, h0, l, c, hl, hD.more hno⟩
theorem StA.keep {S : DS} {s : Sh} {noes noes2 : List Nm} {N M : Int} {r : Rc} {x : List Wr} {fl : Bool} (h : StA S s noes N) (hk : ShI (s.keepD S r x fl) (s.keep r x) M) (hm : takes r x = true) (hr : s.n + (nOf (r.enc x).length : Nat) ≤ s.a + 24) (hfl : fl = true ∨ NoOut noes2 (r, x)) (hno : ∀ nm ∈ noes, nm ∈ noes2) : StA (s.keepD S r x fl) (s.keep r x) noes2 M := by
 obtain ⟨y, h0, l, c, hl, hD⟩ := h.D
 have hlg := h.I.lg; unfold mayL at hlg
 have h1 := h.I.nx; have h2 := h.I.few
 have hmay := h.I.may
 have hinc := hD.inc
 obtain ⟨c2, hD2⟩ := hD.keep (fl := fl) ⟨by omega, by omega⟩ (by rw [← hinc]; exact ⟨hmay.2.2.2.2.2.2.2.1, hmay.2.2.2.2.2.2.2.2.1⟩) hm hr hfl hno
 exact ⟨hk, y, h0, _, c2, hl, hD2⟩
theorem StA.save {S : DS} {s : Sh} {noes : List Nm} {N : Int} (h : StA S s noes N) (hN : N + 1 ≤ 1000) : StA (s.saveD S) s.save [] (N + 1) := by
 obtain ⟨y, h0, l, c, hl, hD⟩ := h.D
 obtain ⟨c2, hD2⟩ := hD.save h.I
 exact ⟨h.I.save hN, _, _, _, c2, h.I.hl, hD2⟩
theorem come_preA {s s1 : Sh} {S0 S1 : DS} {noes : List Nm} {N : Int} (hI : StA S0 s noes N) (hN : N + 1 ≤ 1000) (h : (s1 = s ∧ S1 = S0) ∨ (s1 = s.save ∧ S1 = s.saveD S0)) : StA S1 s1 noes (N + 1) := by
 rcases h with ⟨rfl, rfl⟩ | ⟨rfl, rfl⟩
 ·exact hI.mono (by omega) hN fun _ h => h
 ·exact (hI.save hN).mono (Int.le_refl _) hN fun _ h => by cases h
structure WentA (wc : World) (A : List Ent) (b bd : Nat) (s : Sh) (noes : List Nm) (N : Int) (w' : World) : Prop where
 it : ∃ s' S', StA S' s' noes N ∧ s'.x.inc = s.x.inc ∧ ShM wc w' A b bd s' S'
theorem local_formA {wc w' : World} {A : List Ent} {b bd : Nat} {s : Sh} {S0 : DS} {noes : List Nm} {N er : Int} {r : Rc} {x : List Wr} (hA : StA S0 s noes N) (hN : N + 2 ≤ 1000) (h : (er = 0 ∧ LocalOk s r x ∧ ComeP wc A b bd s S0 r x (wQ s.ps : Nat) w') ∨ ((er = 2 ∨ er = 111) ∧ ShM wc w' A b bd s S0)) : WentA wc A b bd s noes (N + 2) w' := by
 rcases h with ⟨-, ⟨hm, hk, hf⟩, ⟨s1, S1, h1, h2, hM⟩⟩ | ⟨-, h2⟩
 ·obtain ⟨hI1, e1, e2, e3, -⟩ := come_pre hA.I (by omega) h1
  have hA1 := come_preA hA (by omega) h1
  have hst : ∀ ps, stepO ps r x = (ps, x) := fun ps => by unfold stepO; rw [if_pos hk]
  have hw := hI1.w8
  have hm1 := hI1.mq
  have hK := hI1.keep (r := r) (x := x) (fl := true) (by omega) hm (by rw [hst]; exact hm1) (by rw [hst]; exact hw) (by rw [hst]; show s1.n + _ + ((wQ s1.ps : Nat) : Int) ≤ _; rw [e1]; omega)
  rw [show N + 1 + 1 = N + 2 by omega] at hK
  exact ⟨_, _, hA1.keep hK (by unfold takes; rw [hm, hk]; rfl) (by omega) (.inl rfl) fun _ h => h, e3, hM⟩
 ·exact ⟨s, S0, hA.mono (by omega) hN fun _ h => h, rfl, h2⟩
theorem prep_formA {wc w' : World} {A : List Ent} {b bd : Nat} {s : Sh} {S0 : DS} {noes : List Nm} {N er : Int} {r : Rc} {x : List Wr} (hA : StA S0 s noes N) (hN : N + 2 ≤ 1000) (h : (er = 0 ∧ PrepOk s r x ∧ wQ s.ps + (nOf (r.enc x).length + 1) ≤ 8 ∧ ComeP wc A b bd s S0 r x (wQ s.ps + (nOf (r.enc x).length + 1) : Nat) w') ∨ (er ≠ 0 ∧ (PrepOk s r x → er = 50 ∧ 8 < wQ s.ps + (nOf (r.enc x).length + 1)) ∧ ShM wc w' A b bd s S0)) : WentA wc A b bd s noes (N + 2) w' := by
 rcases h with ⟨-, ⟨hm, hk, hf⟩, h8, ⟨s1, S1, h1, h2, hM⟩⟩ | ⟨-, -, h2⟩
 ·obtain ⟨hI1, e1, e2, e3, -⟩ := come_pre hA.I (by omega) h1
  have hA1 := come_preA hA (by omega) h1
  have hst : stepO s1.ps r x = (s1.ps ++ [(prOf r, x)], []) := by unfold stepO; rw [if_neg (by omega), if_pos hk, e1, hf]
  have hpr : prRc (prOf r) = r := prRc_prOf hm hk
  have hmq : mayQ (prOf r, x) := by unfold mayQ; rw [hpr]; exact hm
  have hsq : secQ (prOf r, x) = nOf (r.enc x).length := by unfold secQ encQ; rw [hpr]
  have hW : wQ (s1.ps ++ [(prOf r, x)]) = wQ s.ps + (nOf (r.enc x).length + 1) := by
   unfold wQ; rw [wtP_snoc, hsq, e1, List.length_append, List.length_singleton]; omega
  have hm1 := hI1.mq
  have hK := hI1.keep (r := r) (x := x) (fl := true) (by omega) hm (by
   rw [hst]; intro q hq
   rcases List.mem_append.1 hq with hq | hq
   ·exact hm1 q hq
   ·rw [List.mem_singleton.1 hq]; exact hmq) (by rw [hst]; show wQ _ ≤ 8; rw [hW]; exact h8) (by rw [hst]; show s1.n + _ + ((wQ (s1.ps ++ [(prOf r, x)]) : Nat) : Int) ≤ _; rw [hW]; omega)
  rw [show N + 1 + 1 = N + 2 by omega] at hK
  exact ⟨_, _, hA1.keep hK (by unfold takes; rw [hm, hk]; rfl) (by omega) (.inl rfl) fun _ h => h, e3, hM⟩
 ·exact ⟨s, S0, hA.mono (by omega) hN fun _ h => h, rfl, h2⟩
theorem out_formA {wc w' : World} {A : List Ent} {b bd : Nat} {s : Sh} {S0 : DS} {noes : List Nm} {N er : Int} {nm : Nm} {y : Bool} (hA : StA S0 s noes N) (hN : N + 2 ≤ 1000) (h : (er = 0 ∧ (∃ k, findP nm s.ps = some k) ∧ ShM wc w' A b bd (s.keep (r3 nm y) []) (s.keepD S0 (r3 nm y) [] y)) ∨ (er ≠ 0 ∧ er = 110 ∧ findP nm s.ps = none ∧ ShM wc w' A b bd s S0)) :
 WentA wc A b bd s (if er = 0 ∧ y = false then noes ++ [nm] else noes) (N + 2) w' := by
 rcases h with ⟨he, ⟨k, hf⟩, hM⟩ | ⟨he, -, -, h2⟩
 ·have hI := hA.I
  obtain ⟨q, hq, hqn⟩ := findP_name hf
  have hmq := hI.mq q (List.mem_of_getElem? hq)
  have hm : (r3 nm y).may [] = true := r3_may y (by rw [← hqn]; exact mayQ_name hmq)
  have hno : nOf ((r3 nm y).enc []).length ≤ 2 := by have := enc_len hm; unfold nOf; omega
  have hst : stepO s.ps (r3 nm y) [] = (s.ps.eraseIdx k, if y = true then q.2 else []) := by
   unfold stepO
   rw [if_neg (show ¬ (3 : Int) = 1 by decide), if_neg (show ¬ (3 : Int) = 2 by decide), show (r3 nm y).name = nm from rfl, hf]
   simp only [hq]
  have hw := hI.w8
  have hwe := wQ_erase hq
  have hrm := hI.room
  have hsq := secQ_le hmq
  have e8 : wQ s.ps = wtP s.ps + s.ps.length := rfl
  have hK := hI.keep (r := r3 nm y) (x := []) (fl := y) (by omega) hm (by
   rw [hst]; intro p hp
   exact hI.mq p (List.mem_of_mem_eraseIdx hp)) (by rw [hst]; show wQ (s.ps.eraseIdx k) ≤ 8; omega) (by rw [hst]; show s.n + _ + ((wQ (s.ps.eraseIdx k) : Nat) : Int) ≤ _; omega)
  have hS : StA (s.keepD S0 (r3 nm y) [] y) (s.keep (r3 nm y) []) (if er = 0 ∧ y = false then noes ++ [nm] else noes) (N + 1) := hA.keep hK (by unfold takes; rw [hm]; rfl) (by omega) (by
   cases y with
   | true => exact .inl rfl
   | false => right; rw [if_pos ⟨he, rfl⟩]; exact ⟨nm, by simp, rfl⟩) (fun n hn => by split <;> simp [hn])
  exact ⟨_, _, hS.mono (by omega) hN fun _ h => h, rfl, hM⟩
 ·rw [if_neg (by omega)]
  exact ⟨s, S0, hA.mono (by omega) hN fun _ h => h, rfl, h2⟩
theorem StA.start : StA S11 sh1 [] 2 := ⟨sh1_I, _, _, _, _, rfl, StD.start⟩
end Go.Proofs.YtndabhdepjnbcaaGreat

namespace Go.Proofs.YtndabhdepjnbcaaGreat
open Go.RowKit Go.Sort
instance : DecidableEq Nm := fun _ _ => decidable_of_iff _ Nm.eqb_iff
def nmcells (l : List Nm) : List Value := l.flatMap fun n => n.cells.toList
theorem nmcells_length : ∀ l, (nmcells l).length = l.length * 3
 | [] => rfl
 | x :: l => by
   show (x.cells.toList ++ nmcells l).length = _
   rw [List.length_append, nmcells_length l]; simp; omega
theorem nmcells_get {l : List Nm} {i : Nat} {x : Nm} (hx : l[i]? = some x) : ((nmcells l).drop (i * 3)).take 3 = x.cells.toList := by
 obtain ⟨hlt, he⟩ := List.getElem?_eq_some_iff.1 hx
 have e : nmcells l = nmcells (l.take i) ++ (x.cells.toList ++ nmcells (l.drop (i + 1))) := by
  conv => lhs; rw [← List.take_append_drop i l, List.drop_eq_getElem_cons hlt, he]
  simp [nmcells]
 rw [e, show i * 3 = (nmcells (l.take i)).length by rw [nmcells_length, List.length_take]; omega, List.drop_left]
 rfl
theorem nmcells_snoc (l : List Nm) (x : Nm) : nmcells (l ++ [x]) = nmcells l ++ x.cells.toList := by simp [nmcells]
end Go.Proofs.YtndabhdepjnbcaaGreat

namespace Go.Proofs.YtndabhdepjnbcaaGreat
open Go.RowKit Go.Sort
abbrev nmR (lo hi : Nat) (na : Option Addr) (nc : Nat) (l : List Nm) : Ent := rowE lo hi 25 3 (.slice na l.length nc) l.length (nmcells l)
abbrev dbR (lo hi : Nat) (a : Option Addr) (c : Nat) (cs : List Value) (ps : Pl) : Ent := rowE lo hi 75 6 (.slice a ps.length c) ps.length cs
theorem perm_st1 {α : Type} {W X D N : α} {e7 es E : List α} : (W :: (e7 ++ (X :: N :: D :: (es ++ E)))).Perm ((W :: N :: (e7 ++ E)) ++ (X :: D :: es)) := by
 refine List.Perm.cons _ ?_
 have h1 : (X :: N :: D :: (es ++ E)).Perm ((N :: E) ++ (X :: D :: es)) := (List.Perm.swap _ _ _).trans (List.Perm.cons _ (List.perm_append_comm (l₁ := X :: D :: es) (l₂ := E)))
 refine (List.Perm.append_left e7 h1).trans ?_
 rw [← List.append_assoc]
 exact (List.perm_middle (l₁ := e7)).append_right _
theorem perm_st2 {α : Type} {V X Y W N D : α} {e8 es e7 E : List α} : (V :: (e8 ++ (X :: Y :: W :: N :: D :: (es ++ (e7 ++ E))))).Perm ((V :: Y :: W :: N :: (e8 ++ e7)) ++ (X :: D :: (es ++ E))) := by
 refine List.Perm.cons _ ?_
 have h1 : (e8 ++ (X :: Y :: W :: N :: D :: (es ++ (e7 ++ E)))).Perm (e8 ++ (Y :: W :: N :: (e7 ++ (X :: D :: (es ++ E))))) := by
  refine List.Perm.append_left e8 ?_
  have a1 : (X :: Y :: W :: N :: D :: (es ++ (e7 ++ E))).Perm (Y :: W :: N :: X :: D :: (es ++ (e7 ++ E))) := (List.perm_middle (l₁ := [Y, W, N])).symm
  refine a1.trans (List.Perm.cons _ (List.Perm.cons _ (List.Perm.cons _ ?_)))
  have a2 : X :: D :: (es ++ (e7 ++ E)) = ([X, D] ++ es) ++ (e7 ++ E) := by simp
  have a3 : e7 ++ (X :: D :: (es ++ E)) = e7 ++ (([X, D] ++ es) ++ E) := by simp
  rw [a2, a3, ← List.append_assoc, ← List.append_assoc]
  exact List.perm_append_comm.append_right E
 have h2 : e8 ++ (Y :: W :: N :: (e7 ++ (X :: D :: (es ++ E)))) = e8 ++ ([Y, W, N] ++ (e7 ++ (X :: D :: (es ++ E)))) := by simp
 have h3 : Y :: W :: N :: (e8 ++ e7) ++ (X :: D :: (es ++ E)) = [Y, W, N] ++ (e8 ++ (e7 ++ (X :: D :: (es ++ E)))) := by simp
 have h5 : (e8 ++ ([Y, W, N] ++ (e7 ++ (X :: D :: (es ++ E))))).Perm ([Y, W, N] ++ (e8 ++ (e7 ++ (X :: D :: (es ++ E))))) := by
  rw [← List.append_assoc, ← List.append_assoc [Y, W, N]]
  exact List.perm_append_comm.append_right _
 rw [← h2, ← h3] at h5
 exact h1.trans h5
theorem prs_at {wc w : World} {A es : List Ent} {lo hi c : Nat} {a : Option Addr} {cs : List Value} {ps : Pl} (hB : PrBk cs ps es) (hps : ps.length ≤ 1000) (M : Mem wc w A) (hR : dbR lo hi a c cs ps ∈ A) (hE : ∀ e ∈ es, e ∈ A) : PrsC cs 0 w.heap.size w (.slice a ps.length c) ps :=
 (hB.prs M hR hE (by unfold maxLen; omega)).wide (Nat.zero_le _) (Nat.le_refl _)
theorem find_mem {nm : Nm} {ps : Pl} (h : nm ∈ namesP ps) : (findP nm ps).isSome = true := by
 cases hf : findP nm ps with
 | none => exact absurd h (findP_no hf)
 | some k => rfl
theorem nm_mem {q : Pr × List Wr} {ps : Pl} (h : q ∈ ps) : q.1.name ∈ namesP ps := List.mem_map_of_mem (f := fun q : Pr × List Wr => q.1.name) h
theorem nm_snoc (na : Option Addr) (nc : Nat) (l : List Nm) (x : Nm) (lo hi : Nat) : rowE lo hi 25 3 (.slice na (l.length + 1) nc) (l.length + 1) (nmcells l ++ x.cells.toList) = nmR lo hi na nc (l ++ [x]) := by
 unfold nmR; rw [nmcells_snoc, List.length_append, List.length_singleton]
set_option maxHeartbeats 4000000 in
set_option maxRecDepth 10000 in
theorem shardAgain_any (va : Option Addr) (vc : Nat) (cs : List Value) (l : List Act11) (pa : Option Addr) (pc : Nat) (plan : List (Int × Int)) (sv : Bool) (w : World) (hv : RowS cs 0 w.heap.size w (.slice va l.length vc) l) (hp : Rd 0 w.heap.size w 2 (.slice pa plan.length pc) plan.length (kcells plan)) :
 Calls Tryz.prog 5 #[.slice va l.length vc, .slice pa plan.length pc, .bool sv] w fun e w' => e = .returned (.bool true) ∧ Below w.heap.size w w' := by
 have M := Mem.start w
 have hl := hv.1.2.1
 have hpl := hp.2.1
 unfold maxLen at hl hpl
 refine calls_enter Tryz.func5 rfl 228 rfl rfl ?_; intro a S
 refine nxD (qG [1] S ?_); clear S a; intro a S
 refine nxC (wp_seq (nxD (qG [1] S ?_))); clear S a; intro a S
 refine qC (xs := [.tmp 24]) S (qE Tryz.func6) rfl (great11_any va vc cs l _ (M.actsS hv)) ?_
 rintro _ w1 ⟨gb, rfl, hK, hgb⟩; refine ⟨_, rfl, ?_⟩; clear S a; intro a S; replace M := M.grow hK
 refine qG [1] S ?_; clear S a; intro a S
 refine st_if (t := 26) S rfl ?_ ?_
 ·clear S; intro h26 S
  refine qG [0, 0, 0, 1] S ?_; clear S a; intro a S
  refine nxC (st_condT S rfl (nxD (qQ (xs := []) S (qE Tryz.func8) rfl (wakes11_any _) M ?_))); clear S M a; intro a w2 S hK M
  refine qG [1] S ?_; clear S a; intro a S
  refine nxC (wp_ret (then_ret (end_one S rfl (res_tmp rfl) ?_)))
  exact ⟨rfl, M.below⟩
 clear S; intro h26 S
 refine qG [1] S ?_; clear S a; intro a S
 refine qY S (y_lenR (E := 136) S rfl (M.arg hp) (by kernel_rfl)) ?_; clear S a; intro a S
 refine qG [1, 1] S ?_; clear S a; intro a S
 refine nxC (st_if (t := 30) S rfl ?_ ?_)
 ·clear S; intro h30 S
  refine st_condT S rfl (nxD (qQ (xs := []) S (qE Tryz.func8) rfl (wakes11_any _) M ?_)); clear S M a; intro a w3 S hK M
  refine qG [1] S ?_; clear S a; intro a S
  refine nxC (wp_ret (then_ret (end_one S rfl (res_tmp rfl) ?_)))
  exact ⟨rfl, M.below⟩
 clear S; intro h30 S
 refine st_condF S rfl (wp_skip (then_normal (wp_seq ?_)))
 have hl120 : l.length ≤ 120 := hgb (by simp_all)
 refine wp_region_lit (qC (xs := []) S (qE Tryz.func10) rfl (new_any _) ?_)
 rintro _ w4 ⟨bd, E, rfl, hE, M1⟩; refine ⟨_, rfl, ?_⟩; clear S a; intro a S
 replace M := (M.join M1).perm List.perm_append_comm
 clear M1
 refine qG [1] S ?_; clear S a; intro a S
 refine nxA (qG [1] S ?_); clear S a; intro a S
 refine qC (xs := [.tmp 34]) S (qE Tryz.func9) rfl (shOpen0_any (A := []) hE M) ?_
 rintro _ w5 ⟨b, rfl, hM⟩; refine ⟨_, rfl, ?_⟩; clear S M a; intro a S
 obtain ⟨da, dc, lo, hi, cs1, es, E, hE, hBk, M⟩ := ShM.open (P := []) (A := []) hM
 simp only [List.nil_append, List.cons_append] at M
 refine qG [1, 1, 1, 1, 1] S ?_; clear S a; intro a S
 refine nxC (wp_seq (nxD (qG [1, 1, 1] S ?_))); clear S a; intro a S
 refine st_if (t := 40) S rfl ?_ ?_
 ·clear S; intro h40 S
  exact absurd rfl h40
 clear S; intro h40 S
 refine qG [1] S ?_; clear S a; intro a S
 refine qY S (y_eqlPS (by kernel_rfl) S rfl) ?_; clear S a; intro a S
 refine qG [1] S ?_; clear S a; intro a S
 replace S := S.keep [0, 1, 2, 6, 30, 7, 8, 9, 43]
 refine nxC (st_condF S rfl (wp_skip (nxE (qG [1] S ?_)))); clear S a; intro a S
 refine qC (xs := [.tmp 45]) S (qE Tryz.func11) rfl (begin11_any (A := []) suFirst (ShM.close (P := []) hE hBk M) rfl (fun k => Nat.zero_le _) gs_new sh1_may (by decide) (by decide) rfl) ?_
 rintro _ w6 ⟨rfl, hM1⟩; refine ⟨_, rfl, ?_⟩; clear S M a; intro a S
 obtain ⟨da, dc, lo, hi, cs1, es, E, hE, hBk, M⟩ := ShM.open (P := []) (A := []) hM1
 simp only [List.nil_append, List.cons_append] at M
 refine qG [1, 1, 1, 1] S ?_; clear S a; intro a S
 refine nxC (wp_seq (nxD (qG [1, 1] S ?_))); clear S a; intro a S
 refine nxC (st_if (t := 50) S rfl ?_ ?_)
 ·clear S; intro h50 S
  exact absurd rfl h50
 clear S; intro h50 S
 refine st_condF S rfl (wp_skip (nxE (qG [1] S ?_))); clear S a; intro a S
 refine nxC (wp_seq (nxD (qG [1] S ?_))); clear S a; intro a S
 refine qY S (y_lenR (E := 44) S rfl (M.arg hv.1) (by kernel_rfl)) ?_; clear S a; intro a S
 refine qG [1] S ?_; clear S a; intro a S
 refine nxC (wp_block (wp_loop_g (fun m a w' => ∃ (i : Nat) (s : Sh) (S1 : DS) (noes : List Nm) (na : Option Addr) (nc nlo nhi : Nat), i ≤ l.length ∧ m = l.length - i ∧ noes.length ≤ i ∧ StA S1 s noes (2 + 2 * (i : Int)) ∧ s.x.inc = 1 ∧ Sees 228 a [(0, .slice va l.length vc), (1, .slice pa plan.length pc), (2, .bool sv), (7, pB bd), (8, pB b), (10, .slice na noes.length nc), (52, .int .i64 (l.length : Int)), (53, .int .i64 (i : Int))] ∧ ShM w w' ([nmR nlo nhi na nc noes] ++ []) b bd s S1) (l.length) ?_ ?_))
 ·skip
  obtain ⟨nlo, nhi, MN⟩ := M.nilRow 25 3
  exact ⟨0, sh1, _, [], none, 0, nlo, nhi, Nat.zero_le _, rfl, Nat.le_refl _, StA.start, rfl, S.sub _ rfl, ShM.close (P := [_]) hE hBk MN⟩
 clear S M a; intro m a wl
 rintro ⟨i, s, S1, noes, na, nc, nlo, nhi, hi', rfl, hnl, hA, hinc, S, hM⟩
 have hl32 : s.h.length = 32 := hA.I.hl
 obtain ⟨da, dc, lo1, hi1, cs1, es, E, hE, hBk, M⟩ := ShM.open hM
 simp only [List.nil_append, List.cons_append] at M
 refine nxD (qG [1] S ?_); clear S a; intro a S
 refine nxC (wp_seq (st_if (t := 54) S rfl ?_ ?_))
 ·clear S; intro h54 S
  refine st_condT S rfl (wp_skip (then_normal (wp_seq (wp_block (nxD (qG [1, 1] S ?_)))))); clear S a; intro a S
  refine nxC (wp_seq ?_)
  obtain ⟨q, hq⟩ : ∃ q, l[i]? = some q := ⟨_, List.getElem?_eq_getElem (by omega)⟩
  obtain ⟨hsq, wa, wc9, pa9, pc9, hc, hW, hP⟩ := hv.2 i q hq
  refine wp_region_lit (qG [1, 1] S ?_); clear S a; intro a S
  refine qY S (y_indexR (e := 44) (sz := 15) S (by kernel_rfl) rfl ((M.arg hv.1)) rfl (by first | omega | (simp; done) | (simp; omega))) ?_; clear S a; intro a S
  try simp only [Int.toNat_natCast, Nat.mul_one, Nat.zero_add] at S
  refine qY S (y_loadAgg S (by kernel_rfl) rfl rfl ((M.arg hv.1).at_.row (i := i) hc rfl)) ?_; clear S a; intro a S
  refine st_alloc S M rfl rfl #[.int .i64 0, .int .i64 0, .int .i8 0, .int .i64 0, .int .i64 0, .int .i64 0, .bool false, .slice none 0 0, .int .i64 0, .int .i64 0, .int .i64 0, .int .i64 0, .int .i64 0, .int .i64 0, .slice none 0 0] (by kernel_rfl) ?_; clear S M a; intro a w7 bQ S M hB
  refine qS (sz := 15) (us := [_, _, _, _, _, _, _, _, _, _, _, _, _, _, _]) S M 0 ?_; clear M; intro w8 M
  refine nxA (qR [1, 1] S M ?_); clear S a; intro a S
  refine nxC (wp_block (nxD (qG [1, 1] S ?_))); clear S a; intro a S
  refine nxC (st_if (t := 62) S rfl ?_ ?_)
  ·clear S; intro h62 S
   refine st_condT S rfl (wp_region_lit (qG [1, 3] S ?_)); clear S a; intro a S
   refine qY S (y_loadAgg (cs := [_, _, _, _, _, _, _, _, _, _, _, _]) S (by kernel_rfl) rfl rfl (M.cellsAt (k := 12) 0 rfl rfl)) ?_; clear S a; intro a S
   refine qC (xs := [.tmp 64, .tmp 66]) S (qE Tryz.func12) rfl (local11_any (A := [_, _] ++ []) (N := 2 + 2 * (i : Int)) q.r wa wc9 q.x (ShM.close (P := [_, _]) hE hBk M) hA.I (by omega) (by omega) hsq (fun W M9 => M9.argW hW)) ?_
   rintro _ w9 ⟨er, rfl, hC⟩; refine ⟨_, rfl, ?_⟩; clear S M a; intro a S
   obtain ⟨s', S', hA', hinc', hM'⟩ := (local_formA hA (by omega) hC).it
   obtain ⟨da2, dc2, lo2, hi2, cs2, es2, E2, hE2, hBk2, M⟩ := ShM.open (P := [_, _]) hM'
   simp only [List.nil_append, List.cons_append] at M
   refine wpList_nil (block_normal (block_normal (nxF ?_)))
   (first | refine qY S (y_addN S rfl rfl (by omega)) ?_ | refine qY S (y_int S rfl rfl rfl) ?_); clear S a; intro a S
   refine qG [1] S ?_; clear S a; intro a S
   refine nxC ?_
   skip
   replace M := M.front 1 rfl
   simp only [List.eraseIdx_cons_succ, List.eraseIdx_cons_zero] at M
   first
    | (revert h97; refine fun h97 : q.do_ ≠ 3 => ?_
       exact ⟨l.length - (i + 1), by omega, i + 1, s, S1, noes, na, nc, nlo, nhi, by omega, rfl, by omega, hA.mono (by omega) (by omega) (fun _ h => h), hinc, S.sub _ rfl, ShM.close (P := [_]) hE hBk (M.drop 1)⟩)
    | (revert h97; refine fun h97 : q.do_ = 3 => ?_
       exact ⟨l.length - (i + 1), by omega, i + 1, s.save, _, noes, na, nc, nlo, nhi, by omega, rfl, by omega, hA'.mono (by omega) (by omega) (fun _ h => by cases h), hinc, S.sub _ rfl, ShM.close (P := [_]) hE2 hBk2 (M.drop 1)⟩)
    | (revert h85; refine fun h85 : er ≠ 0 => ?_
       rw [if_neg (fun h => h85 h.1)] at hA'
       exact ⟨l.length - (i + 1), by omega, i + 1, s', S', noes, na, nc, nlo, nhi, by omega, rfl, by omega, hA'.mono (by omega) (by omega) (fun _ h => h), hinc'.trans hinc, S.sub _ rfl, ShM.close (P := [_]) hE2 hBk2 (M.drop 1)⟩)
    | (revert h90; refine fun h90 : q.r.yes = true => ?_
       rw [if_neg (fun h => by have := h.2; rw [h90] at this; cases this)] at hA'
       exact ⟨l.length - (i + 1), by omega, i + 1, s', S', noes, na, nc, nlo, nhi, by omega, rfl, by omega, hA'.mono (by omega) (by omega) (fun _ h => h), hinc'.trans hinc, S.sub _ rfl, ShM.close (P := [_]) hE2 hBk2 (M.drop 1)⟩)
    | exact ⟨l.length - (i + 1), by omega, i + 1, s', S', noes, na, nc, nlo, nhi, by omega, rfl, by omega, hA'.mono (by omega) (by omega) (fun _ h => h), hinc'.trans hinc, S.sub _ rfl, ShM.close (P := [_]) hE2 hBk2 (M.drop 1)⟩
    | (revert h90; refine fun h90 : q.r.yes = false => ?_
       rw [if_pos ⟨h85, h90⟩] at hA'
       have M9 : Mem w _ (rowE loA hiA 25 3 (.slice aA (noes.length + 1) cA) (noes.length + 1) (nmcells noes ++ q.r.name.cells.toList) :: _) := M.drop 1
       rw [nm_snoc] at M9
       exact ⟨l.length - (i + 1), by omega, i + 1, s', S', noes ++ [q.r.name], aA, cA, loA, hiA, by omega, rfl, by rw [List.length_append, List.length_singleton]; omega, hA'.mono (by omega) (by omega) (fun _ h => h), hinc'.trans hinc, by rw [List.length_append, List.length_singleton]; exact S.sub _ rfl, ShM.close (P := [_]) hE2 hBk2 M9⟩)
  clear S; intro h62 S
  refine st_condF S rfl (nxD (qG [1, 1] S ?_)); clear S a; intro a S
  refine nxC (st_if (t := 68) S rfl ?_ ?_)
  ·clear S; intro h68 S
   refine st_condT S rfl (wp_region_lit (qG [1, 3] S ?_)); clear S a; intro a S
   refine qY S (y_loadAgg (cs := [_, _, _, _, _, _, _, _, _, _, _, _]) S (by kernel_rfl) rfl rfl (M.cellsAt (k := 12) 0 rfl rfl)) ?_; clear S a; intro a S
   refine qC (xs := [.tmp 70, .tmp 72]) S (qE Tryz.func13) rfl (prepare11_any (A := [_, _] ++ []) (N := 2 + 2 * (i : Int)) q.r wa wc9 q.x (ShM.close (P := [_, _]) hE hBk M) hA.I (by omega) (by omega) hsq (fun W M9 => M9.argW hW)) ?_
   rintro _ w10 ⟨er, rfl, hC⟩; refine ⟨_, rfl, ?_⟩; clear S M a; intro a S
   obtain ⟨s', S', hA', hinc', hM'⟩ := (prep_formA hA (by omega) hC).it
   obtain ⟨da2, dc2, lo2, hi2, cs2, es2, E2, hE2, hBk2, M⟩ := ShM.open (P := [_, _]) hM'
   simp only [List.nil_append, List.cons_append] at M
   refine wpList_nil (block_normal (block_normal (nxF ?_)))
   (first | refine qY S (y_addN S rfl rfl (by omega)) ?_ | refine qY S (y_int S rfl rfl rfl) ?_); clear S a; intro a S
   refine qG [1] S ?_; clear S a; intro a S
   replace S := S.keep [0, 1, 2, 7, 8, 10, 52, 54, 11, 12, 61, 62, 68, 53]
   refine nxC ?_
   skip
   replace M := M.front 1 rfl
   simp only [List.eraseIdx_cons_succ, List.eraseIdx_cons_zero] at M
   first
    | (revert h97; refine fun h97 : q.do_ ≠ 3 => ?_
       exact ⟨l.length - (i + 1), by omega, i + 1, s, S1, noes, na, nc, nlo, nhi, by omega, rfl, by omega, hA.mono (by omega) (by omega) (fun _ h => h), hinc, S.sub _ rfl, ShM.close (P := [_]) hE hBk (M.drop 1)⟩)
    | (revert h97; refine fun h97 : q.do_ = 3 => ?_
       exact ⟨l.length - (i + 1), by omega, i + 1, s.save, _, noes, na, nc, nlo, nhi, by omega, rfl, by omega, hA'.mono (by omega) (by omega) (fun _ h => by cases h), hinc, S.sub _ rfl, ShM.close (P := [_]) hE2 hBk2 (M.drop 1)⟩)
    | (revert h85; refine fun h85 : er ≠ 0 => ?_
       rw [if_neg (fun h => h85 h.1)] at hA'
       exact ⟨l.length - (i + 1), by omega, i + 1, s', S', noes, na, nc, nlo, nhi, by omega, rfl, by omega, hA'.mono (by omega) (by omega) (fun _ h => h), hinc'.trans hinc, S.sub _ rfl, ShM.close (P := [_]) hE2 hBk2 (M.drop 1)⟩)
    | (revert h90; refine fun h90 : q.r.yes = true => ?_
       rw [if_neg (fun h => by have := h.2; rw [h90] at this; cases this)] at hA'
       exact ⟨l.length - (i + 1), by omega, i + 1, s', S', noes, na, nc, nlo, nhi, by omega, rfl, by omega, hA'.mono (by omega) (by omega) (fun _ h => h), hinc'.trans hinc, S.sub _ rfl, ShM.close (P := [_]) hE2 hBk2 (M.drop 1)⟩)
    | exact ⟨l.length - (i + 1), by omega, i + 1, s', S', noes, na, nc, nlo, nhi, by omega, rfl, by omega, hA'.mono (by omega) (by omega) (fun _ h => h), hinc'.trans hinc, S.sub _ rfl, ShM.close (P := [_]) hE2 hBk2 (M.drop 1)⟩
    | (revert h90; refine fun h90 : q.r.yes = false => ?_
       rw [if_pos ⟨h85, h90⟩] at hA'
       have M9 : Mem w _ (rowE loA hiA 25 3 (.slice aA (noes.length + 1) cA) (noes.length + 1) (nmcells noes ++ q.r.name.cells.toList) :: _) := M.drop 1
       rw [nm_snoc] at M9
       exact ⟨l.length - (i + 1), by omega, i + 1, s', S', noes ++ [q.r.name], aA, cA, loA, hiA, by omega, rfl, by rw [List.length_append, List.length_singleton]; omega, hA'.mono (by omega) (by omega) (fun _ h => h), hinc'.trans hinc, by rw [List.length_append, List.length_singleton]; exact S.sub _ rfl, ShM.close (P := [_]) hE2 hBk2 M9⟩)
  clear S; intro h68 S
  refine st_condF S rfl (nxD (qG [1, 1] S ?_)); clear S a; intro a S
  refine nxC (st_fi (t := 74) S rfl ?_ ?_)
  ·clear S; intro h74 S
   refine st_condF S rfl (nxD (qG [1, 1] S ?_)); clear S a; intro a S
   refine nxC (st_fi (t := 97) S rfl ?_ ?_)
   ·clear S; intro h97 S
    refine st_condF S rfl (wp_skip (block_normal (block_normal (nxF ?_))))
    (first | refine qY S (y_addN S rfl rfl (by omega)) ?_ | refine qY S (y_int S rfl rfl rfl) ?_); clear S a; intro a S
    refine qG [1] S ?_; clear S a; intro a S
    refine nxC ?_
    skip
    replace M := M.front 1 rfl
    simp only [List.eraseIdx_cons_succ, List.eraseIdx_cons_zero] at M
    first
     | (revert h97; refine fun h97 : q.do_ ≠ 3 => ?_
        exact ⟨l.length - (i + 1), by omega, i + 1, s, S1, noes, na, nc, nlo, nhi, by omega, rfl, by omega, hA.mono (by omega) (by omega) (fun _ h => h), hinc, S.sub _ rfl, ShM.close (P := [_]) hE hBk (M.drop 1)⟩)
     | (revert h97; refine fun h97 : q.do_ = 3 => ?_
        exact ⟨l.length - (i + 1), by omega, i + 1, s.save, _, noes, na, nc, nlo, nhi, by omega, rfl, by omega, hA'.mono (by omega) (by omega) (fun _ h => by cases h), hinc, S.sub _ rfl, ShM.close (P := [_]) hE2 hBk2 (M.drop 1)⟩)
     | (revert h85; refine fun h85 : er ≠ 0 => ?_
        rw [if_neg (fun h => h85 h.1)] at hA'
        exact ⟨l.length - (i + 1), by omega, i + 1, s', S', noes, na, nc, nlo, nhi, by omega, rfl, by omega, hA'.mono (by omega) (by omega) (fun _ h => h), hinc'.trans hinc, S.sub _ rfl, ShM.close (P := [_]) hE2 hBk2 (M.drop 1)⟩)
     | (revert h90; refine fun h90 : q.r.yes = true => ?_
        rw [if_neg (fun h => by have := h.2; rw [h90] at this; cases this)] at hA'
        exact ⟨l.length - (i + 1), by omega, i + 1, s', S', noes, na, nc, nlo, nhi, by omega, rfl, by omega, hA'.mono (by omega) (by omega) (fun _ h => h), hinc'.trans hinc, S.sub _ rfl, ShM.close (P := [_]) hE2 hBk2 (M.drop 1)⟩)
     | exact ⟨l.length - (i + 1), by omega, i + 1, s', S', noes, na, nc, nlo, nhi, by omega, rfl, by omega, hA'.mono (by omega) (by omega) (fun _ h => h), hinc'.trans hinc, S.sub _ rfl, ShM.close (P := [_]) hE2 hBk2 (M.drop 1)⟩
     | (revert h90; refine fun h90 : q.r.yes = false => ?_
        rw [if_pos ⟨h85, h90⟩] at hA'
        have M9 : Mem w _ (rowE loA hiA 25 3 (.slice aA (noes.length + 1) cA) (noes.length + 1) (nmcells noes ++ q.r.name.cells.toList) :: _) := M.drop 1
        rw [nm_snoc] at M9
        exact ⟨l.length - (i + 1), by omega, i + 1, s', S', noes ++ [q.r.name], aA, cA, loA, hiA, by omega, rfl, by rw [List.length_append, List.length_singleton]; omega, hA'.mono (by omega) (by omega) (fun _ h => h), hinc'.trans hinc, by rw [List.length_append, List.length_singleton]; exact S.sub _ rfl, ShM.close (P := [_]) hE2 hBk2 M9⟩)
   clear S; intro h97 S
   refine st_condT S rfl (wp_region_lit (qG [1] S ?_)); clear S a; intro a S
   refine qC (xs := [.tmp 99]) S (qE Tryz.func17) rfl (check11_any (A := [_, _] ++ []) (N := 2 + 2 * (i : Int)) (ShM.close (P := [_, _]) hE hBk M) hA.I (by omega)) ?_
   rintro _ w14 ⟨rfl, hM'⟩; refine ⟨_, rfl, ?_⟩; clear S M a; intro a S
   have hA' := hA.save (by omega)
   obtain ⟨da2, dc2, lo2, hi2, cs2, es2, E2, hE2, hBk2, M⟩ := ShM.open (P := [_, _]) hM'
   simp only [List.nil_append, List.cons_append] at M
   refine wpList_nil (block_normal (block_normal (nxF ?_)))
   (first | refine qY S (y_addN S rfl rfl (by omega)) ?_ | refine qY S (y_int S rfl rfl rfl) ?_); clear S a; intro a S
   refine qG [1] S ?_; clear S a; intro a S
   replace S := S.keep [0, 1, 2, 7, 8, 10, 52, 54, 11, 12, 61, 62, 68, 74, 97, 53]
   refine nxC ?_
   skip
   replace M := M.front 1 rfl
   simp only [List.eraseIdx_cons_succ, List.eraseIdx_cons_zero] at M
   first
    | (revert h97; refine fun h97 : q.do_ ≠ 3 => ?_
       exact ⟨l.length - (i + 1), by omega, i + 1, s, S1, noes, na, nc, nlo, nhi, by omega, rfl, by omega, hA.mono (by omega) (by omega) (fun _ h => h), hinc, S.sub _ rfl, ShM.close (P := [_]) hE hBk (M.drop 1)⟩)
    | (revert h97; refine fun h97 : q.do_ = 3 => ?_
       exact ⟨l.length - (i + 1), by omega, i + 1, s.save, _, noes, na, nc, nlo, nhi, by omega, rfl, by omega, hA'.mono (by omega) (by omega) (fun _ h => by cases h), hinc, S.sub _ rfl, ShM.close (P := [_]) hE2 hBk2 (M.drop 1)⟩)
    | (revert h85; refine fun h85 : er ≠ 0 => ?_
       rw [if_neg (fun h => h85 h.1)] at hA'
       exact ⟨l.length - (i + 1), by omega, i + 1, s', S', noes, na, nc, nlo, nhi, by omega, rfl, by omega, hA'.mono (by omega) (by omega) (fun _ h => h), hinc'.trans hinc, S.sub _ rfl, ShM.close (P := [_]) hE2 hBk2 (M.drop 1)⟩)
    | (revert h90; refine fun h90 : q.r.yes = true => ?_
       rw [if_neg (fun h => by have := h.2; rw [h90] at this; cases this)] at hA'
       exact ⟨l.length - (i + 1), by omega, i + 1, s', S', noes, na, nc, nlo, nhi, by omega, rfl, by omega, hA'.mono (by omega) (by omega) (fun _ h => h), hinc'.trans hinc, S.sub _ rfl, ShM.close (P := [_]) hE2 hBk2 (M.drop 1)⟩)
    | exact ⟨l.length - (i + 1), by omega, i + 1, s', S', noes, na, nc, nlo, nhi, by omega, rfl, by omega, hA'.mono (by omega) (by omega) (fun _ h => h), hinc'.trans hinc, S.sub _ rfl, ShM.close (P := [_]) hE2 hBk2 (M.drop 1)⟩
    | (revert h90; refine fun h90 : q.r.yes = false => ?_
       rw [if_pos ⟨h85, h90⟩] at hA'
       have M9 : Mem w _ (rowE loA hiA 25 3 (.slice aA (noes.length + 1) cA) (noes.length + 1) (nmcells noes ++ q.r.name.cells.toList) :: _) := M.drop 1
       rw [nm_snoc] at M9
       exact ⟨l.length - (i + 1), by omega, i + 1, s', S', noes ++ [q.r.name], aA, cA, loA, hiA, by omega, rfl, by rw [List.length_append, List.length_singleton]; omega, hA'.mono (by omega) (by omega) (fun _ h => h), hinc'.trans hinc, by rw [List.length_append, List.length_singleton]; exact S.sub _ rfl, ShM.close (P := [_]) hE2 hBk2 M9⟩)
  clear S; intro h74 S
  refine st_condT S rfl (nxD (qG [1, 3, 2] S ?_)); clear S a; intro a S
  refine qY S (y_loadAgg (cs := [_, _, _]) S (by kernel_rfl) rfl rfl (M.cellsAt (k := 3) 0 rfl rfl)) ?_; clear S a; intro a S
  refine qR [3, 5, 1] S M ?_; clear S a; intro a S
  refine qC (xs := [.tmp 76, .tmp 79, .tmp 82]) S (qE Tryz.func14) rfl (outcome11_any (A := [_, _] ++ []) (N := 2 + 2 * (i : Int)) q.r.name q.r.yes (ShM.close (P := [_, _]) hE hBk M) hA.I (by omega)) ?_
  rintro _ w11 ⟨er, rfl, hC⟩; refine ⟨_, rfl, ?_⟩; clear S M a; intro a S
  obtain ⟨s', S', hA', hinc', hM'⟩ := (out_formA hA (by omega) hC).it
  obtain ⟨da2, dc2, lo2, hi2, cs2, es2, E2, hE2, hBk2, M⟩ := ShM.open (P := [_, _]) hM'
  simp only [List.nil_append, List.cons_append] at M
  refine qG [1, 1] S ?_; clear S a; intro a S
  refine st_fi (t := 85) S rfl ?_ ?_
  ·clear S; intro h85 S
   refine qG [0, 0, 0, 0, 1] S ?_; clear S a; intro a S
   replace S := S.keep [0, 1, 2, 7, 8, 10, 52, 53, 54, 11, 12, 61, 62, 68, 74, 90]
   refine nxC (st_condF S rfl (wp_skip (block_normal (block_normal (nxF ?_)))))
   (first | refine qY S (y_addN S rfl rfl (by omega)) ?_ | refine qY S (y_int S rfl rfl rfl) ?_); clear S a; intro a S
   refine qG [1] S ?_; clear S a; intro a S
   refine nxC ?_
   skip
   replace M := M.front 1 rfl
   simp only [List.eraseIdx_cons_succ, List.eraseIdx_cons_zero] at M
   first
    | (revert h97; refine fun h97 : q.do_ ≠ 3 => ?_
       exact ⟨l.length - (i + 1), by omega, i + 1, s, S1, noes, na, nc, nlo, nhi, by omega, rfl, by omega, hA.mono (by omega) (by omega) (fun _ h => h), hinc, S.sub _ rfl, ShM.close (P := [_]) hE hBk (M.drop 1)⟩)
    | (revert h97; refine fun h97 : q.do_ = 3 => ?_
       exact ⟨l.length - (i + 1), by omega, i + 1, s.save, _, noes, na, nc, nlo, nhi, by omega, rfl, by omega, hA'.mono (by omega) (by omega) (fun _ h => by cases h), hinc, S.sub _ rfl, ShM.close (P := [_]) hE2 hBk2 (M.drop 1)⟩)
    | (revert h85; refine fun h85 : er ≠ 0 => ?_
       rw [if_neg (fun h => h85 h.1)] at hA'
       exact ⟨l.length - (i + 1), by omega, i + 1, s', S', noes, na, nc, nlo, nhi, by omega, rfl, by omega, hA'.mono (by omega) (by omega) (fun _ h => h), hinc'.trans hinc, S.sub _ rfl, ShM.close (P := [_]) hE2 hBk2 (M.drop 1)⟩)
    | (revert h90; refine fun h90 : q.r.yes = true => ?_
       rw [if_neg (fun h => by have := h.2; rw [h90] at this; cases this)] at hA'
       exact ⟨l.length - (i + 1), by omega, i + 1, s', S', noes, na, nc, nlo, nhi, by omega, rfl, by omega, hA'.mono (by omega) (by omega) (fun _ h => h), hinc'.trans hinc, S.sub _ rfl, ShM.close (P := [_]) hE2 hBk2 (M.drop 1)⟩)
    | exact ⟨l.length - (i + 1), by omega, i + 1, s', S', noes, na, nc, nlo, nhi, by omega, rfl, by omega, hA'.mono (by omega) (by omega) (fun _ h => h), hinc'.trans hinc, S.sub _ rfl, ShM.close (P := [_]) hE2 hBk2 (M.drop 1)⟩
    | (revert h90; refine fun h90 : q.r.yes = false => ?_
       rw [if_pos ⟨h85, h90⟩] at hA'
       have M9 : Mem w _ (rowE loA hiA 25 3 (.slice aA (noes.length + 1) cA) (noes.length + 1) (nmcells noes ++ q.r.name.cells.toList) :: _) := M.drop 1
       rw [nm_snoc] at M9
       exact ⟨l.length - (i + 1), by omega, i + 1, s', S', noes ++ [q.r.name], aA, cA, loA, hiA, by omega, rfl, by rw [List.length_append, List.length_singleton]; omega, hA'.mono (by omega) (by omega) (fun _ h => h), hinc'.trans hinc, by rw [List.length_append, List.length_singleton]; exact S.sub _ rfl, ShM.close (P := [_]) hE2 hBk2 M9⟩)
  clear S; intro h85 S
  refine qR [3, 5, 1, 1, 1] S M ?_; clear S a; intro a S
  replace S := S.keep [0, 1, 2, 7, 8, 10, 52, 53, 54, 11, 12, 61, 62, 68, 74, 90]
  refine nxC (st_fi (t := 90) S rfl ?_ ?_)
  ·clear S; intro h90 S
   refine st_condF S rfl (wp_skip (block_normal (block_normal (nxF ?_))))
   (first | refine qY S (y_addN S rfl rfl (by omega)) ?_ | refine qY S (y_int S rfl rfl rfl) ?_); clear S a; intro a S
   refine qG [1] S ?_; clear S a; intro a S
   refine nxC ?_
   skip
   replace M := M.front 1 rfl
   simp only [List.eraseIdx_cons_succ, List.eraseIdx_cons_zero] at M
   first
    | (revert h97; refine fun h97 : q.do_ ≠ 3 => ?_
       exact ⟨l.length - (i + 1), by omega, i + 1, s, S1, noes, na, nc, nlo, nhi, by omega, rfl, by omega, hA.mono (by omega) (by omega) (fun _ h => h), hinc, S.sub _ rfl, ShM.close (P := [_]) hE hBk (M.drop 1)⟩)
    | (revert h97; refine fun h97 : q.do_ = 3 => ?_
       exact ⟨l.length - (i + 1), by omega, i + 1, s.save, _, noes, na, nc, nlo, nhi, by omega, rfl, by omega, hA'.mono (by omega) (by omega) (fun _ h => by cases h), hinc, S.sub _ rfl, ShM.close (P := [_]) hE2 hBk2 (M.drop 1)⟩)
    | (revert h85; refine fun h85 : er ≠ 0 => ?_
       rw [if_neg (fun h => h85 h.1)] at hA'
       exact ⟨l.length - (i + 1), by omega, i + 1, s', S', noes, na, nc, nlo, nhi, by omega, rfl, by omega, hA'.mono (by omega) (by omega) (fun _ h => h), hinc'.trans hinc, S.sub _ rfl, ShM.close (P := [_]) hE2 hBk2 (M.drop 1)⟩)
    | (revert h90; refine fun h90 : q.r.yes = true => ?_
       rw [if_neg (fun h => by have := h.2; rw [h90] at this; cases this)] at hA'
       exact ⟨l.length - (i + 1), by omega, i + 1, s', S', noes, na, nc, nlo, nhi, by omega, rfl, by omega, hA'.mono (by omega) (by omega) (fun _ h => h), hinc'.trans hinc, S.sub _ rfl, ShM.close (P := [_]) hE2 hBk2 (M.drop 1)⟩)
    | exact ⟨l.length - (i + 1), by omega, i + 1, s', S', noes, na, nc, nlo, nhi, by omega, rfl, by omega, hA'.mono (by omega) (by omega) (fun _ h => h), hinc'.trans hinc, S.sub _ rfl, ShM.close (P := [_]) hE2 hBk2 (M.drop 1)⟩
    | (revert h90; refine fun h90 : q.r.yes = false => ?_
       rw [if_pos ⟨h85, h90⟩] at hA'
       have M9 : Mem w _ (rowE loA hiA 25 3 (.slice aA (noes.length + 1) cA) (noes.length + 1) (nmcells noes ++ q.r.name.cells.toList) :: _) := M.drop 1
       rw [nm_snoc] at M9
       exact ⟨l.length - (i + 1), by omega, i + 1, s', S', noes ++ [q.r.name], aA, cA, loA, hiA, by omega, rfl, by rw [List.length_append, List.length_singleton]; omega, hA'.mono (by omega) (by omega) (fun _ h => h), hinc'.trans hinc, by rw [List.length_append, List.length_singleton]; exact S.sub _ rfl, ShM.close (P := [_]) hE2 hBk2 M9⟩)
  clear S; intro h90 S
  refine st_condT S rfl (wp_region_lit (qG [1, 3, 2] S ?_)); clear S a; intro a S
  refine qY S (y_loadAgg (cs := [_, _, _]) S (by kernel_rfl) rfl rfl (M.cellsAt (k := 3) 0 rfl rfl)) ?_; clear S a; intro a S
  refine st_lit (ps := [(0, .tmp 94)]) (e := 25) (sz := 3) (zl := [.int .i64 0, .int .i64 0, .int .i64 0]) (cs := [_, _, _]) S M rfl rfl (by kernel_rfl) rfl (rfl) ?_; clear S M a; intro a w12 bZ S M hB
  refine st_append (e := 25) (sz := 3) (by_ := 24) (zc := [.int .i64 0, .int .i64 0, .int .i64 0]) S M 2 rfl rfl (by kernel_rfl) rfl (by decide) rfl rfl rfl (show Rd _ _ _ 3 _ 1 q.r.name.cells.toList from M.sliceAt 0 rfl (M.cellsAt (k := 3) 0 rfl rfl) rfl (Nat.le_refl _) (by unfold maxLen; omega)) (rfl) (by omega) (by unfold maxLen; omega) ?_; clear S M a; intro a w13 vA loA hiA S M
  obtain ⟨aA, cA, rfl, -, -⟩ := (M.readAll 0 rfl (by unfold maxLen; omega)).form
  replace M := M.drop 1
  simp only [List.eraseIdx_cons_succ, List.eraseIdx_cons_zero] at M
  refine qY S (y_assign S rfl) ?_; clear S a; intro a S
  refine wpList_nil (block_normal (block_normal (nxF ?_)))
  (first | refine qY S (y_addN S rfl rfl (by omega)) ?_ | refine qY S (y_int S rfl rfl rfl) ?_); clear S a; intro a S
  refine qG [1] S ?_; clear S a; intro a S
  refine nxC ?_
  skip
  replace M := M.ord [1, 1] (by simp only [ordO, oG, oS, oE, oZ, oB] <;> rfl)
  first
   | (revert h97; refine fun h97 : q.do_ ≠ 3 => ?_
      exact ⟨l.length - (i + 1), by omega, i + 1, s, S1, noes, na, nc, nlo, nhi, by omega, rfl, by omega, hA.mono (by omega) (by omega) (fun _ h => h), hinc, S.sub _ rfl, ShM.close (P := [_]) hE hBk (M.drop 1)⟩)
   | (revert h97; refine fun h97 : q.do_ = 3 => ?_
      exact ⟨l.length - (i + 1), by omega, i + 1, s.save, _, noes, na, nc, nlo, nhi, by omega, rfl, by omega, hA'.mono (by omega) (by omega) (fun _ h => by cases h), hinc, S.sub _ rfl, ShM.close (P := [_]) hE2 hBk2 (M.drop 1)⟩)
   | (revert h85; refine fun h85 : er ≠ 0 => ?_
      rw [if_neg (fun h => h85 h.1)] at hA'
      exact ⟨l.length - (i + 1), by omega, i + 1, s', S', noes, na, nc, nlo, nhi, by omega, rfl, by omega, hA'.mono (by omega) (by omega) (fun _ h => h), hinc'.trans hinc, S.sub _ rfl, ShM.close (P := [_]) hE2 hBk2 (M.drop 1)⟩)
   | (revert h90; refine fun h90 : q.r.yes = true => ?_
      rw [if_neg (fun h => by have := h.2; rw [h90] at this; cases this)] at hA'
      exact ⟨l.length - (i + 1), by omega, i + 1, s', S', noes, na, nc, nlo, nhi, by omega, rfl, by omega, hA'.mono (by omega) (by omega) (fun _ h => h), hinc'.trans hinc, S.sub _ rfl, ShM.close (P := [_]) hE2 hBk2 (M.drop 1)⟩)
   | exact ⟨l.length - (i + 1), by omega, i + 1, s', S', noes, na, nc, nlo, nhi, by omega, rfl, by omega, hA'.mono (by omega) (by omega) (fun _ h => h), hinc'.trans hinc, S.sub _ rfl, ShM.close (P := [_]) hE2 hBk2 (M.drop 1)⟩
   | (revert h90; refine fun h90 : q.r.yes = false => ?_
      rw [if_pos ⟨h85, h90⟩] at hA'
      have M9 : Mem w _ (rowE loA hiA 25 3 (.slice aA (noes.length + 1) cA) (noes.length + 1) (nmcells noes ++ q.r.name.cells.toList) :: _) := M.drop 1
      rw [nm_snoc] at M9
      exact ⟨l.length - (i + 1), by omega, i + 1, s', S', noes ++ [q.r.name], aA, cA, loA, hiA, by omega, rfl, by rw [List.length_append, List.length_singleton]; omega, hA'.mono (by omega) (by omega) (fun _ h => h), hinc'.trans hinc, by rw [List.length_append, List.length_singleton]; exact S.sub _ rfl, ShM.close (P := [_]) hE2 hBk2 M9⟩)
 clear S; intro h54 S
 refine st_condF S rfl (wp_exit (then_exit (then_exit (block_hit (then_normal (wp_cut (fun a w' => ∃ (s : Sh) (S1 : DS) (nz noes : List Nm) (na : Option Addr) (nc nlo nhi : Nat), noes.length ≤ 120 ∧ StA S1 s nz 300 ∧ (sv = true ∨ noes = [] → nz = []) ∧ (∀ n ∈ nz, n ∈ noes) ∧ Sees 228 a [(1, .slice pa plan.length pc), (2, .bool sv), (7, pB bd), (8, pB b), (10, .slice na noes.length nc)] ∧ ShM w w' ([nmR nlo nhi na nc noes] ++ []) b bd s S1) ?_ ?_))))))
 ·skip
  refine wp_seq ?_
  obtain rfl : i = l.length := by omega
  refine wp_region_lit (qG [1, 1] S ?_); clear S a; intro a S
  refine st_fi (t := 103) S rfl ?_ ?_
  ·clear S; intro h103 S
   refine qG [0, 0, 0, 1] S ?_; clear S a; intro a S
   refine nxC (st_condF S rfl (wp_skip (then_normal ?_)))
   first
    | (revert h103; refine fun h103 : sv = false => ?_
       exact ⟨s, S1, noes, noes, na, nc, nlo, nhi, by omega, hA.mono (by omega) (by omega) (fun _ h => h), (fun h => h.elim (fun h => by rw [h103] at h; cases h) id), fun _ h => h, S.sub _ rfl, ShM.close (P := [_]) hE hBk M⟩)
    | (revert h103; refine fun h103 : sv = true => ?_
       exact ⟨s.save, _, [], noes, na, nc, nlo, nhi, by omega, hA'.mono (by omega) (by omega) (fun _ h => h), (fun _ => rfl), (fun _ h => by cases h), S.sub _ rfl, ShM.close (P := [_]) hE2 hBk2 M⟩)
  clear S; intro h103 S
  refine qG [1] S ?_; clear S a; intro a S
  refine qC (xs := [.tmp 104]) S (qE Tryz.func17) rfl (check11_any (A := [_] ++ []) (N := 2 + 2 * (l.length : Int)) (ShM.close (P := [_]) hE hBk M) hA.I (by omega)) ?_
  rintro _ w15 ⟨rfl, hM'⟩; refine ⟨_, rfl, ?_⟩; clear S M a; intro a S
  have hA' := hA.save (by omega)
  obtain ⟨da2, dc2, lo2, hi2, cs2, es2, E2, hE2, hBk2, M⟩ := ShM.open (P := [_]) hM'
  simp only [List.nil_append, List.cons_append] at M
  refine qG [1, 1] S ?_; clear S a; intro a S
  refine nxC (st_if (t := 107) S rfl ?_ ?_)
  ·clear S; intro h107 S
   all_goals (first | exact absurd rfl h107 | (simp at h107; done))
  clear S; intro h107 S
  refine st_condF S rfl (wp_skip (then_normal ?_))
  first
   | (revert h103; refine fun h103 : sv = false => ?_
      exact ⟨s, S1, noes, noes, na, nc, nlo, nhi, by omega, hA.mono (by omega) (by omega) (fun _ h => h), (fun h => h.elim (fun h => by rw [h103] at h; cases h) id), fun _ h => h, S.sub _ rfl, ShM.close (P := [_]) hE hBk M⟩)
   | (revert h103; refine fun h103 : sv = true => ?_
      exact ⟨s.save, _, [], noes, na, nc, nlo, nhi, by omega, hA'.mono (by omega) (by omega) (fun _ h => h), (fun _ => rfl), (fun _ h => by cases h), S.sub _ rfl, ShM.close (P := [_]) hE2 hBk2 M⟩)
 clear S a M; intro a wc
 rintro ⟨s, S1, nz, noes, na, nc, nlo, nhi, hn120, hA, hnz, hsub, S, hM⟩
 have hl32 : s.h.length = 32 := hA.I.hl
 obtain ⟨da, dc, lo1, hi1, cs1, es, E, hE, hBk, M⟩ := ShM.open hM
 simp only [List.nil_append, List.cons_append] at M
 refine wp_seq ?_
 have hok : s.st.ok := stX_ok _ _ _ _ hl32
 have hp8 := hA.I.w8
 have hhl0 : (hcells s.h).length = 256 := by rw [hcells_length, hl32]
 have hhs : (hcells s.st.home).length = 256 := hhl0
 replace M := M.front 1 rfl
 simp only [List.eraseIdx_cons_succ, List.eraseIdx_cons_zero] at M
 refine wp_region_lit (qG [1] S ?_); clear S a; intro a S
 refine qC (xs := [.tmp 108]) S (qE Tryz.func15) rfl (state11_any M (fun W pre M9 => DoubtRd (A := []) (E := E) (pre := pre ++ [_, _]) hBk (by omega) (by simpa only [List.cons_append, List.nil_append, List.append_assoc] using M9)) hBk hl32 (by omega)) ?_
 rintro _ w16 ⟨sa, sc, lo7, hi7, cs7, es7, rfl, hBk7, M1⟩; refine ⟨_, rfl, ?_⟩; clear S M a; intro a S
 have M := (M1.perm perm_st1).sub (List.sublist_append_left _ _)
 clear M1
 refine st_alloc S M rfl rfl (zSt.cellsL (.slice none 0 0)).toArray (by kernel_rfl) ?_; clear S M a; intro a w17 bY1 S M hB
 refine st_storeAll (sz := 273) S M 0 rfl (by kernel_rfl) rfl rfl (by with_reducible first | exact St.len hok _ | exact St.len hok2 _ | exact St.len zSt_ok _ | exact St.pre_len hok | exact St.pre_len hok2 | exact hhl0 | exact hhs | exact hhs2) (by with_reducible first | exact St.one hok _ rfl | exact St.one hok2 _ rfl | exact St.one zSt_ok _ rfl | exact allOne_hcells _) rfl (by with_reducible first | exact St.len hok _ | exact St.len hok2 _ | exact St.len zSt_ok _ | exact St.pre_len hok | exact St.pre_len hok2 | exact hhl0 | exact hhs | exact hhs2) ?_; clear M; intro w18 M
 simp only [List.set_cons_zero, List.set_cons_succ] at M
 refine nxC (wp_seq (nxD (qG [1, 1] S ?_))); clear S a; intro a S
 refine qC (xs := [.tmp 110, .tmp 111]) S (qE Tryz.func21) rfl (crash_any (A := _ :: _ :: _ :: es7) pa pc plan hE M (fun W M9 => M9.argW hp) hA.I.up (fun k => by have := hA.I.cache k; omega)) ?_
 rintro _ w19 ⟨rfl, E2, hE2, M1⟩; refine ⟨_, rfl, ?_⟩; clear S M a; intro a S; have M := M1; clear M1
 refine qG [1, 1] S ?_; clear S a; intro a S
 refine st_if (t := 114) S rfl ?_ ?_
 ·clear S; intro h114 S
  exact absurd rfl h114
 clear S; intro h114 S
 refine qG [1] S ?_; clear S a; intro a S
 refine qC (xs := [.tmp 115]) S (qE Tryz.func22) rfl (up_any (A := _ :: _ :: _ :: es7) hE2 M rfl) ?_
 rintro _ w20 ⟨rfl, E3, hE3, M1⟩; refine ⟨_, rfl, ?_⟩; clear S M a; intro a S; have M := M1; clear M1
 refine qG [1, 1] S ?_; clear S a; intro a S
 refine nxC (st_if (t := 118) S rfl ?_ ?_)
 ·clear S; intro h118 S
  all_goals (first | exact absurd rfl h118 | (simp at h118; done))
 clear S; intro h118 S
 refine st_condF S rfl (wp_skip (then_normal (wp_seq ?_)))
 obtain ⟨y, h0, l1, c1, hl0, hD⟩ := hA.D
 obtain ⟨s2, l2, hgs, hz2, hrec, hfo, hx2, hh2, hin, hout, hno⟩ := hD.crash hA.I plan
 obtain ⟨x2, a2, n2, h2, k2, ps2⟩ := s2
 simp only at hx2 hh2 hin hout hno
 subst hx2 hh2
 refine wp_region_lit (qG [1] S ?_); clear S a; intro a S
 refine qC (xs := [.tmp 120]) S (qE Tryz.func9) rfl (shOpenG_any (A := _ :: _ :: _ :: es7) y h0 l2 ⟨s.x, a2, n2, s.h, k2, ps2⟩ hl0 hE3 M rfl (fun k => Nat.zero_le _) hz2 hgs hrec hl32 hfo) ?_
 rintro _ w21 ⟨b2, rfl, hps24, hM2⟩; refine ⟨_, rfl, ?_⟩; clear S M a; intro a S
 obtain ⟨da2, dc2, lo2, hi2, cs2, es2, E4, hE4, hBk2, M⟩ := ShM.open (P := [_, _, _]) hM2
 simp only [List.nil_append, List.cons_append] at M hps24
 refine qG [1, 1, 1, 1, 1] S ?_; clear S a; intro a S
 replace S := S.keep [1, 2, 7, 8, 10, 13, 118, 14, 15]
 refine nxC (wp_seq (nxD (qG [1, 1, 1] S ?_))); clear S a; intro a S
 refine st_if (t := 126) S rfl ?_ ?_
 ·clear S; intro h126 S
  exact absurd rfl h126
 clear S; intro h126 S
 refine qG [1] S ?_; clear S a; intro a S
 refine qY S (y_eqlPS (by kernel_rfl) S rfl) ?_; clear S a; intro a S
 refine qG [1] S ?_; clear S a; intro a S
 refine nxC (st_condF S rfl (wp_skip (then_normal (wp_seq ?_))))
 have hhs2 : (hcells (⟨s.x, a2, n2, s.h, k2, ps2⟩ : Sh).st.home).length = 256 := hhl0
 have hok2 : (stX s.x a2 n2 s.h k2).ok := stX_ok _ _ _ _ hl32
 replace M := M.front 3 rfl
 simp only [List.eraseIdx_cons_succ, List.eraseIdx_cons_zero] at M
 refine wp_region_lit (qG [1] S ?_); clear S a; intro a S
 refine qC (xs := [.tmp 130]) S (qE Tryz.func15) rfl (state11_any (s := ⟨s.x, a2, n2, s.h, k2, ps2⟩) M (fun W pre M9 => DoubtRd (A := es7) (E := E4) (pre := pre ++ [_, _, _, _]) hBk2 (by show ps2.length ≤ 1000; omega) (by simpa only [List.cons_append, List.nil_append, List.append_assoc] using M9)) hBk2 hl32 hps24) ?_
 rintro _ w22 ⟨ta, tc, lo8, hi8, cs8, es8, rfl, hBk8, M1⟩; refine ⟨_, rfl, ?_⟩; clear S M a; intro a S
 have M := (M1.perm perm_st2).sub (List.sublist_append_left _ _)
 clear M1
 simp only at M hBk8
 refine st_alloc S M rfl rfl (zSt.cellsL (.slice none 0 0)).toArray (by kernel_rfl) ?_; clear S M a; intro a w23 bY2 S M hB
 refine st_storeAll (sz := 273) S M 0 rfl (by kernel_rfl) rfl rfl (by with_reducible first | exact St.len hok _ | exact St.len hok2 _ | exact St.len zSt_ok _ | exact St.pre_len hok | exact St.pre_len hok2 | exact hhl0 | exact hhs | exact hhs2) (by with_reducible first | exact St.one hok _ rfl | exact St.one hok2 _ rfl | exact St.one zSt_ok _ rfl | exact allOne_hcells _) rfl (by with_reducible first | exact St.len hok _ | exact St.len hok2 _ | exact St.len zSt_ok _ | exact St.pre_len hok | exact St.pre_len hok2 | exact hhl0 | exact hhs | exact hhs2) ?_; clear M; intro w24 M
 simp only [List.set_cons_zero, List.set_cons_succ] at M
 refine nxC (wp_seq (nxD (qG [16] S ?_))); clear S a; intro a S
 refine qY S (y_loadAgg (k := 256) S (by kernel_rfl) rfl (by with_reducible first | exact St.len hok _ | exact St.len hok2 _ | exact St.len zSt_ok _ | exact St.pre_len hok | exact St.pre_len hok2 | exact hhl0 | exact hhs | exact hhs2) (M.cellsMid 0 rfl (by with_reducible first | exact St.len hok _ | exact St.len hok2 _ | exact St.len zSt_ok _ | exact St.pre_len hok | exact St.pre_len hok2 | exact hhl0 | exact hhs | exact hhs2))) ?_; clear S a; intro a S
 refine qG [16] S ?_; clear S a; intro a S
 refine qY S (y_loadAgg (k := 256) S (by kernel_rfl) rfl (by with_reducible first | exact St.len hok _ | exact St.len hok2 _ | exact St.len zSt_ok _ | exact St.pre_len hok | exact St.pre_len hok2 | exact hhl0 | exact hhs | exact hhs2) (M.cellsMid 2 rfl (by with_reducible first | exact St.len hok _ | exact St.len hok2 _ | exact St.len zSt_ok _ | exact St.pre_len hok | exact St.pre_len hok2 | exact hhl0 | exact hhs | exact hhs2))) ?_; clear S a; intro a S
 refine qY S (y_neqG (by kernel_rfl) S rfl rfl (fun w => equalHs 9997 s.h hl32 w)) ?_; clear S a; intro a S
 refine qG [1] S ?_; clear S a; intro a S
 refine st_if (t := 137) S rfl ?_ ?_
 ·clear S; intro h137 S
  simp at h137
 clear S; intro h137 S
 refine qR [1, 3, 1, 1, 3, 3, 1, 1, 1] S M ?_; clear S a; intro a S
 refine st_if (t := 146) S rfl ?_ ?_
 ·clear S; intro h146 S
  exact absurd rfl h146
 clear S; intro h146 S
 refine qR [1, 4, 1, 1, 4, 3, 1, 1] S M ?_; clear S a; intro a S
 replace S := S.keep [1, 2, 7, 8, 10, 13, 118, 14, 15, 129, 16, 154]
 refine nxC (st_if (t := 154) S rfl ?_ ?_)
 ·clear S; intro h154 S
  all_goals (first | exact absurd rfl h154 | (simp at h154; done))
 clear S; intro h154 S
 refine st_condF S rfl (wp_skip (then_normal (wp_seq (nxD (qG [1, 1] S ?_))))); clear S a; intro a S
 refine st_if (t := 156) S rfl ?_ ?_
 ·clear S; intro h156 S
  refine qG [0, 0, 0, 1] S ?_; clear S a; intro a S
  refine nxC (st_condT S rfl (wp_seq ?_))
  obtain rfl : ps2 = s.ps := hno (hnz (by first | exact .inl (by assumption) | exact .inr (List.length_eq_zero_iff.1 (by omega))))
  refine wp_region_lit (qY S (y_loadAgg (k := 273) (cs := _) S (by kernel_rfl) rfl (by with_reducible first | exact St.len hok _ | exact St.len hok2 _ | exact St.len zSt_ok _ | exact St.pre_len hok | exact St.pre_len hok2 | exact hhl0 | exact hhs | exact hhs2) (M.cellsAt 0 rfl cutL_all)) ?_); clear S a; intro a S
  refine qY S (y_loadAgg (k := 273) (cs := _) S (by kernel_rfl) rfl (by with_reducible first | exact St.len hok _ | exact St.len hok2 _ | exact St.len zSt_ok _ | exact St.pre_len hok | exact St.pre_len hok2 | exact hhl0 | exact hhs | exact hhs2) (M.cellsAt 2 rfl cutL_all)) ?_; clear S a; intro a S
  refine qQ (xs := [.tmp 161, .tmp 162]) S (qE Tryz.func23) rfl (same11_any s.x a2 n2 k2 s.a s.n s.k s.h hl32 ta sa tc sc cs8 cs7 s.ps _ (prs_at (a := ta) (c := tc) (lo := lo8) (hi := hi8) hBk8 (by omega) M (by simp) (fun e he => by simp [he])) (prs_at (a := sa) (c := sc) (lo := lo7) (hi := hi7) hBk7 (by omega) M (by simp) (fun e he => by simp [he]))) M ?_; clear S M a; intro a w25 S hK M
  refine qG [1] S ?_; clear S a; intro a S
  refine st_fi (t := 164) S rfl ?_ ?_
  ·clear S; intro h164 S
   all_goals (first | (cases h164; done) | (simp at h164; done))
  clear S; intro h164 S
  refine qQ (xs := []) S (qE Tryz.func8) rfl (wakes11_any _) M ?_; clear S M a; intro a w26 S hK M
  refine qG [1, 1] S ?_; clear S a; intro a S
  refine nxC (wp_ret (then_ret (end_one S rfl (res_tmp rfl) ?_)))
  exact ⟨rfl, M.below⟩
 clear S; intro h156 S
 refine qG [1] S ?_; clear S a; intro a S
 refine qY S (y_lenR (E := 25) S rfl (M.readAll 4 rfl (by unfold maxLen; omega)) (by kernel_rfl)) ?_; clear S a; intro a S
 refine qG [1, 1] S ?_; clear S a; intro a S
 refine nxC (st_if (t := 160) S rfl ?_ ?_)
 ·clear S; intro h160 S
  refine st_condT S rfl (wp_seq ?_)
  obtain rfl : ps2 = s.ps := hno (hnz (by first | exact .inl (by assumption) | exact .inr (List.length_eq_zero_iff.1 (by omega))))
  refine wp_region_lit (qY S (y_loadAgg (k := 273) (cs := _) S (by kernel_rfl) rfl (by with_reducible first | exact St.len hok _ | exact St.len hok2 _ | exact St.len zSt_ok _ | exact St.pre_len hok | exact St.pre_len hok2 | exact hhl0 | exact hhs | exact hhs2) (M.cellsAt 0 rfl cutL_all)) ?_); clear S a; intro a S
  refine qY S (y_loadAgg (k := 273) (cs := _) S (by kernel_rfl) rfl (by with_reducible first | exact St.len hok _ | exact St.len hok2 _ | exact St.len zSt_ok _ | exact St.pre_len hok | exact St.pre_len hok2 | exact hhl0 | exact hhs | exact hhs2) (M.cellsAt 2 rfl cutL_all)) ?_; clear S a; intro a S
  refine qQ (xs := [.tmp 161, .tmp 162]) S (qE Tryz.func23) rfl (same11_any s.x a2 n2 k2 s.a s.n s.k s.h hl32 ta sa tc sc cs8 cs7 s.ps _ (prs_at (a := ta) (c := tc) (lo := lo8) (hi := hi8) hBk8 (by omega) M (by simp) (fun e he => by simp [he])) (prs_at (a := sa) (c := sc) (lo := lo7) (hi := hi7) hBk7 (by omega) M (by simp) (fun e he => by simp [he]))) M ?_; clear S M a; intro a w27 S hK M
  refine qG [1] S ?_; clear S a; intro a S
  refine st_fi (t := 164) S rfl ?_ ?_
  ·clear S; intro h164 S
   all_goals (first | (cases h164; done) | (simp at h164; done))
  clear S; intro h164 S
  refine qQ (xs := []) S (qE Tryz.func8) rfl (wakes11_any _) M ?_; clear S M a; intro a w28 S hK M
  refine qG [1, 1] S ?_; clear S a; intro a S
  refine nxC (wp_ret (then_ret (end_one S rfl (res_tmp rfl) ?_)))
  exact ⟨rfl, M.below⟩
 clear S; intro h160 S
 refine st_condF S rfl (wp_skip (then_normal (wp_seq (nxD (qG [272] S ?_))))); clear S a; intro a S
 refine qY S (y_load S (by kernel_rfl) rfl (M.cell 2 rfl (St.doubt hok _))) ?_; clear S a; intro a S
 refine qY S (y_lenR (E := 75) S rfl (M.readAll 3 rfl (by unfold maxLen; omega)) (by kernel_rfl)) ?_; clear S a; intro a S
 refine qG [1] S ?_; clear S a; intro a S
 refine nxC (wp_block (wp_loop_g (fun m a w' => ∃ (i : Nat), i ≤ s.ps.length ∧ m = s.ps.length - i ∧ Sees 228 a [(10, .slice na noes.length nc), (13, .pointer (some ⟨bY1, 0, none⟩)), (16, .pointer (some ⟨bY2, 0, none⟩)), (169, .int .i64 (s.ps.length : Int)), (170, .int .i64 (i : Int))] ∧ Mem w w' (.blk bY2 ((stX s.x a2 n2 s.h k2).cellsL (.slice ta ps2.length tc)).toArray 57 :: dbR lo8 hi8 ta tc cs8 ps2 :: .blk bY1 (s.st.cellsL (.slice sa s.ps.length sc)).toArray 57 :: dbR lo7 hi7 sa sc cs7 s.ps :: nmR nlo nhi na nc noes :: (es8 ++ es7))) (s.ps.length) ?_ ?_))
 ·skip
  exact ⟨0, Nat.zero_le _, rfl, S.sub _ rfl, M⟩
 clear S M a; intro m a wl
 rintro ⟨i, hi, rfl, S, M⟩
 refine nxD (qG [1] S ?_); clear S a; intro a S
 refine nxC (wp_seq (st_if (t := 171) S rfl ?_ ?_))
 ·clear S; intro h171 S
  refine st_condT S rfl (wp_skip (then_normal (wp_seq (wp_block (nxD (qG [1, 1] S ?_)))))); clear S a; intro a S
  refine nxC (wp_seq ?_)
  obtain ⟨q, hq⟩ : ∃ q, s.ps[i]? = some q := ⟨_, List.getElem?_eq_getElem (by omega)⟩
  have hP7 := (prs_at (a := sa) (c := sc) (lo := lo7) (hi := hi7) hBk7 (by omega) M (by simp) (fun e he => by simp [he]))
  have hP8 := (prs_at (a := ta) (c := tc) (lo := lo8) (hi := hi8) hBk8 (by omega) M (by simp) (fun e he => by simp [he]))
  obtain ⟨xa, xc, hrow, -⟩ := hP7.sl hq
  refine wp_regionK [] #[false, false, false, false, false, false, false, false, false, false, false, false, false] rfl M (by kernel_rfl) ?_; clear M; intro w29 M
  refine k_read 0 S rfl (fun w hW => have M := M.grow hW; y_loadAgg (k := 273) (cs := _) S (by kernel_rfl) rfl (by with_reducible first | exact St.len hok _ | exact St.len hok2 _ | exact St.len zSt_ok _ | exact St.pre_len hok | exact St.pre_len hok2 | exact hhl0 | exact hhs | exact hhs2) (M.cellsAt 0 rfl cutL_all)) ?_; clear S a; intro a S
  refine k_pure 1 S rfl (fun w => y_fieldAddr (k := 271) S (by kernel_rfl) rfl) ?_; clear S a; intro a S
  refine k_read 2 S rfl (fun w hW => have M := M.grow hW; y_load S (by kernel_rfl) rfl (M.cell 2 rfl (St.doubt hok _))) ?_; clear S a; intro a S
  refine k_pure 3 S rfl (fun w => y_move S rfl) ?_; clear S a; intro a S
  refine k_read 4 S rfl (fun w hW => have M := M.grow hW; y_indexR (e := 75) (sz := 6) S (by kernel_rfl) rfl (M.readAll 3 rfl (by unfold maxLen; omega)) rfl (by first | omega | (simp; done) | (simp; omega))) ?_; clear S a; intro a S
  try simp only [Int.toNat_natCast, Nat.mul_one, Nat.zero_add] at S
  refine k_pure 5 S rfl (fun w => y_fieldAddr (k := 0) S (by kernel_rfl) rfl) ?_; clear S a; intro a S
  refine k_read 6 S rfl (fun w hW => have M := M.grow hW; y_loadAgg S (by kernel_rfl) rfl rfl (((M.readAll 3 rfl (by unfold maxLen; omega)).at_.row (i := i) hrow rfl).sub (i := 0) (k := 3))) ?_; clear S a; intro a S
  refine k_one 7 rfl (by kernel_rfl) ?_
  refine qC (xs := [.tmp 174, .tmp 180]) S (qE Tryz.func24) rfl (find11_any (stX s.x a2 n2 s.h k2) hok2 _ cs8 ps2 q.1.name _ (prs_at (a := ta) (c := tc) (lo := lo8) (hi := hi8) hBk8 (by omega) M (by simp) (fun e he => by simp [he]))) ?_
  rintro _ w30 ⟨fk, rfl, hK⟩; refine ⟨_, rfl, ?_⟩; clear S a; intro a S; replace M := M.grow hK
  refine wpList_nil ?_; refine then_normal ?_; refine ⟨fun _ => hK, ?_⟩
  refine k_pure 8 S rfl (fun w => y_move S rfl) ?_; clear S a; intro a S
  refine k_pure 9 S rfl (fun w => y_extract S rfl rfl) ?_; clear S a; intro a S
  refine k_pure 10 S rfl (fun w => y_extract S rfl rfl) ?_; clear S a; intro a S
  refine k_pure 11 S rfl (fun w => y_assign S rfl) ?_; clear S a; intro a S
  refine k_pure 12 S rfl (fun w => y_assign S rfl) ?_; clear S a; intro a S
  refine k_end (by kernel_rfl) ?_
  refine nxE (qG [1, 1] S ?_); clear S a; intro a S
  replace S := S.keep [10, 13, 16, 169, 170, 171, 17, 19, 185]
  refine nxC (st_if (t := 185) S rfl ?_ ?_)
  ·clear S; intro h185 S
   rw [find_mem (nm_mem (hin q (List.mem_of_getElem? hq)))] at h185; cases h185
  clear S; intro h185 S
  refine st_condF S rfl (wp_skip (block_normal (nxF ?_)))
  (first | refine qY S (y_addN S rfl rfl (by omega)) ?_ | refine qY S (y_int S rfl rfl rfl) ?_); clear S a; intro a S
  refine qG [1] S ?_; clear S a; intro a S
  refine nxC ?_
  exact ⟨s.ps.length - (i + 1), by omega, i + 1, by omega, rfl, S.sub _ rfl, M⟩
 clear S; intro h171 S
 refine st_condF S rfl (wp_exit (then_exit (then_exit (block_hit (then_normal (wp_seq (nxD (qG [272] S ?_)))))))); clear S a; intro a S
 refine qY S (y_load S (by kernel_rfl) rfl (M.cell 0 rfl (St.doubt hok2 _))) ?_; clear S a; intro a S
 refine qY S (y_lenR (E := 75) S rfl (M.readAll 1 rfl (by unfold maxLen; omega)) (by kernel_rfl)) ?_; clear S a; intro a S
 refine qG [1] S ?_; clear S a; intro a S
 refine nxC (wp_block (wp_loop_g (fun m a w' => ∃ (i : Nat), i ≤ ps2.length ∧ m = ps2.length - i ∧ Sees 228 a [(10, .slice na noes.length nc), (13, .pointer (some ⟨bY1, 0, none⟩)), (16, .pointer (some ⟨bY2, 0, none⟩)), (189, .int .i64 (ps2.length : Int)), (190, .int .i64 (i : Int))] ∧ Mem w w' (.blk bY2 ((stX s.x a2 n2 s.h k2).cellsL (.slice ta ps2.length tc)).toArray 57 :: dbR lo8 hi8 ta tc cs8 ps2 :: .blk bY1 (s.st.cellsL (.slice sa s.ps.length sc)).toArray 57 :: dbR lo7 hi7 sa sc cs7 s.ps :: nmR nlo nhi na nc noes :: (es8 ++ es7))) (ps2.length) ?_ ?_))
 ·skip
  exact ⟨0, Nat.zero_le _, rfl, S.sub _ rfl, M⟩
 clear S M a; intro m a wl
 rintro ⟨i, hi, rfl, S, M⟩
 refine nxD (qG [1] S ?_); clear S a; intro a S
 refine nxC (wp_seq (st_fi (t := 191) S rfl ?_ ?_))
 ·clear S; intro h191 S
  refine st_condF S rfl (wp_exit (then_exit (then_exit (block_hit (nxE (qQ (xs := []) S (qE Tryz.func8) rfl (wakes11_any _) M ?_)))))); clear S M a; intro a w35 S hK M
  refine qG [1] S ?_; clear S a; intro a S
  refine nxC (wp_ret (end_one S rfl (res_tmp rfl) ?_))
  exact ⟨rfl, M.below⟩
 clear S; intro h191 S
 refine st_condT S rfl (wp_skip (then_normal (wp_seq (wp_block (nxD (qG [1, 1] S ?_)))))); clear S a; intro a S
 refine nxC (wp_seq ?_)
 obtain ⟨q, hq⟩ : ∃ q, ps2[i]? = some q := ⟨_, List.getElem?_eq_getElem (by omega)⟩
 have hP8 := (prs_at (a := ta) (c := tc) (lo := lo8) (hi := hi8) hBk8 (by omega) M (by simp) (fun e he => by simp [he]))
 obtain ⟨xa, xc, hrow, -⟩ := hP8.sl hq
 refine wp_regionK [] #[false, false, false, false, false, false, false, false, false, false, false, false, false] rfl M (by kernel_rfl) ?_; clear M; intro w31 M
 refine k_read 0 S rfl (fun w hW => have M := M.grow hW; y_loadAgg (k := 273) (cs := _) S (by kernel_rfl) rfl (by with_reducible first | exact St.len hok _ | exact St.len hok2 _ | exact St.len zSt_ok _ | exact St.pre_len hok | exact St.pre_len hok2 | exact hhl0 | exact hhs | exact hhs2) (M.cellsAt 2 rfl cutL_all)) ?_; clear S a; intro a S
 refine k_pure 1 S rfl (fun w => y_fieldAddr (k := 271) S (by kernel_rfl) rfl) ?_; clear S a; intro a S
 refine k_read 2 S rfl (fun w hW => have M := M.grow hW; y_load S (by kernel_rfl) rfl (M.cell 0 rfl (St.doubt hok2 _))) ?_; clear S a; intro a S
 refine k_pure 3 S rfl (fun w => y_move S rfl) ?_; clear S a; intro a S
 refine k_read 4 S rfl (fun w hW => have M := M.grow hW; y_indexR (e := 75) (sz := 6) S (by kernel_rfl) rfl (M.readAll 1 rfl (by unfold maxLen; omega)) rfl (by first | omega | (simp; done) | (simp; omega))) ?_; clear S a; intro a S
 try simp only [Int.toNat_natCast, Nat.mul_one, Nat.zero_add] at S
 refine k_pure 5 S rfl (fun w => y_fieldAddr (k := 0) S (by kernel_rfl) rfl) ?_; clear S a; intro a S
 refine k_read 6 S rfl (fun w hW => have M := M.grow hW; y_loadAgg S (by kernel_rfl) rfl rfl (((M.readAll 1 rfl (by unfold maxLen; omega)).at_.row (i := i) hrow rfl).sub (i := 0) (k := 3))) ?_; clear S a; intro a S
 refine k_one 7 rfl (by kernel_rfl) ?_
 refine qC (xs := [.tmp 194, .tmp 200]) S (qE Tryz.func24) rfl (find11_any s.st hok _ cs7 s.ps q.1.name _ (prs_at (a := sa) (c := sc) (lo := lo7) (hi := hi7) hBk7 (by omega) M (by simp) (fun e he => by simp [he]))) ?_
 rintro _ w32 ⟨fk, rfl, hK⟩; refine ⟨_, rfl, ?_⟩; clear S a; intro a S; replace M := M.grow hK
 refine wpList_nil ?_; refine then_normal ?_; refine ⟨fun _ => hK, ?_⟩
 refine k_pure 8 S rfl (fun w => y_move S rfl) ?_; clear S a; intro a S
 refine k_pure 9 S rfl (fun w => y_extract S rfl rfl) ?_; clear S a; intro a S
 refine k_pure 10 S rfl (fun w => y_extract S rfl rfl) ?_; clear S a; intro a S
 refine k_pure 11 S rfl (fun w => y_assign S rfl) ?_; clear S a; intro a S
 refine k_pure 12 S rfl (fun w => y_assign S rfl) ?_; clear S a; intro a S
 refine k_end (by kernel_rfl) ?_
 refine then_normal (wp_seq (nxD (qG [1] S ?_))); clear S a; intro a S
 refine qY S (y_lenR (E := 25) S rfl (M.readAll 4 rfl (by unfold maxLen; omega)) (by kernel_rfl)) ?_; clear S a; intro a S
 refine qG [1] S ?_; clear S a; intro a S
 replace S := S.keep [10, 13, 16, 189, 190, 191, 20, 22, 205, 206]
 refine nxC (wp_block (wp_loop_g (fun m a w' => ∃ (k : Nat) (ok : Bool), k ≤ noes.length ∧ m = noes.length - k ∧ (ok = true ↔ (findP q.1.name s.ps).isSome = true ∨ q.1.name ∈ noes.take k) ∧ Sees 228 a [(10, .slice na noes.length nc), (13, .pointer (some ⟨bY1, 0, none⟩)), (16, .pointer (some ⟨bY2, 0, none⟩)), (20, .int .i64 (i : Int)), (22, .bool ok), (189, .int .i64 (ps2.length : Int)), (190, .int .i64 (i : Int)), (205, .int .i64 (noes.length : Int)), (206, .int .i64 (k : Int))] ∧ Mem w w' (.blk bY2 ((stX s.x a2 n2 s.h k2).cellsL (.slice ta ps2.length tc)).toArray 57 :: dbR lo8 hi8 ta tc cs8 ps2 :: .blk bY1 (s.st.cellsL (.slice sa s.ps.length sc)).toArray 57 :: dbR lo7 hi7 sa sc cs7 s.ps :: nmR nlo nhi na nc noes :: (es8 ++ es7))) (noes.length) ?_ ?_))
 ·skip
  exact ⟨0, _, Nat.zero_le _, rfl, by simp, S.sub _ rfl, M⟩
 clear S M a; intro m a wl
 rintro ⟨k, ok, hk, rfl, hok9, S, M⟩
 refine nxD (qG [1] S ?_); clear S a; intro a S
 refine nxC (wp_seq (st_fi (t := 207) S rfl ?_ ?_))
 ·clear S; intro h207 S
  refine st_condF S rfl (wp_exit (then_exit (then_exit (block_hit (nxE (qG [1, 1] S ?_)))))); clear S a; intro a S
  refine nxC (st_if (t := 225) S rfl ?_ ?_)
  ·clear S; intro h225 S
   exfalso
   obtain rfl : k = noes.length := by omega
   rw [List.take_length] at hok9
   have hok8 : ok = true := by
    rcases hout q (List.mem_of_getElem? hq) with h9 | h9
    ·exact hok9.2 (.inl (find_mem (nm_mem h9)))
    ·exact hok9.2 (.inr (hsub _ h9))
   rw [hok8] at h225; cases h225
  clear S; intro h225 S
  refine st_condF S rfl (wp_skip (block_normal (nxF ?_)))
  (first | refine qY S (y_addN S rfl rfl (by omega)) ?_ | refine qY S (y_int S rfl rfl rfl) ?_); clear S a; intro a S
  refine qG [1] S ?_; clear S a; intro a S
  refine nxC ?_
  exact ⟨ps2.length - (i + 1), by omega, i + 1, by omega, rfl, S.sub _ rfl, M⟩
 clear S; intro h207 S
 refine st_condT S rfl (wp_skip (then_normal (wp_seq (wp_block (nxD (qG [1, 1] S ?_)))))); clear S a; intro a S
 refine nxC ?_
 obtain ⟨x, hx⟩ : ∃ x, noes[k]? = some x := ⟨_, List.getElem?_eq_getElem (by omega)⟩
 refine wp_quiet M (by kernel_rfl) (by kernel_rfl) ?_
 refine qt_y S rfl rfl rfl (fun w M => y_move S rfl) ?_; clear S a; intro a S
 refine qt_y S rfl rfl rfl (fun w M => y_move S rfl) ?_; clear S a; intro a S
 refine st_if (t := 210) S rfl ?_ ?_
 ·clear S; intro h210 S
  refine qt_skip 11 S rfl ?_; clear S a; intro a S
  refine qt_y S rfl rfl rfl (fun w M => y_pickT S rfl rfl) ?_; clear S a; intro a S
  refine qt_y S rfl rfl rfl (fun w M => y_assign S rfl) ?_; clear S a; intro a S
  refine wpQuiet_nil ?_; clear M; intro w33 M
  refine block_normal (nxF ?_)
  (first | refine qY S (y_addN S rfl rfl (by omega)) ?_ | refine qY S (y_int S rfl rfl rfl) ?_); clear S a; intro a S
  refine qG [1] S ?_; clear S a; intro a S
  refine nxC ?_
  refine ⟨noes.length - (k + 1), by omega, k + 1, _, by omega, rfl, ?_, S.sub _ rfl, M⟩
  rw [List.take_add_one, hx, show (some x).toList = [x] from rfl, List.mem_append, List.mem_singleton, ← or_assoc, ← hok9]
  first
   | (revert h210; refine fun h210 : ok = true => ?_
      simp [h210]; done)
   | (revert h210; refine fun h210 : ok = false => ?_
      rw [h210]
      refine ⟨fun h => .inr (Nm.eqb_iff.1 h).symm, ?_⟩
      rintro (h | h)
      ·cases h
      ·exact Nm.eqb_iff.2 h.symm)
 clear S; intro h210 S
 refine qt_y S rfl rfl rfl (fun w M => y_move S rfl) ?_; clear S a; intro a S
 refine qt_y S rfl rfl rfl (fun w M => y_move S rfl) ?_; clear S a; intro a S
 refine qt_y S rfl rfl rfl (fun w M => y_indexR (e := 25) (sz := 3) S (by kernel_rfl) rfl (M.readAll 4 rfl (by unfold maxLen; omega)) rfl (by first | omega | (simp; done) | (simp; omega))) ?_; clear S a; intro a S
 try simp only [Int.toNat_natCast, Nat.mul_one, Nat.zero_add] at S
 refine qt_y S rfl rfl rfl (fun w M => y_loadAgg S (by kernel_rfl) rfl rfl ((M.readAll 4 rfl (by unfold maxLen; omega)).at_.row (i := k) (nmcells_get hx) rfl)) ?_; clear S a; intro a S
 refine qt_y S rfl rfl rfl (fun w M => y_fieldAddr (k := 271) S (by kernel_rfl) rfl) ?_; clear S a; intro a S
 refine qt_y S rfl rfl rfl (fun w M => y_load S (by kernel_rfl) rfl (M.cell 0 rfl (St.doubt hok2 _))) ?_; clear S a; intro a S
 refine qt_y S rfl rfl rfl (fun w M => y_move S rfl) ?_; clear S a; intro a S
 refine qt_y S rfl rfl rfl (fun w M => y_indexR (e := 75) (sz := 6) S (by kernel_rfl) rfl (M.readAll 1 rfl (by unfold maxLen; omega)) rfl (by first | omega | (simp; done) | (simp; omega))) ?_; clear S a; intro a S
 try simp only [Int.toNat_natCast, Nat.mul_one, Nat.zero_add] at S
 refine qt_y S rfl rfl rfl (fun w M => y_fieldAddr (k := 0) S (by kernel_rfl) rfl) ?_; clear S a; intro a S
 refine qt_y S rfl rfl rfl (fun w M => y_loadAgg S (by kernel_rfl) rfl rfl (((M.readAll 1 rfl (by unfold maxLen; omega)).at_.row (i := i) hrow rfl).sub (i := 0) (k := 3))) ?_; clear S a; intro a S
 refine qt_y S rfl rfl rfl (fun w M => y_eqlG (by kernel_rfl) S rfl rfl (fun w => equalNm 9998 x q.1.name w)) ?_; clear S a; intro a S
 refine qt_y S rfl rfl rfl (fun w M => y_pickF S rfl rfl) ?_; clear S a; intro a S
 refine qt_y S rfl rfl rfl (fun w M => y_assign S rfl) ?_; clear S a; intro a S
 refine wpQuiet_nil ?_; clear M; intro w34 M
 replace S := S.keep [10, 13, 16, 20, 189, 190, 205, 206, 207, 23, 22]
 refine block_normal (nxF ?_)
 (first | refine qY S (y_addN S rfl rfl (by omega)) ?_ | refine qY S (y_int S rfl rfl rfl) ?_); clear S a; intro a S
 refine qG [1] S ?_; clear S a; intro a S
 refine nxC ?_
 refine ⟨noes.length - (k + 1), by omega, k + 1, _, by omega, rfl, ?_, S.sub _ rfl, M⟩
 rw [List.take_add_one, hx, show (some x).toList = [x] from rfl, List.mem_append, List.mem_singleton, ← or_assoc, ← hok9]
 first
  | (revert h210; refine fun h210 : ok = true => ?_
     simp [h210]; done)
  | (revert h210; refine fun h210 : ok = false => ?_
     rw [h210]
     refine ⟨fun h => .inr (Nm.eqb_iff.1 h).symm, ?_⟩
     rintro (h | h)
     ·cases h
     ·exact Nm.eqb_iff.2 h.symm)
end Go.Proofs.YtndabhdepjnbcaaGreat

namespace Go.Proofs.YtndabhdepjnbcaaGreat
open Go.ChangeShapes Go.WideShapes Go.ChangeAt Go.RowKit Go.Joins
theorem Tryz.own : ownKnob Tryz.prog.godebug = none := by kernel_rfl
theorem Tryz.laidOut : laidOutB Tryz.prog = true := by kernel_rfl
section
variable {H : Type} {enc : TypeId × Value → H} {P : Program}
theorem trodAll_stays (hl : laidOutB P = true) {W W' : World} (hb : Below W.heap.size W W') {sp : Nat → Bool} : ∀ (ts : List TypeId) (vs : List Value) (ds : List (DataW H)) (ps : List MemPlace),
 (∀ t ∈ ts, P.readableRec t = true ∧ t < P.types.size) → (∀ p ∈ ps, p.block < W.heap.size ∧ sp p.block = true) →
 DataW.TrodAll enc P W 0 (fun _ => true) true ts vs ds ps → DataW.TrodAll enc P W' 0 sp true ts vs ds ps
 | [], vs, ds, ps, _, _, h => by
   obtain ⟨rfl, rfl, rfl⟩ := trodAll_nil h
   exact trodAll_mk0
 | t :: ts, vs, ds, ps, ht, hp, h => by
   obtain ⟨v, vs', d, ds', p, q, rfl, rfl, rfl, h0, h1⟩ := trodAll_cons h
   exact trodAll_cons_mk (WideElems.Trod_stays hl (ht t (by simp)).1 (ht t (by simp)).2 h0 (fun x hx => hb.same (hp x (by simp [hx])).1) (fun x hx => (hp x (by simp [hx])).2))
    (trodAll_stays hl hb ts vs' ds' q (fun t' h' => ht t' (by simp [h'])) (fun x hx => hp x (by simp [hx])) h1)
theorem law_post {f : Func} {s : ChangeSpec} {apart fresh handsOn again : Bool} {W W' : World} {args : Array Value} {ds gs : List (DataW H)} {before : List MemPlace} {tb : TypeId}
 (hl : laidOutB P = true) (hts : ∀ t ∈ f.params.toList, P.readableRec t = true ∧ t < P.types.size) (hv : s.vars = []) (hrt : f.resultTypes = #[tb]) (htb : P.underlying tb = some .bool)
 (hs : ∀ ds : List (DataW H), ds.length = f.params.size → s.fn H ds = { results := [.lit (.bool true)], args := ds })
 (hW : DataW.Whole enc P f.params.toList s.vars apart W args.toList ds gs before) (hb : Below W.heap.size W W') : s.post enc P f apart fresh handsOn again W args (.bool true) W' := by
 have hlt : ∀ p ∈ before, p.block < W.heap.size := fun p hp => hW.lt p hp
 have hW' := hW
 obtain ⟨p, q, hA, hV, rfl, hfz, hnd⟩ := hW
 rw [hv] at hV
 obtain ⟨rfl, rfl⟩ := trodVars_none hV
 have hlen : ds.length = f.params.size := by
  have : ∀ (ts : List TypeId) (vs : List Value) (ds : List (DataW H)) (ps : List MemPlace), DataW.TrodAll enc P W 0 (fun _ => true) true ts vs ds ps → ds.length = ts.length := by
   intro ts
   induction ts with
   | nil => intro vs ds ps h; obtain ⟨_, rfl, _⟩ := trodAll_nil h; rfl
   | cons t ts ih => intro vs ds ps h; obtain ⟨v, vs', d, ds', p, q, _, rfl, _, _, h1⟩ := trodAll_cons h; simp [ih _ _ _ h1]
  simpa using this _ _ _ _ hA
 have e := hs ds hlen
 have args_read : ∀ sp : Nat → Bool, (∀ x ∈ p ++ [], sp x.block = true) → DataW.TrodAll enc P W' 0 sp true f.params.toList args.toList ds p := fun sp hsp =>
  trodAll_stays hl hb _ _ _ _ hts (fun x hx => ⟨hlt x (by simp [hx]), hsp x (by simp [hx])⟩) hA
 have res_read : ∀ (b : Nat) (sp : Nat → Bool) (hd : Bool), DataW.TrodAll enc P W' b sp hd f.resultTypes.toList (Value.resultList f.resultTypes.size (.bool true)) [.lit (.bool true)] [] := fun b sp hd => by
  rw [hrt]; exact trodAll_mk1 (shut_bool htb _)
 have no_vars : ∀ sp : Nat → Bool, DataW.TrodVars enc P W' sp s.vars ([] : List (DataW H)) [] := fun sp => by rw [hv]; rfl
 have hold : ∀ x ∈ p ++ [], (fun b => decide (b < W.heap.size)) x.block = true := fun x hx => by simpa using hlt x hx
 have e' : s.fn H (ds ++ []) = { results := [.lit (.bool true)], args := ds } := by rw [List.append_nil]; exact e
 refine ⟨ds, [], p ++ [], [], p, [], hW', ?_, ?_, ?_, World.keptBut_mono (fun x hx => ⟨hx, ?_⟩) (hb.frame (· ∈ p ++ [])), fun _ => ?_⟩
 ·rw [e']; exact res_read _ _ _
 ·rw [e']; exact args_read _ hold
 ·rw [e']; exact no_vars _
 ·exact Or.inr (by simpa using hx)
 ·refine ⟨ok_one hrt rfl (okWide_bool_mk htb _), _, _, ([] ++ p) ++ [], ⟨[] ++ p, [], trodAll_append (args_read _ (fun _ _ => rfl)) (res_read _ _ _), no_vars _, rfl, fun b off hx => ?_, fun ha => by simpa using hnd ha⟩, fun x hx _ => by simpa using hx⟩
  have hin : MemPlace.cell b off ∈ p ++ [] := by simpa using hx
  rw [hb.frozen (hlt _ hin)]
  exact hfz b off hin
end
end Go.Proofs.YtndabhdepjnbcaaGreat
namespace Go.Proofs.YtndabhdepjnbcaaGreat
open Go.ChangeShapes Go.WideShapes Go.ChangeAt Go.RowKit Go.Joins
section
variable {H : Type} {enc : TypeId × Value → H} {P : Program} {W : World} {base : Nat} {t : TypeId} {v : Value} {d : DataW H} {ps : List MemPlace}
theorem cells_one {x : Value} (h : v.cells.toList = [x]) (hna : ∀ cs, v ≠ .agg cs) : v = x := by
 cases v <;> first | exact absurd rfl (hna _) | (simp [Value.cells] at h; exact h)
end
end Go.Proofs.YtndabhdepjnbcaaGreat
namespace Go.Proofs.YtndabhdepjnbcaaGreat
open Go.ChangeShapes Go.WideShapes Go.ChangeAt Go.RowKit Go.Joins
section
variable {H : Type} {enc : TypeId × Value → H} {P : Program} {W : World} {base : Nat} {t : TypeId} {v : Value} {d : DataW H} {ps : List MemPlace}
end
end Go.Proofs.YtndabhdepjnbcaaGreat
namespace Go.Proofs.YtndabhdepjnbcaaGreat
open Go.ChangeShapes Go.WideShapes Go.ChangeAt Go.RowKit Go.Joins
section
variable {H : Type} {enc : TypeId × Value → H} {P : Program} {W : World} {t : TypeId} {cs : List Value}
def Rdt (enc : TypeId × Value → H) (P : Program) (W : World) (t : TypeId) (cs : List Value) : Prop := ∃ n x, DataW.trod enc P W 0 (fun _ => true) true n t cs = some x
theorem Rdt.int {k : IntKind} (h : Rdt enc P W t cs) (ht : P.underlying t = some (.int k)) : ∃ z, cs = [.int k z] ∧ k.min ≤ z ∧ z ≤ k.max := by
 obtain ⟨n, x, h⟩ := h
 obtain ⟨z, e, -, hw⟩ := DataW.trod_int ht h
 simp only [Lit.wf, Bool.and_eq_true, decide_eq_true_eq] at hw
 exact ⟨z, e, hw⟩
theorem Rdt.i64 (h : Rdt enc P W t cs) (ht : P.underlying t = some (.int .i64)) : ∃ z, cs = [.int .i64 z] ∧ -9223372036854775808 ≤ z ∧ z ≤ 9223372036854775807 := by
 obtain ⟨z, e, h1, h2⟩ := h.int ht
 have e1 : IntKind.i64.min = -9223372036854775808 := rfl
 have e2 : IntKind.i64.max = 9223372036854775807 := rfl
 exact ⟨z, e, by omega, by omega⟩
theorem Rdt.u8 (h : Rdt enc P W t cs) (ht : P.underlying t = some (.int .u8)) : ∃ b : UInt8, cs = [.int .u8 (b.toNat : Int)] := by
 obtain ⟨z, e, h1, h2⟩ := h.int ht
 have e1 : IntKind.u8.min = 0 := rfl
 have e2 : IntKind.u8.max = 255 := rfl
 refine ⟨UInt8.ofNat z.toNat, ?_⟩
 rw [e]; simp; omega
theorem Rdt.bool (h : Rdt enc P W t cs) (ht : P.underlying t = some .bool) : ∃ b, cs = [.bool b] := by
 obtain ⟨n, x, h⟩ := h
 obtain ⟨b, e, -⟩ := DataW.trod_bool ht h
 exact ⟨b, e⟩
theorem Rdt.len_struct {fs : Array Field} (h : Rdt enc P W t cs) (ht : P.underlying t = some (.struct fs)) : cs.length = P.cellsOf t := by
 obtain ⟨n, x, h⟩ := h
 obtain ⟨xs, m, -, -, hl, -, -⟩ := DataW.trod_struct ht h
 exact hl
theorem Rdt.field {fs : Array Field} (h : Rdt enc P W t cs) (ht : P.underlying t = some (.struct fs)) (i : Nat) {f : Field} (hf : fs[i]? = some f) {k : Nat} (hk : P.cellsOf f.type = k) : Rdt enc P W f.type ((cs.drop f.offset).take k) := by
 obtain ⟨n, x, h⟩ := h
 obtain ⟨xs, m, -, -, hl, hlen, hx⟩ := DataW.trod_struct ht h
 have hlt : i < xs.length := by rw [hlen]; exact (Array.getElem?_eq_some_iff.1 hf).1
 subst hk
 exact ⟨m, xs[i], by rw [← List.getElem?_eq_getElem hlt]; exact hx i f hf⟩
theorem Rdt.len_array {m : Nat} {e : TypeId} (h : Rdt enc P W t cs) (ht : P.underlying t = some (.array m e)) : cs.length = P.cellsOf t := by
 obtain ⟨n, x, h⟩ := h
 obtain ⟨xs, m, -, -, hl, -, -⟩ := DataW.trod_array ht h
 exact hl
theorem Rdt.elem {m : Nat} {e : TypeId} (h : Rdt enc P W t cs) (ht : P.underlying t = some (.array m e)) {k : Nat} (hk : P.cellsOf e = k) (i : Nat) (hi : i < m) : Rdt enc P W e ((cs.drop (i * k)).take k) := by
 obtain ⟨n, x, h⟩ := h
 obtain ⟨xs, q, -, -, hl, hlen, hx⟩ := DataW.trod_array ht h
 have hlt : i < xs.length := by rw [hlen]; exact hi
 subst hk
 exact ⟨q, xs[i], by rw [← List.getElem?_eq_getElem hlt]; exact hx i hi⟩
theorem list_of {α : Type} {Q : Nat → α → Prop} : ∀ (n : Nat), (∀ i, i < n → ∃ a, Q i a) → ∃ xs : List α, xs.length = n ∧ ∀ i a, xs[i]? = some a → Q i a
 | 0, _ => ⟨[], rfl, fun i a h => by simp at h⟩
 | n + 1, h => by
   obtain ⟨xs, hl, hx⟩ := list_of n (fun i hi => h i (by omega))
   obtain ⟨a, ha⟩ := h n (by omega)
   refine ⟨xs ++ [a], by simp [hl], fun i b hb => ?_⟩
   rcases Nat.lt_or_ge i n with hi | hi
   ·rw [List.getElem?_append_left (by omega)] at hb; exact hx i b hb
   ·rw [List.getElem?_append_right (by omega)] at hb
    have : i - xs.length = 0 := by
     rcases Nat.eq_zero_or_pos (i - xs.length) with h0 | h0
     ·exact h0
     ·rw [List.getElem?_eq_none (by simp; omega)] at hb; cases hb
    rw [this] at hb
    obtain rfl : a = b := by simpa using hb
    obtain rfl : i = n := by omega
    exact ha
theorem addr_add2 (ad : Addr) (m j : Nat) : (ad.add m).add j = ad.add (m + j) := by
 unfold Addr.add
 by_cases h1 : m = 0
 ·subst h1; simp
 ·by_cases h2 : j = 0
  ·subst h2; simp
  ·simp [h1, h2, Nat.add_assoc]
theorem flat_get {sz : Nat} : ∀ (l : List (List Value)) (i j : Nat) (r : List Value), (∀ r ∈ l, r.length = sz) → l[i]? = some r → j < sz → l.flatten[i * sz + j]? = r[j]?
 | [], i, j, r, _, h, _ => by simp at h
 | x :: l, 0, j, r, hl, h, hj => by
   obtain rfl : x = r := by simpa using h
   have := hl x (by simp)
   rw [Nat.zero_mul, Nat.zero_add, List.flatten_cons, List.getElem?_append_left (by omega)]
 | x :: l, i + 1, j, r, hl, h, hj => by
   have hx := hl x (by simp)
   have := flat_get l i j r (fun q hq => hl q (by simp [hq])) (by simpa using h) hj
   rw [List.flatten_cons, List.getElem?_append_right (by rw [hx, Nat.succ_mul]; omega), ← this, hx]
   congr 1; rw [Nat.succ_mul]; omega
theorem flat_len {sz : Nat} : ∀ (l : List (List Value)), (∀ r ∈ l, r.length = sz) → l.flatten.length = l.length * sz
 | [], _ => by simp
 | x :: l, hl => by rw [List.flatten_cons, List.length_append, flat_len l (fun q hq => hl q (by simp [hq])), hl x (by simp), List.length_cons, Nat.succ_mul]; omega
theorem Rdt.rows {α : Type} {Φ : α → List Value → Prop} {e sz : Nat} (h : Rdt enc P W t cs) (ht : P.underlying t = some (.slice e)) (hc : P.cellsOf e = sz) (hsz : 0 < sz) (hl : ∀ a cs, Φ a cs → cs.length = sz) (he : ∀ cs, Rdt enc P W e cs → ∃ a, Φ a cs) :
 ∃ u css, ∃ xs : List α, cs = [u] ∧ Rd 0 W.heap.size W sz u xs.length css ∧ ∀ i a, xs[i]? = some a → Φ a ((css.drop (i * sz)).take sz) := by
 obtain ⟨n, x, h⟩ := h
 rcases DataW.trod_slice ht h with ⟨rfl, -⟩ | ⟨ad, len, cap, elems, rest, m, -, rfl, -, -, hlc, hcm, hlen, hel, -, -⟩
 ·exact ⟨_, [], [], rfl, Rd.nil _ _ _ _, fun i a h => by simp at h⟩
 ·have each : ∀ i, i < len → ∃ q : α × List Value, W.cells? 0 (ad.add (i * sz)) sz = some q.2 ∧ Φ q.1 q.2 := fun i hi => by
   have h1 := hel i hi
   rw [hc, List.getElem?_eq_getElem (by omega)] at h1
   obtain ⟨r, h2, h3⟩ := Option.bind_eq_some_iff.1 h1
   obtain ⟨a, ha⟩ := he r ⟨m, _, h3⟩
   exact ⟨(a, r), h2, ha⟩
  obtain ⟨qs, hql, hq⟩ := list_of len each
  have hrl : ∀ r ∈ qs.map (·.2), r.length = sz := fun r hr => by
   obtain ⟨q, hq1, rfl⟩ := List.mem_map.1 hr
   obtain ⟨i, hi⟩ := List.getElem?_of_mem hq1
   exact hl _ _ (hq i q hi).2
  have hcell : ∀ i j (r : List Value), (qs.map (·.2))[i]? = some r → j < sz → W.cell? (ad.add (i * sz + j)) = r[j]? := fun i j r hr hj => by
   rw [List.getElem?_map, Option.map_eq_some_iff] at hr
   obtain ⟨q, hq1, rfl⟩ := hr
   obtain ⟨-, h2, h3⟩ := World.cells?_some (hq i q hq1).1
   have := h3 j hj
   rw [← this, addr_add2]
  have hfl := flat_len (qs.map (·.2)) hrl
  rw [List.length_map, hql] at hfl
  have hsp : 0 < len → ad.spot = none ∧ ad.block < W.heap.size := fun h0 => by
   obtain ⟨q, hq0⟩ : ∃ q, qs[0]? = some q := ⟨_, List.getElem?_eq_getElem (by omega)⟩
   have hr0 : (qs.map (·.2))[0]? = some q.2 := by simp [hq0]
   have h1 := hcell 0 0 q.2 hr0 hsz
   have hq2 := hrl q.2 (List.mem_of_getElem? hr0)
   rw [Nat.zero_mul, Nat.add_zero, show ad.add 0 = ad from rfl, List.getElem?_eq_getElem (by omega)] at h1
   refine ⟨?_, block_lt_of_cell h1⟩
   unfold World.cell? at h1
   split at h1
   ·split at h1
    ·cases h1
    ·rename_i hs; simpa using hs
   ·cases h1
  refine ⟨_, (qs.map (·.2)).flatten, qs.map (·.1), rfl, ?_, fun i a ha => ?_⟩
  ·rw [List.length_map, hql]
   refine ⟨hfl, by omega, .inr ⟨ad, cap, rfl, hlc, hcm, fun j hj => ?_, fun h0 => ⟨(hsp h0).1, Nat.zero_le _, (hsp h0).2⟩⟩⟩
   rw [hfl] at hj
   have hlen0 : 0 < len := by rcases Nat.eq_zero_or_pos len with h | h; · rw [h] at hj; simp at hj
                              ·exact h
   have hi : j / sz < len := Nat.div_lt_of_lt_mul (by rw [Nat.mul_comm]; exact hj)
   have hm := Nat.mod_lt j hsz
   have ej : j = j / sz * sz + j % sz := by rw [Nat.mul_comm]; exact (Nat.div_add_mod j sz).symm
   obtain ⟨q, hq1⟩ : ∃ q, qs[j / sz]? = some q := ⟨_, List.getElem?_eq_getElem (by omega)⟩
   have hr1 : (qs.map (·.2))[j / sz]? = some q.2 := by simp [hq1]
   have h1 := hcell (j / sz) (j % sz) q.2 hr1 hm
   have h2 := flat_get _ (j / sz) (j % sz) q.2 hrl hr1 hm
   rw [← ej] at h1 h2
   rw [h2, ← h1]
   obtain ⟨b, o, sp⟩ := ad
   have : sp = none := (hsp hlen0).1
   subst this
   rw [addr_add]
  ·rw [List.getElem?_map, Option.map_eq_some_iff] at ha
   obtain ⟨q, hq1, rfl⟩ := ha
   have hr1 : (qs.map (·.2))[i]? = some q.2 := by simp [hq1]
   have hq2 := hrl q.2 (List.mem_of_getElem? hr1)
   have : ((qs.map (·.2)).flatten.drop (i * sz)).take sz = q.2 := by
    apply List.ext_getElem?
    intro j
    rcases Nat.lt_or_ge j sz with hj | hj
    ·rw [List.getElem?_take_of_lt hj, List.getElem?_drop, flat_get _ i j q.2 hrl hr1 hj]
    ·rw [List.getElem?_eq_none (by simp; omega), List.getElem?_eq_none (by omega)]
   rw [this]
   exact (hq i q hq1).2
theorem rows_flat {α : Type} {f : α → List Value} {sz : Nat} : ∀ (xs : List α) (css : List Value), css.length = xs.length * sz → (∀ a, (f a).length = sz) → (∀ i a, xs[i]? = some a → (css.drop (i * sz)).take sz = f a) → css = xs.flatMap f
 | [], css, hl, _, _ => by simpa using List.eq_nil_of_length_eq_zero (by simpa using hl)
 | x :: xs, css, hl, hf, h => by
   have h0 := h 0 x rfl
   rw [Nat.zero_mul, List.drop_zero] at h0
   have hr := rows_flat xs (css.drop sz) (by rw [List.length_drop, hl, List.length_cons, Nat.succ_mul]; omega) hf (fun i a hi => by
    have := h (i + 1) a (by simpa using hi)
    rw [List.drop_drop, ← this]; congr 2; rw [Nat.succ_mul]; omega)
   rw [List.flatMap_cons, ← h0, ← hr, List.take_append_drop]
theorem Rdt.flat {α : Type} {f : α → List Value} {e sz : Nat} (h : Rdt enc P W t cs) (ht : P.underlying t = some (.slice e)) (hc : P.cellsOf e = sz) (hsz : 0 < sz) (hl : ∀ a, (f a).length = sz) (he : ∀ cs, Rdt enc P W e cs → ∃ a, cs = f a) :
 ∃ u, ∃ xs : List α, cs = [u] ∧ Rd 0 W.heap.size W sz u xs.length (xs.flatMap f) := by
 obtain ⟨u, css, xs, rfl, hR, hx⟩ := h.rows (Φ := fun a cs => cs = f a) ht hc hsz (fun a cs h => by rw [h]; exact hl a) he
 rw [rows_flat xs css hR.1 hl hx] at hR
 exact ⟨u, xs, rfl, hR⟩
theorem rdt_slice {e : TypeId} {base : Nat} {v : Value} {d : DataW H} {ps : List MemPlace} (ht : P.underlying t = some (.slice e)) (hv : Value.okWide P W .any base t v) (h : DataW.Trod enc P W 0 (fun _ => true) true t v d ps) : ∃ cs : List Value, Rdt enc P W t cs ∧ ∀ u, cs = [u] → v = u := by
 obtain ⟨fuel, h⟩ := h
 refine ⟨_, ⟨fuel, _, h⟩, fun u hu => ?_⟩
 unfold Value.okWide at hv
 simp only [ht] at hv
 have hv' : Cell.okWide P W .any base t v := hv
 have hna : ∀ cs, v ≠ .agg cs := fun cs hc => by subst hc; simp [Cell.okWide, Cell.ok, ht] at hv'
 exact cells_one hu hna
end
end Go.Proofs.YtndabhdepjnbcaaGreat

namespace Go.Proofs.YtndabhdepjnbcaaGreat
open Go.ChangeShapes Go.WideShapes Go.ChangeAt Go.RowKit Go.Joins
section
variable {H : Type} {enc : TypeId × Value → H} {W : World} {cs : List Value}
end
end Go.Proofs.YtndabhdepjnbcaaGreat

namespace Go.Proofs.YtndabhdepjnbcaaGreat
open Go.ChangeShapes Go.WideShapes Go.ChangeAt Go.RowKit Go.Joins
section
variable {H : Type} {enc : TypeId × Value → H} {W : World} {cs : List Value}
theorem rdt_kept (h : Rdt enc Tryz.prog W 42 cs) : ∃ pa pc plan, cs = [.slice pa plan.length pc] ∧ Rd 0 W.heap.size W 2 (.slice pa plan.length pc) plan.length (kcells plan) := by
 obtain ⟨u, plan, e, hR⟩ := h.flat (f := kcellsL) (sz := 2) Tryz.underlying42 (by kernel_rfl) (by omega) (fun _ => rfl) (fun cs h => by
  have hl := h.len_struct Tryz.underlying136
  rw [show Tryz.prog.cellsOf 136 = 2 by kernel_rfl] at hl
  match cs, hl with
  | [c0, c1], _ =>
    have k1 : Tryz.prog.cellsOf 3 = 1 := by kernel_rfl
    obtain ⟨z0, e0, -⟩ := (show Rdt enc Tryz.prog W 3 [c0] from h.field Tryz.underlying136 0 rfl k1).i64 Tryz.underlying3
    obtain ⟨z1, e1, -⟩ := (show Rdt enc Tryz.prog W 3 [c1] from h.field Tryz.underlying136 1 rfl k1).i64 Tryz.underlying3
    cases e0; cases e1
    exact ⟨(z0, z1), rfl⟩)
 obtain ⟨va, vc, rfl, -, -⟩ := hR.form
 exact ⟨va, vc, plan, e, hR⟩
end
end Go.Proofs.YtndabhdepjnbcaaGreat

namespace Go.Proofs.YtndabhdepjnbcaaGreat
open Go.ChangeShapes Go.WideShapes Go.ChangeAt Go.RowKit Go.Joins
section
variable {H : Type} {enc : TypeId × Value → H} {W : World} {cs : List Value}
theorem rdt_nm (h : Rdt enc Tryz.prog W 25 cs) : ∃ n : Nm, cs = n.cells.toList := by
 have hl := h.len_struct Tryz.underlying25
 rw [show Tryz.prog.cellsOf 25 = 3 by kernel_rfl] at hl
 match cs, hl with
 | [c0, c1, c2], _ =>
   have k1 : Tryz.prog.cellsOf 3 = 1 := by kernel_rfl
   obtain ⟨z0, e0, -⟩ := (show Rdt enc Tryz.prog W 3 [c0] from h.field Tryz.underlying25 0 rfl k1).i64 Tryz.underlying3
   obtain ⟨z1, e1, -⟩ := (show Rdt enc Tryz.prog W 3 [c1] from h.field Tryz.underlying25 1 rfl k1).i64 Tryz.underlying3
   obtain ⟨z2, e2, -⟩ := (show Rdt enc Tryz.prog W 3 [c2] from h.field Tryz.underlying25 2 rfl k1).i64 Tryz.underlying3
   cases e0; cases e1; cases e2
   exact ⟨⟨z0, z1, z2⟩, rfl⟩
theorem rdt_v8 (h : Rdt enc Tryz.prog W 53 cs) : ∃ v : V8, cs = v.cellsL := by
 have hl := h.len_array Tryz.underlying53
 rw [show Tryz.prog.cellsOf 53 = 8 by kernel_rfl] at hl
 match cs, hl with
 | [c0, c1, c2, c3, c4, c5, c6, c7], _ =>
   have k1 : Tryz.prog.cellsOf 5 = 1 := by kernel_rfl
   obtain ⟨z0, e0⟩ := (show Rdt enc Tryz.prog W 5 [c0] from h.elem Tryz.underlying53 k1 0 (by omega)).u8 Tryz.underlying5
   obtain ⟨z1, e1⟩ := (show Rdt enc Tryz.prog W 5 [c1] from h.elem Tryz.underlying53 k1 1 (by omega)).u8 Tryz.underlying5
   obtain ⟨z2, e2⟩ := (show Rdt enc Tryz.prog W 5 [c2] from h.elem Tryz.underlying53 k1 2 (by omega)).u8 Tryz.underlying5
   obtain ⟨z3, e3⟩ := (show Rdt enc Tryz.prog W 5 [c3] from h.elem Tryz.underlying53 k1 3 (by omega)).u8 Tryz.underlying5
   obtain ⟨z4, e4⟩ := (show Rdt enc Tryz.prog W 5 [c4] from h.elem Tryz.underlying53 k1 4 (by omega)).u8 Tryz.underlying5
   obtain ⟨z5, e5⟩ := (show Rdt enc Tryz.prog W 5 [c5] from h.elem Tryz.underlying53 k1 5 (by omega)).u8 Tryz.underlying5
   obtain ⟨z6, e6⟩ := (show Rdt enc Tryz.prog W 5 [c6] from h.elem Tryz.underlying53 k1 6 (by omega)).u8 Tryz.underlying5
   obtain ⟨z7, e7⟩ := (show Rdt enc Tryz.prog W 5 [c7] from h.elem Tryz.underlying53 k1 7 (by omega)).u8 Tryz.underlying5
   cases e0; cases e1; cases e2; cases e3; cases e4; cases e5; cases e6; cases e7
   exact ⟨⟨z0, z1, z2, z3, z4, z5, z6, z7⟩, rfl⟩
theorem rdt_wr (h : Rdt enc Tryz.prog W 60 cs) : ∃ x : Wr, cs = x.cellsL := by
 have hl := h.len_struct Tryz.underlying60
 rw [show Tryz.prog.cellsOf 60 = 9 by kernel_rfl] at hl
 match cs, hl with
 | [c0, c1, c2, c3, c4, c5, c6, c7, c8], _ =>
   obtain ⟨z0, e0, -⟩ := (show Rdt enc Tryz.prog W 3 [c0] from h.field Tryz.underlying60 0 rfl (k := 1) (by kernel_rfl)).i64 Tryz.underlying3
   obtain ⟨v, e1⟩ := rdt_v8 (show Rdt enc Tryz.prog W 53 [c1, c2, c3, c4, c5, c6, c7, c8] from h.field Tryz.underlying60 1 rfl (k := 8) (by kernel_rfl))
   cases e0
   exact ⟨⟨z0, v⟩, by rw [e1]⟩
theorem rdt_ws {t : TypeId} (h : Rdt enc Tryz.prog W t cs) (ht : Tryz.prog.underlying t = some (.slice 60)) : ∃ u x, cs = [u] ∧ Ws 0 W.heap.size W u x :=
 h.flat (f := Wr.cellsL) ht (by kernel_rfl) (by omega) (fun _ => rfl) (fun _ h => rdt_wr h)
theorem rdt_rec (h : Rdt enc Tryz.prog W 30 cs) : ∃ (r : Rc) (v : Value) (x : List Wr), cs = (r.cells v).toList ∧ Ws 0 W.heap.size W v x ∧ (-128 ≤ r.kind ∧ r.kind ≤ 127) ∧ r.shards ≤ 9223372036854775807 := by
 have hl := h.len_struct Tryz.underlying30
 rw [show Tryz.prog.cellsOf 30 = 12 by kernel_rfl] at hl
 match cs, hl with
 | [c0, c1, c2, c3, c4, c5, c6, c7, c8, c9, c10, c11], _ =>
   have k1 : Tryz.prog.cellsOf 3 = 1 := by kernel_rfl
   obtain ⟨z0, e0, hz0⟩ := (show Rdt enc Tryz.prog W 23 [c0] from h.field Tryz.underlying30 0 rfl (k := 1) (by kernel_rfl)).int Tryz.underlying23
   obtain ⟨n, e1⟩ := rdt_nm (show Rdt enc Tryz.prog W 25 [c1, c2, c3] from h.field Tryz.underlying30 1 rfl (k := 3) (by kernel_rfl))
   obtain ⟨y, e4⟩ := (show Rdt enc Tryz.prog W 4 [c4] from h.field Tryz.underlying30 2 rfl (k := 1) (by kernel_rfl)).bool Tryz.underlying4
   obtain ⟨u, x, e5, hw⟩ := rdt_ws (show Rdt enc Tryz.prog W 26 [c5] from h.field Tryz.underlying30 3 rfl (k := 1) (by kernel_rfl)) Tryz.underlying26
   obtain ⟨z6, e6, -⟩ := (show Rdt enc Tryz.prog W 3 [c6] from h.field Tryz.underlying30 4 rfl k1).i64 Tryz.underlying3
   obtain ⟨z7, e7, -⟩ := (show Rdt enc Tryz.prog W 3 [c7] from h.field Tryz.underlying30 5 rfl k1).i64 Tryz.underlying3
   obtain ⟨z8, e8, hz8⟩ := (show Rdt enc Tryz.prog W 3 [c8] from h.field Tryz.underlying30 6 rfl k1).i64 Tryz.underlying3
   have hc := (show Rdt enc Tryz.prog W 28 [c9, c10] from h.field Tryz.underlying30 7 rfl (k := 2) (by kernel_rfl))
   obtain ⟨z9, e9, -⟩ := (show Rdt enc Tryz.prog W 3 [c9] from hc.field Tryz.underlying28 0 rfl k1).i64 Tryz.underlying3
   obtain ⟨z10, e10, -⟩ := (show Rdt enc Tryz.prog W 3 [c10] from hc.field Tryz.underlying28 1 rfl k1).i64 Tryz.underlying3
   obtain ⟨z11, e11, -⟩ := (show Rdt enc Tryz.prog W 3 [c11] from h.field Tryz.underlying30 8 rfl k1).i64 Tryz.underlying3
   have e1' : c1 = .int .i64 n.stamp ∧ c2 = .int .i64 n.inc ∧ c3 = .int .i64 n.try_ := by simpa using e1
   obtain ⟨rfl, rfl, rfl⟩ := e1'
   cases e0; cases e4; cases e5; cases e6; cases e7; cases e8; cases e9; cases e10; cases e11
   have m1 : IntKind.i8.min = -128 := rfl
   have m2 : IntKind.i8.max = 127 := rfl
   exact ⟨⟨z0, n, y, z6, z7, z8, z9, z10, z11⟩, c5, x, rfl, hw, by simp only; omega, hz8.2⟩
end
end Go.Proofs.YtndabhdepjnbcaaGreat

namespace Go.Proofs.YtndabhdepjnbcaaGreat
open Go.ChangeShapes Go.WideShapes Go.ChangeAt Go.RowKit Go.Joins
section
variable {H : Type} {enc : TypeId × Value → H} {W : World} {cs : List Value}
theorem rdt_act11 (h : Rdt enc Tryz.prog W 44 cs) : ∃ (q : Act11) (wv pv : Value), cs = q.cellsL wv pv ∧ q.r.shards ≤ 9223372036854775807 ∧ Ws 0 W.heap.size W wv q.x ∧ Rd 0 W.heap.size W 2 pv q.plan.length (kcells q.plan) := by
 have hl := h.len_struct Tryz.underlying44
 rw [show Tryz.prog.cellsOf 44 = 15 by kernel_rfl] at hl
 match cs, hl with
 | [c0, c1, c2, c3, c4, c5, c6, c7, c8, c9, c10, c11, c12, c13, c14], _ =>
   have k1 : Tryz.prog.cellsOf 3 = 1 := by kernel_rfl
   obtain ⟨z0, e0, -⟩ := (show Rdt enc Tryz.prog W 3 [c0] from h.field Tryz.underlying44 0 rfl k1).i64 Tryz.underlying3
   obtain ⟨z1, e1, -⟩ := (show Rdt enc Tryz.prog W 3 [c1] from h.field Tryz.underlying44 1 rfl k1).i64 Tryz.underlying3
   obtain ⟨r, v, x, e2, hw, -, hs⟩ := rdt_rec (show Rdt enc Tryz.prog W 30 [c2, c3, c4, c5, c6, c7, c8, c9, c10, c11, c12, c13] from h.field Tryz.underlying44 2 rfl (k := 12) (by kernel_rfl))
   obtain ⟨pa, pc, plan, e14, hP⟩ := rdt_kept (show Rdt enc Tryz.prog W 42 [c14] from h.field Tryz.underlying44 3 rfl (k := 1) (by kernel_rfl))
   cases e0; cases e1; cases e14
   refine ⟨⟨z0, z1, r, x, plan⟩, v, .slice pa plan.length pc, ?_, hs, hw, hP⟩
   have e2' : [c2, c3, c4, c5, c6, c7, c8, c9, c10, c11, c12, c13] = (r.cells v).toList := e2
   show .int .i64 z0 :: .int .i64 z1 :: ([c2, c3, c4, c5, c6, c7, c8, c9, c10, c11, c12, c13] ++ [.slice pa plan.length pc]) = _
   rw [e2']; rfl
theorem rdt_acts11 {t : TypeId} (h : Rdt enc Tryz.prog W t cs) (ht : Tryz.prog.underlying t = some (.slice 44)) : ∃ va vc css l, cs = [.slice va l.length vc] ∧ RowS css 0 W.heap.size W (.slice va l.length vc) l := by
 obtain ⟨u, css, xs, e, hR, hx⟩ := h.rows (α := Act11) (Φ := fun q cs => ∃ wv pv, cs = q.cellsL wv pv ∧ q.r.shards ≤ 9223372036854775807 ∧ Ws 0 W.heap.size W wv q.x ∧ Rd 0 W.heap.size W 2 pv q.plan.length (kcells q.plan)) (sz := 15) ht (by kernel_rfl) (by omega) (fun q cs ⟨wv, pv, e, _⟩ => by rw [e]; rfl) (fun cs h => rdt_act11 h)
 obtain ⟨va, vc, rfl, -, -⟩ := hR.form
 refine ⟨va, vc, css, xs, e, hR, fun i q hq => ?_⟩
 obtain ⟨wv, pv, e1, hs, hW, hP⟩ := hx i q hq
 obtain ⟨wa, wc, rfl, -, -⟩ := hW.form
 obtain ⟨pa, pc, rfl, -, -⟩ := hP.form
 exact ⟨hs, wa, wc, pa, pc, e1, hW, hP⟩
end
end Go.Proofs.YtndabhdepjnbcaaGreat

