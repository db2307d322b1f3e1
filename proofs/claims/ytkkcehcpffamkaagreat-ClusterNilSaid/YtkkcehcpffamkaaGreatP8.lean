/-
  What ClusterNil rests on, part 8.
-/
import Derived.Test.YtkkcehcpffamkaaGreatP7
namespace Go.Proofs.YtkkcehcpffamkaaGreat
open Go.RowKit Go.Sort
abbrev clD (pd pl sl : Value) (la : Int) (ov : Value) (nx bd : Int) (si an hs : Value) : List Value := [.bool true, pd, pl, nS, sl, .int .i64 la, .int .i64 1, ov, .int .i64 nx, .int .i64 bd, .int .i64 0, .int .i64 1, .int .i64 0, .int .i64 0, .int .i64 0, .int .i64 0, .int .i64 0, .int .i8 0, .int .i64 0, .int .i64 0, .int .i64 0, .int .i64 0, .int .i64 0, .int .i64 0, .int .i64 0, nS, .int .i64 0, .int .i64 0, .int .i64 0, .int .i64 0, .int .i64 0, si, nS, an, hs]
theorem send0_any (x : Value) (k : List Value) (w : World) : Calls Tryz.prog 86 #[x, .agg #[.int .i64 0, .int .i64 1, .int .i64 0, .int .i64 0, .int .i64 0, .int .i64 0, .int .i64 0], nS] w fun e w' => e = .returned (.tuple #[]) ∧ Below w.heap.size w w' := by
 have M := Mem.start w
 refine calls_enter Tryz.func86 rfl 47 rfl rfl ?_; intro a S
 refine nxD (st_box S M rfl rfl rfl #[_, _, _, _, _, _, _] rfl ?_); intro a w1 bB S M hB
 refine nxA (qG [1] S ?_); intro a S
 refine qY S (y_lenS (E := 52) S rfl (by kernel_rfl)) ?_; intro a S
 refine qG [1] S ?_; intro a S
 refine nxC (wp_block (wp_loop_g (fun m a w' => m = 0 ∧ Sees 47 a [(12, nS), (13, .int .i64 0), (14, .int .i64 0)] ∧ Mem w w' []) (0) ?_ ?_))
 ·skip
  replace M := M.drp 0
  exact ⟨rfl, S.sub _ rfl, M⟩
 intro m a wl
 rintro ⟨rfl, S, M⟩
 refine nxD (qG [1] S ?_); intro a S
 refine nxC (wp_seq (st_if (t := 15) S rfl ?_ ?_))
 ·intro h15 S
  exfalso; omega
 intro h15 S
 refine st_condF S rfl (wp_exit (then_exit (then_exit (block_hit (end_noneN S rfl ?_)))))
 exact ⟨rfl, M.below⟩
set_option maxHeartbeats 2000000 in
theorem told0_any {wc w : World} {H : List Ent} {bC lo1 hi1 lo2 hi2 : Nat} (pd pl sl : Value) (la : Int) (ov : Value) (nx bd : Int) (si : Value) (aa ha : Option Addr) (ac hc : Nat) (xa xs : List Value) (h1 : allOne xa = true) (h2 : allOne xs = true)
 (M : Mem wc w (.blk bC (clD pd pl sl la ov nx bd si nS nS).toArray 106 :: rowE lo1 hi1 81 13 (.slice aa 1 ac) 1 xa :: rowE lo2 hi2 118 14 (.slice ha 1 hc) 1 xs :: H)) :
 Calls Tryz.prog 82 #[pB bC, pB bC, .agg #[nS, .slice aa 1 ac, .slice ha 1 hc, nS, nS]] w fun e w' => e = .returned (.tuple #[]) ∧ ∃ a2 c2 lo3 hi3 a4 c4 lo5 hi5, Mem wc w' (.blk bC (clD pd pl sl la ov nx bd si (.slice a2 1 c2) (.slice a4 1 c4)).toArray 106 :: rowE lo3 hi3 81 13 (.slice a2 1 c2) 1 xa :: rowE lo5 hi5 118 14 (.slice a4 1 c4) 1 xs :: H) := by
 refine calls_enter Tryz.func82 rfl 80 rfl rfl ?_; intro a S
 refine wp_seq ?_
 replace M := (M.rowNil 81 13).rowNil 118 14
 refine wp_region_lit (st_box S M rfl rfl rfl #[_, _, _, _, _] rfl ?_); intro a w1 bT S M hB
 refine nxC (wp_seq (wp_regionK [] #[false, false, false, false, false, false, false, false] rfl M (by kernel_rfl) ?_)); intro w2 M
 refine k_pure 0 S rfl (fun w => y_move S rfl) ?_; intro a S
 refine k_pure 1 S rfl (fun w => y_move S rfl) ?_; intro a S
 refine k_pure 2 S rfl (fun w => y_nilCheck S rfl) ?_; intro a S
 refine k_pure 3 S rfl (fun w => y_fieldAddr (k := 10) S (by kernel_rfl) rfl) ?_; intro a S
 refine k_read 4 S rfl (fun w hW => have M := M.grow hW; y_loadAgg (cs := [_, _, _, _, _, _, _]) S (by kernel_rfl) rfl rfl (M.cellsAt (k := 7) 3 rfl rfl)) ?_; intro a S
 refine k_pure 5 S rfl (fun w => y_fieldAddr (k := 0) S (by kernel_rfl) rfl) ?_; intro a S
 refine k_read 6 S rfl (fun w hW => have M := M.grow hW; y_load S (by kernel_rfl) rfl (M.cell 0 rfl rfl)) ?_; intro a S
 refine k_one 7 rfl (by kernel_rfl) ?_
 refine qQ (xs := [.tmp 12, .tmp 16, .tmp 18]) S (qE Tryz.func86) rfl (send0_any _ [] _) M ?_; intro a w3 S hK M
 refine nxC ⟨fun _ => hK, ?_⟩
 refine k_end (by kernel_rfl) ?_
 refine then_normal (wp_seq (wp_regionK [7, 10] #[false, false, false, false, false, false, false, false, false, false, false] rfl M (by kernel_rfl) ?_)); intro w4 M
 refine k_pure 0 S rfl (fun w => y_move S rfl) ?_; intro a S
 refine k_pure 1 S rfl (fun w => y_move S rfl) ?_; intro a S
 refine k_pure 2 S rfl (fun w => y_nilCheck S rfl) ?_; intro a S
 refine k_pure 3 S rfl (fun w => y_fieldAddr (k := 33) S (by kernel_rfl) rfl) ?_; intro a S
 refine k_read 4 S rfl (fun w hW => have M := M.grow hW; y_load S (by kernel_rfl) rfl (M.cell 3 rfl rfl)) ?_; intro a S
 refine k_pure 5 S rfl (fun w => y_fieldAddr (k := 1) S (by kernel_rfl) rfl) ?_; intro a S
 refine k_read 6 S rfl (fun w hW => have M := M.grow hW; y_load S (by kernel_rfl) rfl (M.cell 0 rfl rfl)) ?_; intro a S
 refine k_one 7 rfl (by kernel_rfl) ?_
 refine st_append (e := 81) (sz := 13) (by_ := 48) (zc := [.int .i64 0, .int .i64 0, .int .i64 0, .int .u8 0, .int .u8 0, .int .u8 0, .int .u8 0, .int .u8 0, .int .u8 0, .int .u8 0, .int .u8 0, .int .i64 0, .int .i8 0]) S M 2 rfl rfl (by kernel_rfl) rfl (by decide) rfl rfl rfl (M.readAll 4 rfl (by unfold maxLen; omega)) (h1) (by omega) (by unfold maxLen; omega) ?_; intro a w5 vA loA hiA S M
 refine nxC ⟨fun h => absurd h (by decide), ?_⟩
 refine k_pure 8 S rfl (fun w => y_nilCheck S rfl) ?_; intro a S
 refine k_pure 9 S rfl (fun w => y_fieldAddr (k := 33) S (by kernel_rfl) rfl) ?_; intro a S
 refine k_one 10 rfl (by kernel_rfl) ?_
 simp only [List.nil_append, Nat.zero_add] at M S
 obtain ⟨aX, cX, rfl, -, -⟩ := (M.readAll 0 rfl (by unfold maxLen; omega)).form
 refine qS (sz := 1) (us := [_]) S M 3 ?_; intro w6 M
 refine nxC ⟨fun h => absurd h (by decide), ?_⟩
 refine k_end (by kernel_rfl) ?_
 replace S := S.keep [0, 1, 2, 5]
 refine then_normal (wp_seq (wp_regionK [7, 10] #[false, false, false, false, false, false, false, false, false, false, false] rfl M (by kernel_rfl) ?_)); intro w7 M
 refine k_pure 0 S rfl (fun w => y_move S rfl) ?_; intro a S
 refine k_pure 1 S rfl (fun w => y_move S rfl) ?_; intro a S
 refine k_pure 2 S rfl (fun w => y_nilCheck S rfl) ?_; intro a S
 refine k_pure 3 S rfl (fun w => y_fieldAddr (k := 34) S (by kernel_rfl) rfl) ?_; intro a S
 refine k_read 4 S rfl (fun w hW => have M := M.grow hW; y_load S (by kernel_rfl) rfl (M.cell 3 rfl rfl)) ?_; intro a S
 refine k_pure 5 S rfl (fun w => y_fieldAddr (k := 2) S (by kernel_rfl) rfl) ?_; intro a S
 refine k_read 6 S rfl (fun w hW => have M := M.grow hW; y_load S (by kernel_rfl) rfl (M.cell 1 rfl rfl)) ?_; intro a S
 refine k_one 7 rfl (by kernel_rfl) ?_
 refine st_append (e := 118) (sz := 14) (by_ := 56) (zc := [.int .i8 0, .int .i64 0, .int .i64 0, .int .i64 0, .int .i64 0, .int .u8 0, .int .u8 0, .int .u8 0, .int .u8 0, .int .u8 0, .int .u8 0, .int .u8 0, .int .u8 0, .int .i64 0]) S M 2 rfl rfl (by kernel_rfl) rfl (by decide) rfl rfl rfl (M.readAll 5 rfl (by unfold maxLen; omega)) (h2) (by omega) (by unfold maxLen; omega) ?_; intro a w8 vA loA hiA S M
 refine nxC ⟨fun h => absurd h (by decide), ?_⟩
 refine k_pure 8 S rfl (fun w => y_nilCheck S rfl) ?_; intro a S
 refine k_pure 9 S rfl (fun w => y_fieldAddr (k := 34) S (by kernel_rfl) rfl) ?_; intro a S
 refine k_one 10 rfl (by kernel_rfl) ?_
 simp only [List.nil_append, Nat.zero_add] at M S
 obtain ⟨aY, cY, rfl, -, -⟩ := (M.readAll 0 rfl (by unfold maxLen; omega)).form
 refine qS (sz := 1) (us := [_]) S M 3 ?_; intro w9 M
 refine nxC ⟨fun h => absurd h (by decide), ?_⟩
 refine k_end (by kernel_rfl) ?_
 refine nxE (qR [4, 3] S M ?_); intro a S
 refine qY S (y_lenS (E := 47) S rfl (by kernel_rfl)) ?_; intro a S
 refine qG [1] S ?_; intro a S
 refine nxC (wp_block (wp_loop_g (fun m a w' => m = 0 ∧ ∃ lo3 hi3 lo5 hi5, Sees 80 a [(41, nS), (42, .int .i64 0), (43, .int .i64 0)] ∧ Mem wc w' (.blk bC (clD pd pl sl la ov nx bd si (.slice aX 1 cX) (.slice aY 1 cY)).toArray 106 :: rowE lo3 hi3 81 13 (.slice aX 1 cX) 1 xa :: rowE lo5 hi5 118 14 (.slice aY 1 cY) 1 xs :: H)) (0) ?_ ?_))
 ·skip
  replace M := M.drp 2
  replace M := M.drp 3
  replace M := M.drp 3
  replace M := M.ord [1, 2] (by simp only [ordO, oG, oS, oE, oZ, oB] <;> rfl)
  exact ⟨rfl, _, _, _, _, S.sub _ rfl, M⟩
 intro m a wl
 rintro ⟨rfl, lo3, hi3, lo5, hi5, S, M⟩
 refine nxD (qG [1] S ?_); intro a S
 refine nxC (wp_seq (st_if (t := 44) S rfl ?_ ?_))
 ·intro h44 S
  exfalso; omega
 intro h44 S
 refine st_condF S rfl (wp_exit (then_exit (then_exit (block_hit (end_noneN S rfl ?_)))))
 exact ⟨rfl, aX, cX, lo3, hi3, aY, cY, lo5, hi5, M⟩
theorem isDownK_any {b T : Nat} {cs : Array Value} (w : World) (B : Blk w b cs T) (h : cs[0]? = some (.bool true)) : Calls Tryz.prog 31 #[pB b] w fun e w' => e = .returned (.bool false) ∧ Below w.heap.size w w' := by
 have M := Mem.start w
 refine calls_enter Tryz.func31 rfl 8 rfl rfl ?_; intro a S
 refine nxD (qG [1] S ?_); intro a S
 refine nxA (qG [1, 1, 1] S ?_); intro a S
 refine qY S (y_load S (by kernel_rfl) rfl (by rw [(B.cells0 M.below).cells]; exact h)) ?_; intro a S
 refine qG [1, 1] S ?_; intro a S
 refine nxC (wp_ret (end_one S rfl (res_tmp rfl) ?_))
 exact ⟨rfl, M.below⟩
abbrev evB (c : Int) : List Value := [.int .i8 0, .int .i8 0, .int .i64 c, .int .i64 0, .int .i64 0, nS, .int .i64 0, .int .i64 0, .int .i64 0, nS, .int .i64 0, .int .i64 0]
def CallP (wc : World) (A : List Ent) (bC bd bl : Nat) (si : Value) (c : Int) (w' : World) : Prop := ∃ (sl ov : Value) (a2 : Option Addr) (c2 lo3 hi3 : Nat) (a4 : Option Addr) (c4 lo5 hi5 : Nat), Mem wc w' (.blk bC (clD (pB bd) (pB bl) sl 1 ov 2 17 si (.slice a2 1 c2) (.slice a4 1 c4)).toArray 106 :: rowE lo3 hi3 81 13 (.slice a2 1 c2) 1 (ansC c 1 1) :: rowE lo5 hi5 118 14 (.slice a4 1 c4) 1 (seC 1 1) :: A)
set_option maxHeartbeats 4000000 in
theorem callC_any {wc w : World} {A E : List Ent} {bC bd bl lo hi : Nat} {S0 : DS} {N : Int} (s : Ls) (va : Option Addr) (vc : Nat) (si : Value) (c : Int) (hc : 1 ≤ c ∧ c ≤ 1048576) (hE : DkE bd S0 E) (hI : LInv S0 s [] 0) (hk : 0 ≤ s.su.inc) (hb : Lb s N) (hbd : s.cu.bound ≤ 17)
 (M : Mem wc w (.blk bC (clZ bd bl si).toArray 106 :: lgE bl bd s va vc :: opE lo hi va vc s.op :: (A ++ E))) :
 Calls Tryz.prog 43 #[pB bC, .agg (evB c).toArray] w fun e w' => e = .returned (.int .i64 0) ∧ CallP wc A bC bd bl si c w' := by
 refine calls_enter Tryz.func43 rfl 70 rfl rfl ?_; intro a S
 refine wp_seq ?_
 skip
 refine wp_region_lit (st_box S M rfl rfl rfl #[_, _, _, _, _, _, _, _, _, _, _, _] rfl ?_); intro a w1 bB S M hB
 refine qG [1] S ?_; intro a S
 refine nxA (qG [1, 1, 1, 1] S ?_); intro a S
 refine nxC (wp_seq (nxD ?_))
 skip
 refine qY S (y_move S rfl) ?_; intro a S
 refine qQ (xs := [.tmp 13]) S (qE Tryz.func31) rfl (isDownK_any _ (M.blk 1 rfl) rfl) M ?_; intro a w2 S hK M
 refine nxC (st_if (t := 14) S rfl ?_ ?_)
 ·intro h14 S
  cases h14
 intro h14 S
 refine st_condF S rfl (wp_skip (nxE (qG [1] S ?_))); intro a S
 refine nxC (wp_seq (wp_seq (wp_regionK [] #[false, false, false, false, false, false, false] rfl M (by kernel_rfl) ?_))); intro w3 M
 refine k_pure 0 S rfl (fun w => y_move S rfl) ?_; intro a S
 refine k_pure 1 S rfl (fun w => y_nilCheck S rfl) ?_; intro a S
 refine k_pure 2 S rfl (fun w => y_fieldAddr (k := 4) S (by kernel_rfl) rfl) ?_; intro a S
 refine k_read 3 S rfl (fun w hW => have M := M.grow hW; y_loadAgg (cs := [_, _, _, _]) S (by kernel_rfl) rfl rfl (M.cellsAt (k := 4) 1 rfl rfl)) ?_; intro a S
 refine k_pure 4 S rfl (fun w => y_fieldAddr (k := 1) S (by kernel_rfl) rfl) ?_; intro a S
 refine k_read 5 S rfl (fun w hW => have M := M.grow hW; y_loadAgg (cs := [_, _, _, _, _, _]) S (by kernel_rfl) rfl rfl (M.cellsAt (k := 6) 0 rfl rfl)) ?_; intro a S
 refine k_one 6 rfl (by kernel_rfl) ?_
 refine qQ (xs := [.tmp 37, .tmp 39]) S (qE Tryz.func79) rfl (wants0_any 0 1 c (by omega) (by omega) hc _) M ?_; intro a w4 S hK M
 refine nxC ⟨fun _ => hK, ?_⟩
 refine k_end (by kernel_rfl) ?_
 refine then_normal (st_fi (t := 40) S rfl ?_ ?_)
 ·intro h40 S
  cases h40
 intro h40 S
 refine st_condT S rfl (wp_region_lit (qG [1] S ?_)); intro a S
 skip
 replace M := M.ord [3, 3, 3] (by simp only [ordO, oG, oS, oE, oZ, oB] <;> rfl)
 refine qC (xs := [.tmp 41]) S (qE Tryz.func80) rfl (newStamp_any (A := _ :: A) s va vc nS si nS nS 0 hE hI hk hb hbd M) ?_
 rintro _ w5 ⟨rfl, S1, E1, va2, vc2, lo2, hi2, hE1, M1⟩; refine ⟨_, rfl, ?_⟩; intro a S; have M := M1; clear M1
 simp only [List.cons_append] at M
 refine qG [1] S ?_; intro a S
 refine nxC (wp_seq (wp_cut (fun a w' => ∃ (b7 b8 : Nat) (sa oa aa ha : Option Addr) (sc oc ac hc2 lo4 hi4 lo5 hi5 : Nat), Sees 70 a [(0, pB bC), (5, pB bC), (7, pB b7), (8, pB b8), (9, .int .i64 0)] ∧ Mem wc w' (.blk b7 #[.slice sa 1 sc, .int .i64 1, .int .i64 1, .slice oa 0 oc] 89 :: .blk b8 #[nS, .slice aa 1 ac, .slice ha 1 hc2, nS, nS] 183 :: .blk bC (clC (pB bd) (pB bl) nS 0 2 17 si nS nS).toArray 106 :: rowE lo4 hi4 81 13 (.slice aa 1 ac) 1 (ansC c 1 1) :: rowE lo5 hi5 118 14 (.slice ha 1 hc2) 1 (seC 1 1) :: A)) ?_ ?_))
 ·skip
  refine wp_regionK [12, 19, 20] #[false, false, false, false, false, false, false, false, false, false, false, false, false, false, false, false, false, false, false, false, false, false] rfl M (by kernel_rfl) ?_; intro w6 M
  refine k_pure 0 S rfl (fun w => y_move S rfl) ?_; intro a S
  refine k_pure 1 S rfl (fun w => y_nilCheck S rfl) ?_; intro a S
  refine k_pure 2 S rfl (fun w => y_fieldAddr (k := 4) S (by kernel_rfl) rfl) ?_; intro a S
  refine k_read 3 S rfl (fun w hW => have M := M.grow hW; y_loadAgg (cs := [_, _, _, _]) S (by kernel_rfl) rfl rfl (M.cellsAt (k := 4) 0 rfl rfl)) ?_; intro a S
  refine k_pure 4 S rfl (fun w => y_fieldAddr (k := 1) S (by kernel_rfl) rfl) ?_; intro a S
  refine k_read 5 S rfl (fun w hW => have M := M.grow hW; y_loadAgg (cs := [_, _, _, _, _, _]) S (by kernel_rfl) rfl rfl (M.cellsAt (k := 6) 3 rfl rfl)) ?_; intro a S
  refine k_pure 6 S rfl (fun w => y_move S rfl) ?_; intro a S
  refine k_pure 7 S rfl (fun w => y_nilCheck S rfl) ?_; intro a S
  refine k_pure 8 S rfl (fun w => y_fieldAddr (k := 2) S (by kernel_rfl) rfl) ?_; intro a S
  refine k_read 9 S rfl (fun w hW => have M := M.grow hW; y_load S (by kernel_rfl) rfl (M.cell 0 rfl rfl)) ?_; intro a S
  refine k_pure 11 S rfl (fun w => y_move S rfl) ?_; intro a S
  refine k_three 10 17 18 rfl rfl rfl (by kernel_rfl) ?_ ?_ ?_
  ·skip
   refine qQ (xs := [.tmp 53]) S (qE Tryz.func57) rfl (map_any (pB bd) (keepS s (r6 17)) _ _ (M.blk 1 rfl)) M ?_; intro a w7 S hK M
   refine nxC ⟨fun _ => hK, ?_⟩
   refine k_three 12 17 18 rfl rfl rfl (by kernel_rfl) ?_ ?_ ?_
   ·skip
    refine qC (xs := [.tmp 47, .tmp 49, .tmp 54, .tmp 55]) S (qE Tryz.func81) rfl (call0_any 0 1 (keepS s (r6 17)).cu c 1 (by omega) (by omega) hc (by omega) M) ?_
    rintro _ w8 ⟨sa, oa, aa, ha, sc, oc, ac, hc2, lo3, hi3, lo4, hi4, lo5, hi5, rfl, M1⟩; refine ⟨_, rfl, ?_⟩; intro a S; have M := M1; clear M1
    refine nxC ⟨fun h => absurd h (by decide), ?_⟩
    refine k_pure 13 S rfl (fun w => y_move S rfl) ?_; intro a S
    refine k_pure 14 S rfl (fun w => y_extract S rfl rfl) ?_; intro a S
    refine k_pure 15 S rfl (fun w => y_extract S rfl rfl) ?_; intro a S
    refine k_pure 16 S rfl (fun w => y_extract S rfl rfl) ?_; intro a S
    refine k_two 17 18 rfl rfl (by kernel_rfl) ?_ ?_
    ·skip
     refine st_alloc S M rfl rfl #[.slice none 0 0, .int .i64 0, .int .i64 0, .slice none 0 0] (by kernel_rfl) ?_; intro a w9 bS7 S M hB
     refine nxC ⟨fun _ => hB, ?_⟩
     refine k_one 18 rfl (by kernel_rfl) ?_
     refine st_alloc S M rfl rfl #[.slice none 0 0, .slice none 0 0, .slice none 0 0, .slice none 0 0, .slice none 0 0] (by kernel_rfl) ?_; intro a w10 bT8 S M hB
     refine nxC ⟨fun _ => hB, ?_⟩
     refine k_one 19 rfl (by kernel_rfl) ?_
     refine qS (sz := 4) (us := [_, _, _, _]) S M 1 ?_; intro w11 M
     refine nxC ⟨fun h => absurd h (by decide), ?_⟩
     refine k_one 20 rfl (by kernel_rfl) ?_
     refine qS (sz := 5) (us := [_, _, _, _, _]) S M 0 ?_; intro w12 M
     refine nxC ⟨fun h => absurd h (by decide), ?_⟩
     refine k_pure 21 S rfl (fun w => y_assign S rfl) ?_; intro a S
     refine k_end (by kernel_rfl) ?_
     replace S := S.keep [0, 1, 3, 4, 5, 14, 40, 6, 7, 8, 9]
     refine then_normal ?_
     skip
     replace M := M.drp 2
     replace M := M.drp 7
     replace M := M.drp 5
     replace M := M.drp 5
     replace M := M.ord [3, 3, 4, 3, 4] (by simp only [ordO, oG, oS, oE, oZ, oB] <;> rfl)
     exact ⟨_, _, sa, oa, aa, ha, sc, oc, ac, hc2, _, _, _, _, S.sub _ rfl, M.sub (.cons_cons _ (.cons_cons _ (.cons_cons _ (.cons_cons _ (.cons_cons _ (List.sublist_append_left _ _))))))⟩
    ·skip
     refine st_alloc S M rfl rfl #[.slice none 0 0, .slice none 0 0, .slice none 0 0, .slice none 0 0, .slice none 0 0] (by kernel_rfl) ?_; intro a w13 bT8 S M hB
     refine nxC ⟨fun _ => hB, ?_⟩
     refine k_one 17 rfl (by kernel_rfl) ?_
     refine st_alloc S M rfl rfl #[.slice none 0 0, .int .i64 0, .int .i64 0, .slice none 0 0] (by kernel_rfl) ?_; intro a w14 bS7 S M hB
     refine nxC ⟨fun _ => hB, ?_⟩
     refine k_one 19 rfl (by kernel_rfl) ?_
     refine qS (sz := 4) (us := [_, _, _, _]) S M 0 ?_; intro w15 M
     refine nxC ⟨fun h => absurd h (by decide), ?_⟩
     refine k_one 20 rfl (by kernel_rfl) ?_
     refine qS (sz := 5) (us := [_, _, _, _, _]) S M 1 ?_; intro w16 M
     refine nxC ⟨fun h => absurd h (by decide), ?_⟩
     refine k_pure 21 S rfl (fun w => y_assign S rfl) ?_; intro a S
     refine k_end (by kernel_rfl) ?_
     replace S := S.keep [0, 1, 3, 4, 5, 14, 40, 6, 8, 7, 9]
     refine then_normal ?_
     skip
     replace M := M.drp 2
     replace M := M.drp 7
     replace M := M.drp 5
     replace M := M.drp 5
     replace M := M.ord [3, 3, 4, 4, 4] (by simp only [ordO, oG, oS, oE, oZ, oB] <;> rfl)
     exact ⟨_, _, sa, oa, aa, ha, sc, oc, ac, hc2, _, _, _, _, S.sub _ rfl, M.sub (.cons_cons _ (.cons_cons _ (.cons_cons _ (.cons_cons _ (.cons_cons _ (List.sublist_append_left _ _))))))⟩
   ·skip
    refine st_alloc S M rfl rfl #[.slice none 0 0, .int .i64 0, .int .i64 0, .slice none 0 0] (by kernel_rfl) ?_; intro a w17 bS7 S M hB
    refine nxC ⟨fun _ => hB, ?_⟩
    refine k_two 12 18 rfl rfl (by kernel_rfl) ?_ ?_
    ·skip
     refine qC (xs := [.tmp 47, .tmp 49, .tmp 54, .tmp 55]) S (qE Tryz.func81) rfl (call0_any 0 1 (keepS s (r6 17)).cu c 1 (by omega) (by omega) hc (by omega) M) ?_
     rintro _ w18 ⟨sa, oa, aa, ha, sc, oc, ac, hc2, lo3, hi3, lo4, hi4, lo5, hi5, rfl, M1⟩; refine ⟨_, rfl, ?_⟩; intro a S; have M := M1; clear M1
     refine nxC ⟨fun h => absurd h (by decide), ?_⟩
     refine k_pure 13 S rfl (fun w => y_move S rfl) ?_; intro a S
     refine k_pure 14 S rfl (fun w => y_extract S rfl rfl) ?_; intro a S
     refine k_pure 15 S rfl (fun w => y_extract S rfl rfl) ?_; intro a S
     refine k_pure 16 S rfl (fun w => y_extract S rfl rfl) ?_; intro a S
     refine k_one 18 rfl (by kernel_rfl) ?_
     refine st_alloc S M rfl rfl #[.slice none 0 0, .slice none 0 0, .slice none 0 0, .slice none 0 0, .slice none 0 0] (by kernel_rfl) ?_; intro a w19 bT8 S M hB
     refine nxC ⟨fun _ => hB, ?_⟩
     refine k_one 19 rfl (by kernel_rfl) ?_
     refine qS (sz := 4) (us := [_, _, _, _]) S M 4 ?_; intro w20 M
     refine nxC ⟨fun h => absurd h (by decide), ?_⟩
     refine k_one 20 rfl (by kernel_rfl) ?_
     refine qS (sz := 5) (us := [_, _, _, _, _]) S M 0 ?_; intro w21 M
     refine nxC ⟨fun h => absurd h (by decide), ?_⟩
     refine k_pure 21 S rfl (fun w => y_assign S rfl) ?_; intro a S
     refine k_end (by kernel_rfl) ?_
     replace S := S.keep [0, 1, 3, 4, 5, 14, 40, 6, 7, 8, 9]
     refine then_normal ?_
     skip
     replace M := M.drp 1
     replace M := M.drp 7
     replace M := M.drp 5
     replace M := M.drp 5
     replace M := M.ord [2, 2, 4, 3, 4] (by simp only [ordO, oG, oS, oE, oZ, oB] <;> rfl)
     exact ⟨_, _, sa, oa, aa, ha, sc, oc, ac, hc2, _, _, _, _, S.sub _ rfl, M.sub (.cons_cons _ (.cons_cons _ (.cons_cons _ (.cons_cons _ (.cons_cons _ (List.sublist_append_left _ _))))))⟩
    ·skip
     refine st_alloc S M rfl rfl #[.slice none 0 0, .slice none 0 0, .slice none 0 0, .slice none 0 0, .slice none 0 0] (by kernel_rfl) ?_; intro a w22 bT8 S M hB
     refine nxC ⟨fun _ => hB, ?_⟩
     refine k_one 12 rfl (by kernel_rfl) ?_
     refine qC (xs := [.tmp 47, .tmp 49, .tmp 54, .tmp 55]) S (qE Tryz.func81) rfl (call0_any 0 1 (keepS s (r6 17)).cu c 1 (by omega) (by omega) hc (by omega) M) ?_
     rintro _ w23 ⟨sa, oa, aa, ha, sc, oc, ac, hc2, lo3, hi3, lo4, hi4, lo5, hi5, rfl, M1⟩; refine ⟨_, rfl, ?_⟩; intro a S; have M := M1; clear M1
     refine nxC ⟨fun h => absurd h (by decide), ?_⟩
     refine k_pure 13 S rfl (fun w => y_move S rfl) ?_; intro a S
     refine k_pure 14 S rfl (fun w => y_extract S rfl rfl) ?_; intro a S
     refine k_pure 15 S rfl (fun w => y_extract S rfl rfl) ?_; intro a S
     refine k_pure 16 S rfl (fun w => y_extract S rfl rfl) ?_; intro a S
     refine k_one 19 rfl (by kernel_rfl) ?_
     refine qS (sz := 4) (us := [_, _, _, _]) S M 4 ?_; intro w24 M
     refine nxC ⟨fun h => absurd h (by decide), ?_⟩
     refine k_one 20 rfl (by kernel_rfl) ?_
     refine qS (sz := 5) (us := [_, _, _, _, _]) S M 3 ?_; intro w25 M
     refine nxC ⟨fun h => absurd h (by decide), ?_⟩
     refine k_pure 21 S rfl (fun w => y_assign S rfl) ?_; intro a S
     refine k_end (by kernel_rfl) ?_
     replace S := S.keep [0, 1, 3, 4, 5, 14, 40, 6, 7, 8, 9]
     refine then_normal ?_
     skip
     replace M := M.drp 0
     replace M := M.drp 7
     replace M := M.drp 5
     replace M := M.drp 5
     replace M := M.ord [1, 1, 4, 3, 4] (by simp only [ordO, oG, oS, oE, oZ, oB] <;> rfl)
     exact ⟨_, _, sa, oa, aa, ha, sc, oc, ac, hc2, _, _, _, _, S.sub _ rfl, M.sub (.cons_cons _ (.cons_cons _ (.cons_cons _ (.cons_cons _ (.cons_cons _ (List.sublist_append_left _ _))))))⟩
   ·skip
    refine st_alloc S M rfl rfl #[.slice none 0 0, .slice none 0 0, .slice none 0 0, .slice none 0 0, .slice none 0 0] (by kernel_rfl) ?_; intro a w26 bT8 S M hB
    refine nxC ⟨fun _ => hB, ?_⟩
    refine k_two 12 17 rfl rfl (by kernel_rfl) ?_ ?_
    ·skip
     refine qC (xs := [.tmp 47, .tmp 49, .tmp 54, .tmp 55]) S (qE Tryz.func81) rfl (call0_any 0 1 (keepS s (r6 17)).cu c 1 (by omega) (by omega) hc (by omega) M) ?_
     rintro _ w27 ⟨sa, oa, aa, ha, sc, oc, ac, hc2, lo3, hi3, lo4, hi4, lo5, hi5, rfl, M1⟩; refine ⟨_, rfl, ?_⟩; intro a S; have M := M1; clear M1
     refine nxC ⟨fun h => absurd h (by decide), ?_⟩
     refine k_pure 13 S rfl (fun w => y_move S rfl) ?_; intro a S
     refine k_pure 14 S rfl (fun w => y_extract S rfl rfl) ?_; intro a S
     refine k_pure 15 S rfl (fun w => y_extract S rfl rfl) ?_; intro a S
     refine k_pure 16 S rfl (fun w => y_extract S rfl rfl) ?_; intro a S
     refine k_one 17 rfl (by kernel_rfl) ?_
     refine st_alloc S M rfl rfl #[.slice none 0 0, .int .i64 0, .int .i64 0, .slice none 0 0] (by kernel_rfl) ?_; intro a w28 bS7 S M hB
     refine nxC ⟨fun _ => hB, ?_⟩
     refine k_one 19 rfl (by kernel_rfl) ?_
     refine qS (sz := 4) (us := [_, _, _, _]) S M 0 ?_; intro w29 M
     refine nxC ⟨fun h => absurd h (by decide), ?_⟩
     refine k_one 20 rfl (by kernel_rfl) ?_
     refine qS (sz := 5) (us := [_, _, _, _, _]) S M 4 ?_; intro w30 M
     refine nxC ⟨fun h => absurd h (by decide), ?_⟩
     refine k_pure 21 S rfl (fun w => y_assign S rfl) ?_; intro a S
     refine k_end (by kernel_rfl) ?_
     replace S := S.keep [0, 1, 3, 4, 5, 14, 40, 6, 8, 7, 9]
     refine then_normal ?_
     skip
     replace M := M.drp 1
     replace M := M.drp 7
     replace M := M.drp 5
     replace M := M.drp 5
     replace M := M.ord [2, 2, 4, 4, 4] (by simp only [ordO, oG, oS, oE, oZ, oB] <;> rfl)
     exact ⟨_, _, sa, oa, aa, ha, sc, oc, ac, hc2, _, _, _, _, S.sub _ rfl, M.sub (.cons_cons _ (.cons_cons _ (.cons_cons _ (.cons_cons _ (.cons_cons _ (List.sublist_append_left _ _))))))⟩
    ·skip
     refine st_alloc S M rfl rfl #[.slice none 0 0, .int .i64 0, .int .i64 0, .slice none 0 0] (by kernel_rfl) ?_; intro a w31 bS7 S M hB
     refine nxC ⟨fun _ => hB, ?_⟩
     refine k_one 12 rfl (by kernel_rfl) ?_
     refine qC (xs := [.tmp 47, .tmp 49, .tmp 54, .tmp 55]) S (qE Tryz.func81) rfl (call0_any 0 1 (keepS s (r6 17)).cu c 1 (by omega) (by omega) hc (by omega) M) ?_
     rintro _ w32 ⟨sa, oa, aa, ha, sc, oc, ac, hc2, lo3, hi3, lo4, hi4, lo5, hi5, rfl, M1⟩; refine ⟨_, rfl, ?_⟩; intro a S; have M := M1; clear M1
     refine nxC ⟨fun h => absurd h (by decide), ?_⟩
     refine k_pure 13 S rfl (fun w => y_move S rfl) ?_; intro a S
     refine k_pure 14 S rfl (fun w => y_extract S rfl rfl) ?_; intro a S
     refine k_pure 15 S rfl (fun w => y_extract S rfl rfl) ?_; intro a S
     refine k_pure 16 S rfl (fun w => y_extract S rfl rfl) ?_; intro a S
     refine k_one 19 rfl (by kernel_rfl) ?_
     refine qS (sz := 4) (us := [_, _, _, _]) S M 3 ?_; intro w33 M
     refine nxC ⟨fun h => absurd h (by decide), ?_⟩
     refine k_one 20 rfl (by kernel_rfl) ?_
     refine qS (sz := 5) (us := [_, _, _, _, _]) S M 4 ?_; intro w34 M
     refine nxC ⟨fun h => absurd h (by decide), ?_⟩
     refine k_pure 21 S rfl (fun w => y_assign S rfl) ?_; intro a S
     refine k_end (by kernel_rfl) ?_
     replace S := S.keep [0, 1, 3, 4, 5, 14, 40, 6, 8, 7, 9]
     refine then_normal ?_
     skip
     replace M := M.drp 0
     replace M := M.drp 7
     replace M := M.drp 5
     replace M := M.drp 5
     replace M := M.ord [1, 1, 4, 4, 4] (by simp only [ordO, oG, oS, oE, oZ, oB] <;> rfl)
     exact ⟨_, _, sa, oa, aa, ha, sc, oc, ac, hc2, _, _, _, _, S.sub _ rfl, M.sub (.cons_cons _ (.cons_cons _ (.cons_cons _ (.cons_cons _ (.cons_cons _ (List.sublist_append_left _ _))))))⟩
  ·skip
   refine st_alloc S M rfl rfl #[.slice none 0 0, .int .i64 0, .int .i64 0, .slice none 0 0] (by kernel_rfl) ?_; intro a w35 bS7 S M hB
   refine nxC ⟨fun _ => hB, ?_⟩
   refine k_two 10 18 rfl rfl (by kernel_rfl) ?_ ?_
   ·skip
    refine qQ (xs := [.tmp 53]) S (qE Tryz.func57) rfl (map_any (pB bd) (keepS s (r6 17)) _ _ (M.blk 2 rfl)) M ?_; intro a w36 S hK M
    refine nxC ⟨fun _ => hK, ?_⟩
    refine k_two 12 18 rfl rfl (by kernel_rfl) ?_ ?_
    ·skip
     refine qC (xs := [.tmp 47, .tmp 49, .tmp 54, .tmp 55]) S (qE Tryz.func81) rfl (call0_any 0 1 (keepS s (r6 17)).cu c 1 (by omega) (by omega) hc (by omega) M) ?_
     rintro _ w37 ⟨sa, oa, aa, ha, sc, oc, ac, hc2, lo3, hi3, lo4, hi4, lo5, hi5, rfl, M1⟩; refine ⟨_, rfl, ?_⟩; intro a S; have M := M1; clear M1
     refine nxC ⟨fun h => absurd h (by decide), ?_⟩
     refine k_pure 13 S rfl (fun w => y_move S rfl) ?_; intro a S
     refine k_pure 14 S rfl (fun w => y_extract S rfl rfl) ?_; intro a S
     refine k_pure 15 S rfl (fun w => y_extract S rfl rfl) ?_; intro a S
     refine k_pure 16 S rfl (fun w => y_extract S rfl rfl) ?_; intro a S
     refine k_one 18 rfl (by kernel_rfl) ?_
     refine st_alloc S M rfl rfl #[.slice none 0 0, .slice none 0 0, .slice none 0 0, .slice none 0 0, .slice none 0 0] (by kernel_rfl) ?_; intro a w38 bT8 S M hB
     refine nxC ⟨fun _ => hB, ?_⟩
     refine k_one 19 rfl (by kernel_rfl) ?_
     refine qS (sz := 4) (us := [_, _, _, _]) S M 4 ?_; intro w39 M
     refine nxC ⟨fun h => absurd h (by decide), ?_⟩
     refine k_one 20 rfl (by kernel_rfl) ?_
     refine qS (sz := 5) (us := [_, _, _, _, _]) S M 0 ?_; intro w40 M
     refine nxC ⟨fun h => absurd h (by decide), ?_⟩
     refine k_pure 21 S rfl (fun w => y_assign S rfl) ?_; intro a S
     refine k_end (by kernel_rfl) ?_
     replace S := S.keep [0, 1, 3, 4, 5, 14, 40, 6, 7, 8, 9]
     refine then_normal ?_
     skip
     replace M := M.drp 1
     replace M := M.drp 7
     replace M := M.drp 5
     replace M := M.drp 5
     replace M := M.ord [2, 2, 4, 3, 4] (by simp only [ordO, oG, oS, oE, oZ, oB] <;> rfl)
     exact ⟨_, _, sa, oa, aa, ha, sc, oc, ac, hc2, _, _, _, _, S.sub _ rfl, M.sub (.cons_cons _ (.cons_cons _ (.cons_cons _ (.cons_cons _ (.cons_cons _ (List.sublist_append_left _ _))))))⟩
    ·skip
     refine st_alloc S M rfl rfl #[.slice none 0 0, .slice none 0 0, .slice none 0 0, .slice none 0 0, .slice none 0 0] (by kernel_rfl) ?_; intro a w41 bT8 S M hB
     refine nxC ⟨fun _ => hB, ?_⟩
     refine k_one 12 rfl (by kernel_rfl) ?_
     refine qC (xs := [.tmp 47, .tmp 49, .tmp 54, .tmp 55]) S (qE Tryz.func81) rfl (call0_any 0 1 (keepS s (r6 17)).cu c 1 (by omega) (by omega) hc (by omega) M) ?_
     rintro _ w42 ⟨sa, oa, aa, ha, sc, oc, ac, hc2, lo3, hi3, lo4, hi4, lo5, hi5, rfl, M1⟩; refine ⟨_, rfl, ?_⟩; intro a S; have M := M1; clear M1
     refine nxC ⟨fun h => absurd h (by decide), ?_⟩
     refine k_pure 13 S rfl (fun w => y_move S rfl) ?_; intro a S
     refine k_pure 14 S rfl (fun w => y_extract S rfl rfl) ?_; intro a S
     refine k_pure 15 S rfl (fun w => y_extract S rfl rfl) ?_; intro a S
     refine k_pure 16 S rfl (fun w => y_extract S rfl rfl) ?_; intro a S
     refine k_one 19 rfl (by kernel_rfl) ?_
     refine qS (sz := 4) (us := [_, _, _, _]) S M 4 ?_; intro w43 M
     refine nxC ⟨fun h => absurd h (by decide), ?_⟩
     refine k_one 20 rfl (by kernel_rfl) ?_
     refine qS (sz := 5) (us := [_, _, _, _, _]) S M 3 ?_; intro w44 M
     refine nxC ⟨fun h => absurd h (by decide), ?_⟩
     refine k_pure 21 S rfl (fun w => y_assign S rfl) ?_; intro a S
     refine k_end (by kernel_rfl) ?_
     replace S := S.keep [0, 1, 3, 4, 5, 14, 40, 6, 7, 8, 9]
     refine then_normal ?_
     skip
     replace M := M.drp 0
     replace M := M.drp 7
     replace M := M.drp 5
     replace M := M.drp 5
     replace M := M.ord [1, 1, 4, 3, 4] (by simp only [ordO, oG, oS, oE, oZ, oB] <;> rfl)
     exact ⟨_, _, sa, oa, aa, ha, sc, oc, ac, hc2, _, _, _, _, S.sub _ rfl, M.sub (.cons_cons _ (.cons_cons _ (.cons_cons _ (.cons_cons _ (.cons_cons _ (List.sublist_append_left _ _))))))⟩
   ·skip
    refine st_alloc S M rfl rfl #[.slice none 0 0, .slice none 0 0, .slice none 0 0, .slice none 0 0, .slice none 0 0] (by kernel_rfl) ?_; intro a w45 bT8 S M hB
    refine nxC ⟨fun _ => hB, ?_⟩
    refine k_one 10 rfl (by kernel_rfl) ?_
    refine qQ (xs := [.tmp 53]) S (qE Tryz.func57) rfl (map_any (pB bd) (keepS s (r6 17)) _ _ (M.blk 3 rfl)) M ?_; intro a w46 S hK M
    refine nxC ⟨fun _ => hK, ?_⟩
    refine k_one 12 rfl (by kernel_rfl) ?_
    refine qC (xs := [.tmp 47, .tmp 49, .tmp 54, .tmp 55]) S (qE Tryz.func81) rfl (call0_any 0 1 (keepS s (r6 17)).cu c 1 (by omega) (by omega) hc (by omega) M) ?_
    rintro _ w47 ⟨sa, oa, aa, ha, sc, oc, ac, hc2, lo3, hi3, lo4, hi4, lo5, hi5, rfl, M1⟩; refine ⟨_, rfl, ?_⟩; intro a S; have M := M1; clear M1
    refine nxC ⟨fun h => absurd h (by decide), ?_⟩
    refine k_pure 13 S rfl (fun w => y_move S rfl) ?_; intro a S
    refine k_pure 14 S rfl (fun w => y_extract S rfl rfl) ?_; intro a S
    refine k_pure 15 S rfl (fun w => y_extract S rfl rfl) ?_; intro a S
    refine k_pure 16 S rfl (fun w => y_extract S rfl rfl) ?_; intro a S
    refine k_one 19 rfl (by kernel_rfl) ?_
    refine qS (sz := 4) (us := [_, _, _, _]) S M 4 ?_; intro w48 M
    refine nxC ⟨fun h => absurd h (by decide), ?_⟩
    refine k_one 20 rfl (by kernel_rfl) ?_
    refine qS (sz := 5) (us := [_, _, _, _, _]) S M 3 ?_; intro w49 M
    refine nxC ⟨fun h => absurd h (by decide), ?_⟩
    refine k_pure 21 S rfl (fun w => y_assign S rfl) ?_; intro a S
    refine k_end (by kernel_rfl) ?_
    replace S := S.keep [0, 1, 3, 4, 5, 14, 40, 6, 7, 8, 9]
    refine then_normal ?_
    skip
    replace M := M.drp 0
    replace M := M.drp 7
    replace M := M.drp 5
    replace M := M.drp 5
    replace M := M.ord [1, 1, 4, 3, 4] (by simp only [ordO, oG, oS, oE, oZ, oB] <;> rfl)
    exact ⟨_, _, sa, oa, aa, ha, sc, oc, ac, hc2, _, _, _, _, S.sub _ rfl, M.sub (.cons_cons _ (.cons_cons _ (.cons_cons _ (.cons_cons _ (.cons_cons _ (List.sublist_append_left _ _))))))⟩
  ·skip
   refine st_alloc S M rfl rfl #[.slice none 0 0, .slice none 0 0, .slice none 0 0, .slice none 0 0, .slice none 0 0] (by kernel_rfl) ?_; intro a w50 bT8 S M hB
   refine nxC ⟨fun _ => hB, ?_⟩
   refine k_two 10 17 rfl rfl (by kernel_rfl) ?_ ?_
   ·skip
    refine qQ (xs := [.tmp 53]) S (qE Tryz.func57) rfl (map_any (pB bd) (keepS s (r6 17)) _ _ (M.blk 2 rfl)) M ?_; intro a w51 S hK M
    refine nxC ⟨fun _ => hK, ?_⟩
    refine k_two 12 17 rfl rfl (by kernel_rfl) ?_ ?_
    ·skip
     refine qC (xs := [.tmp 47, .tmp 49, .tmp 54, .tmp 55]) S (qE Tryz.func81) rfl (call0_any 0 1 (keepS s (r6 17)).cu c 1 (by omega) (by omega) hc (by omega) M) ?_
     rintro _ w52 ⟨sa, oa, aa, ha, sc, oc, ac, hc2, lo3, hi3, lo4, hi4, lo5, hi5, rfl, M1⟩; refine ⟨_, rfl, ?_⟩; intro a S; have M := M1; clear M1
     refine nxC ⟨fun h => absurd h (by decide), ?_⟩
     refine k_pure 13 S rfl (fun w => y_move S rfl) ?_; intro a S
     refine k_pure 14 S rfl (fun w => y_extract S rfl rfl) ?_; intro a S
     refine k_pure 15 S rfl (fun w => y_extract S rfl rfl) ?_; intro a S
     refine k_pure 16 S rfl (fun w => y_extract S rfl rfl) ?_; intro a S
     refine k_one 17 rfl (by kernel_rfl) ?_
     refine st_alloc S M rfl rfl #[.slice none 0 0, .int .i64 0, .int .i64 0, .slice none 0 0] (by kernel_rfl) ?_; intro a w53 bS7 S M hB
     refine nxC ⟨fun _ => hB, ?_⟩
     refine k_one 19 rfl (by kernel_rfl) ?_
     refine qS (sz := 4) (us := [_, _, _, _]) S M 0 ?_; intro w54 M
     refine nxC ⟨fun h => absurd h (by decide), ?_⟩
     refine k_one 20 rfl (by kernel_rfl) ?_
     refine qS (sz := 5) (us := [_, _, _, _, _]) S M 4 ?_; intro w55 M
     refine nxC ⟨fun h => absurd h (by decide), ?_⟩
     refine k_pure 21 S rfl (fun w => y_assign S rfl) ?_; intro a S
     refine k_end (by kernel_rfl) ?_
     replace S := S.keep [0, 1, 3, 4, 5, 14, 40, 6, 8, 7, 9]
     refine then_normal ?_
     skip
     replace M := M.drp 1
     replace M := M.drp 7
     replace M := M.drp 5
     replace M := M.drp 5
     replace M := M.ord [2, 2, 4, 4, 4] (by simp only [ordO, oG, oS, oE, oZ, oB] <;> rfl)
     exact ⟨_, _, sa, oa, aa, ha, sc, oc, ac, hc2, _, _, _, _, S.sub _ rfl, M.sub (.cons_cons _ (.cons_cons _ (.cons_cons _ (.cons_cons _ (.cons_cons _ (List.sublist_append_left _ _))))))⟩
    ·skip
     refine st_alloc S M rfl rfl #[.slice none 0 0, .int .i64 0, .int .i64 0, .slice none 0 0] (by kernel_rfl) ?_; intro a w56 bS7 S M hB
     refine nxC ⟨fun _ => hB, ?_⟩
     refine k_one 12 rfl (by kernel_rfl) ?_
     refine qC (xs := [.tmp 47, .tmp 49, .tmp 54, .tmp 55]) S (qE Tryz.func81) rfl (call0_any 0 1 (keepS s (r6 17)).cu c 1 (by omega) (by omega) hc (by omega) M) ?_
     rintro _ w57 ⟨sa, oa, aa, ha, sc, oc, ac, hc2, lo3, hi3, lo4, hi4, lo5, hi5, rfl, M1⟩; refine ⟨_, rfl, ?_⟩; intro a S; have M := M1; clear M1
     refine nxC ⟨fun h => absurd h (by decide), ?_⟩
     refine k_pure 13 S rfl (fun w => y_move S rfl) ?_; intro a S
     refine k_pure 14 S rfl (fun w => y_extract S rfl rfl) ?_; intro a S
     refine k_pure 15 S rfl (fun w => y_extract S rfl rfl) ?_; intro a S
     refine k_pure 16 S rfl (fun w => y_extract S rfl rfl) ?_; intro a S
     refine k_one 19 rfl (by kernel_rfl) ?_
     refine qS (sz := 4) (us := [_, _, _, _]) S M 3 ?_; intro w58 M
     refine nxC ⟨fun h => absurd h (by decide), ?_⟩
     refine k_one 20 rfl (by kernel_rfl) ?_
     refine qS (sz := 5) (us := [_, _, _, _, _]) S M 4 ?_; intro w59 M
     refine nxC ⟨fun h => absurd h (by decide), ?_⟩
     refine k_pure 21 S rfl (fun w => y_assign S rfl) ?_; intro a S
     refine k_end (by kernel_rfl) ?_
     replace S := S.keep [0, 1, 3, 4, 5, 14, 40, 6, 8, 7, 9]
     refine then_normal ?_
     skip
     replace M := M.drp 0
     replace M := M.drp 7
     replace M := M.drp 5
     replace M := M.drp 5
     replace M := M.ord [1, 1, 4, 4, 4] (by simp only [ordO, oG, oS, oE, oZ, oB] <;> rfl)
     exact ⟨_, _, sa, oa, aa, ha, sc, oc, ac, hc2, _, _, _, _, S.sub _ rfl, M.sub (.cons_cons _ (.cons_cons _ (.cons_cons _ (.cons_cons _ (.cons_cons _ (List.sublist_append_left _ _))))))⟩
   ·skip
    refine st_alloc S M rfl rfl #[.slice none 0 0, .int .i64 0, .int .i64 0, .slice none 0 0] (by kernel_rfl) ?_; intro a w60 bS7 S M hB
    refine nxC ⟨fun _ => hB, ?_⟩
    refine k_one 10 rfl (by kernel_rfl) ?_
    refine qQ (xs := [.tmp 53]) S (qE Tryz.func57) rfl (map_any (pB bd) (keepS s (r6 17)) _ _ (M.blk 3 rfl)) M ?_; intro a w61 S hK M
    refine nxC ⟨fun _ => hK, ?_⟩
    refine k_one 12 rfl (by kernel_rfl) ?_
    refine qC (xs := [.tmp 47, .tmp 49, .tmp 54, .tmp 55]) S (qE Tryz.func81) rfl (call0_any 0 1 (keepS s (r6 17)).cu c 1 (by omega) (by omega) hc (by omega) M) ?_
    rintro _ w62 ⟨sa, oa, aa, ha, sc, oc, ac, hc2, lo3, hi3, lo4, hi4, lo5, hi5, rfl, M1⟩; refine ⟨_, rfl, ?_⟩; intro a S; have M := M1; clear M1
    refine nxC ⟨fun h => absurd h (by decide), ?_⟩
    refine k_pure 13 S rfl (fun w => y_move S rfl) ?_; intro a S
    refine k_pure 14 S rfl (fun w => y_extract S rfl rfl) ?_; intro a S
    refine k_pure 15 S rfl (fun w => y_extract S rfl rfl) ?_; intro a S
    refine k_pure 16 S rfl (fun w => y_extract S rfl rfl) ?_; intro a S
    refine k_one 19 rfl (by kernel_rfl) ?_
    refine qS (sz := 4) (us := [_, _, _, _]) S M 3 ?_; intro w63 M
    refine nxC ⟨fun h => absurd h (by decide), ?_⟩
    refine k_one 20 rfl (by kernel_rfl) ?_
    refine qS (sz := 5) (us := [_, _, _, _, _]) S M 4 ?_; intro w64 M
    refine nxC ⟨fun h => absurd h (by decide), ?_⟩
    refine k_pure 21 S rfl (fun w => y_assign S rfl) ?_; intro a S
    refine k_end (by kernel_rfl) ?_
    replace S := S.keep [0, 1, 3, 4, 5, 14, 40, 6, 8, 7, 9]
    refine then_normal ?_
    skip
    replace M := M.drp 0
    replace M := M.drp 7
    replace M := M.drp 5
    replace M := M.drp 5
    replace M := M.ord [1, 1, 4, 4, 4] (by simp only [ordO, oG, oS, oE, oZ, oB] <;> rfl)
    exact ⟨_, _, sa, oa, aa, ha, sc, oc, ac, hc2, _, _, _, _, S.sub _ rfl, M.sub (.cons_cons _ (.cons_cons _ (.cons_cons _ (.cons_cons _ (.cons_cons _ (List.sublist_append_left _ _))))))⟩
 intro a wc
 rintro ⟨b7, b8, sa, oa, aa, ha, sc, oc, ac, hc2, lo4, hi4, lo5, hi5, S, M⟩
 refine nxD (qG [1, 1] S ?_); intro a S
 refine nxC (st_fi (t := 61) S rfl ?_ ?_)
 ·intro h61 S
  exact absurd rfl h61
 intro h61 S
 refine st_condT S rfl (nxD (qG [1] S ?_)); intro a S
 refine qY S (y_loadAgg (cs := [_, _, _, _]) S (by kernel_rfl) rfl rfl (M.cellsAt (k := 4) 0 rfl rfl)) ?_; intro a S
 refine qG [1, 5] S ?_; intro a S
 refine qS (sz := 4) (us := [_, _, _, _]) S M 2 ?_; intro w65 M
 refine nxB (qG [1, 1] S ?_); intro a S
 refine qY S (y_loadAgg (cs := [_, _, _, _, _]) S (by kernel_rfl) rfl rfl (M.cellsAt (k := 5) 1 rfl rfl)) ?_; intro a S
 skip
 replace M := M.ord [4, 4, 4] (by simp only [ordO, oG, oS, oE, oZ, oB] <;> rfl)
 refine qC (xs := [.tmp 66, .tmp 67, .tmp 68]) S (qE Tryz.func82) rfl (told0_any (pB bd) (pB bl) (.slice sa 1 sc) 1 (.slice oa 0 oc) 2 17 si aa ha ac hc2 (ansC c 1 1) (seC 1 1) rfl rfl M) ?_
 rintro _ w66 ⟨rfl, a2, c2, lo6, hi6, a4, c4, lo7, hi7, M1⟩; refine ⟨_, rfl, ?_⟩; intro a S; have M := M1; clear M1
 refine nxA (qG [1] S ?_); intro a S
 refine nxC (wp_ret (end_one S rfl (res_tmp rfl) ?_))
 skip
 replace M := M.drp 3
 replace M := M.drp 3
 exact ⟨rfl, .slice sa 1 sc, .slice oa 0 oc, a2, c2, lo6, hi6, a4, c4, lo7, hi7, M⟩
end Go.Proofs.YtkkcehcpffamkaaGreat

namespace Go.Proofs.YtkkcehcpffamkaaGreat
open Go.RowKit Go.Sort
abbrev evC (k kd c h bk : Int) (da : Option Addr) (dl dc : Nat) (st nd n : Int) (pa : Option Addr) (pl pc : Nat) (sp to : Int) : List Value := [.int .i8 k, .int .i8 kd, .int .i64 c, .int .i64 h, .int .i64 bk, .slice da dl dc, .int .i64 st, .int .i64 nd, .int .i64 n, .slice pa pl pc, .int .i64 sp, .int .i64 to]
def tabE : Mes Int × Nat := let m0 := putM e8 [] 0 0 (.func (.func 43) #[] #[]); let m1 := putM e8 m0.1 m0.2 1 (.func (.func 44) #[] #[]); let m2 := putM e8 m1.1 m1.2 2 (.func (.func 45) #[] #[]); let m3 := putM e8 m2.1 m2.2 3 (.func (.func 46) #[] #[]); let m4 := putM e8 m3.1 m3.2 4 (.func (.func 47) #[] #[]); let m5 := putM e8 m4.1 m4.2 5 (.func (.func 48) #[] #[]); let m6 := putM e8 m5.1 m5.2 6 (.func (.func 49) #[] #[]); let m7 := putM e8 m6.1 m6.2 7 (.func (.func 50) #[] #[]); let m8 := putM e8 m7.1 m7.2 8 (.func (.func 51) #[] #[]); m8
theorem tabE_good : Good e8 tabE.1 tabE.2 := ((((((((((good_nil _).put 0 _).put 1 _).put 2 _).put 3 _).put 4 _).put 5 _).put 6 _).put 7 _).put 8 _)
theorem events_any (w : World) : Calls Tryz.prog 25 #[] w fun e w' => ∃ b, e = .returned (.map (some b)) ∧ Mem w w' [mapX b tabE.1 tabE.2] := by
 have M := Mem.start w
 refine calls_enter Tryz.func25 rfl 3 rfl rfl ?_; intro a S
 refine nxD (qG [1] S ?_); intro a S
 refine nxA (st_makeMap (κ := Int) S M rfl rfl ?_); intro a w1 bE S M hB
 refine st_insertM (pos := 0) S M (key8) ((good_nil _)) Tryz.underlying114 rfl rfl rfl rfl rfl ?_; intro w2 M
 simp only [List.set_cons_zero, List.set_cons_succ] at M
 refine st_insertM (pos := 0) S M (key8) (((good_nil _).put 0 _)) Tryz.underlying114 rfl rfl rfl rfl rfl ?_; intro w3 M
 simp only [List.set_cons_zero, List.set_cons_succ] at M
 refine st_insertM (pos := 0) S M (key8) ((((good_nil _).put 0 _).put 1 _)) Tryz.underlying114 rfl rfl rfl rfl rfl ?_; intro w4 M
 simp only [List.set_cons_zero, List.set_cons_succ] at M
 refine st_insertM (pos := 0) S M (key8) (((((good_nil _).put 0 _).put 1 _).put 2 _)) Tryz.underlying114 rfl rfl rfl rfl rfl ?_; intro w5 M
 simp only [List.set_cons_zero, List.set_cons_succ] at M
 refine st_insertM (pos := 0) S M (key8) ((((((good_nil _).put 0 _).put 1 _).put 2 _).put 3 _)) Tryz.underlying114 rfl rfl rfl rfl rfl ?_; intro w6 M
 simp only [List.set_cons_zero, List.set_cons_succ] at M
 refine st_insertM (pos := 0) S M (key8) (((((((good_nil _).put 0 _).put 1 _).put 2 _).put 3 _).put 4 _)) Tryz.underlying114 rfl rfl rfl rfl rfl ?_; intro w7 M
 simp only [List.set_cons_zero, List.set_cons_succ] at M
 refine st_insertM (pos := 0) S M (key8) ((((((((good_nil _).put 0 _).put 1 _).put 2 _).put 3 _).put 4 _).put 5 _)) Tryz.underlying114 rfl rfl rfl rfl rfl ?_; intro w8 M
 simp only [List.set_cons_zero, List.set_cons_succ] at M
 refine st_insertM (pos := 0) S M (key8) (((((((((good_nil _).put 0 _).put 1 _).put 2 _).put 3 _).put 4 _).put 5 _).put 6 _)) Tryz.underlying114 rfl rfl rfl rfl rfl ?_; intro w9 M
 simp only [List.set_cons_zero, List.set_cons_succ] at M
 refine st_insertM (pos := 0) S M (key8) ((((((((((good_nil _).put 0 _).put 1 _).put 2 _).put 3 _).put 4 _).put 5 _).put 6 _).put 7 _)) Tryz.underlying114 rfl rfl rfl rfl rfl ?_; intro w10 M
 simp only [List.set_cons_zero, List.set_cons_succ] at M
 refine qG [1, 1] S ?_; intro a S
 refine nxC (wp_ret (end_one S rfl (res_tmp rfl) ?_))
 exact ⟨bE, rfl, M⟩
set_option maxRecDepth 100000 in
theorem zero_fnE (w : World) : (zeroValue 112).run Tryz.prog w = .ok .nilFunc w := by
 obtain ⟨i, hi, hz⟩ : ∃ i, Tryz.prog.info? 112 = some i ∧ i.zero = some .nilFunc := by
  refine ⟨_, rfl, ?_⟩
  kernel_rfl
 simp [zeroValue, typeInfo, hi, hz, go_sem]
theorem doNil_any (k kd c h bk : Int) (da : Option Addr) (dl dc : Nat) (st nd n : Int) (pa : Option Addr) (pl pc : Nat) (sp to : Int) (w : World) : Calls Tryz.prog 8 #[.pointer none, .agg (evC k kd c h bk da dl dc st nd n pa pl pc sp to).toArray] w fun e w' => e = .returned (.int .i64 1) ∧ Below w.heap.size w w' := by
 have M := Mem.start w
 refine calls_enter Tryz.func8 rfl 22 rfl rfl ?_; intro a S
 refine nxD (st_box S M rfl rfl rfl #[_, _, _, _, _, _, _, _, _, _, _, _] rfl ?_); intro a w1 b1 S M hB
 refine qG [1] S ?_; intro a S
 refine nxC (wp_seq (nxD (qG [1] S ?_))); intro a S
 refine qY S (y_eqlPN (by kernel_rfl) S rfl) ?_; intro a S
 refine nxC (st_condT S rfl (nxD (qG [1] S ?_))); intro a S
 refine nxC (wp_ret (then_ret (end_one S rfl (res_tmp rfl) ?_)))
 exact ⟨rfl, M.below⟩
set_option maxHeartbeats 1000000 in
theorem do_any {wc w : World} {A : List Ent} {b : Nat} (k kd c h bk : Int) (da : Option Addr) (dl dc : Nat) (st nd n : Int) (pa : Option Addr) (pl pc : Nat) (sp to : Int) (f : FuncId) (hg : (getM tabE.1 k).getD .nilFunc = .func (.func f) #[] #[]) (hm : decide (k ∈ tabE.1.map (·.1)) = true) (hEn : Enters Tryz.prog f) (R : Int → World → Prop)
 (hC : ∀ w1, Mem wc w1 A → Calls Tryz.prog f #[pB b, .agg (evC k kd c h bk da dl dc st nd n pa pl pc sp to).toArray] w1 fun e w' => ∃ v, e = .returned (.int .i64 v) ∧ R v w') (M : Mem wc w A) :
 Calls Tryz.prog 8 #[pB b, .agg (evC k kd c h bk da dl dc st nd n pa pl pc sp to).toArray] w fun e w' => ∃ v, e = .returned (.int .i64 v) ∧ R v w' := by
 refine calls_enter Tryz.func8 rfl 22 rfl rfl ?_; intro a S
 refine nxD (st_box S M rfl rfl rfl #[_, _, _, _, _, _, _, _, _, _, _, _] rfl ?_); intro a w1 bX S M hB
 refine qG [1] S ?_; intro a S
 refine nxC (wp_seq (nxD (qG [1] S ?_))); intro a S
 refine qY S (y_eqlPS (by kernel_rfl) S rfl) ?_; intro a S
 refine nxC (st_condF S rfl (wp_skip (then_normal (wp_seq (wp_regionK [] #[false, false, false, false, false, false, false, false, false] rfl M (by kernel_rfl) ?_))))); intro w2 M
 refine k_pure 1 S rfl (fun w => y_fieldAddr (k := 0) S (by kernel_rfl) rfl) ?_; intro a S
 refine k_read 2 S rfl (fun w hW => have M := M.grow hW; y_load S (by kernel_rfl) rfl (M.cell 0 rfl rfl)) ?_; intro a S
 refine k_one 0 rfl (by kernel_rfl) ?_
 refine qC (xs := []) S (qE Tryz.func25) rfl (events_any _) ?_
 rintro _ w3 ⟨bE, rfl, M1⟩; refine ⟨_, rfl, ?_⟩; intro a S
 have hK := M1.below
 replace M := M.join M1
 clear M1
 simp only [List.cons_append, List.nil_append] at M
 refine nxC ⟨fun _ => hK, ?_⟩
 refine k_read 3 S rfl (fun w hW => have M := M.grow hW; y_lookupM (pos := 0) S M (key8) (tabE_good) Tryz.underlying114 (zero_fnE) rfl rfl rfl) ?_; intro a S
 simp only [hg, hm, if_true] at S
 refine k_pure 4 S rfl (fun w => y_move S rfl) ?_; intro a S
 refine k_pure 5 S rfl (fun w => y_extract S rfl rfl) ?_; intro a S
 refine k_pure 6 S rfl (fun w => y_extract S rfl rfl) ?_; intro a S
 refine k_pure 7 S rfl (fun w => y_assign S rfl) ?_; intro a S
 refine k_pure 8 S rfl (fun w => y_assign S rfl) ?_; intro a S
 refine k_end (by kernel_rfl) ?_
 refine then_normal (wp_seq (nxD (qG [1, 1] S ?_))); intro a S
 refine nxC (st_if (t := 17) S rfl ?_ ?_)
 ·intro h17 S
  cases h17
 intro h17 S
 refine st_condF S rfl (wp_skip (nxE (qG [1, 1] S ?_))); intro a S
 refine qY S (y_loadAgg (cs := [_, _, _, _, _, _, _, _, _, _, _, _]) S (by kernel_rfl) rfl rfl (M.cellsAt (k := 12) 1 rfl rfl)) ?_; intro a S
 refine st_callB (xs := [.tmp 19, .tmp 20]) (fi := []) (ca := []) S (hEn) rfl rfl (rfl) rfl (hC _ (M.sub (.cons _ (.cons _ (List.Sublist.refl _))))) ?_
 rintro _ w4 ⟨v, rfl, hQ⟩; refine ⟨_, rfl, ?_⟩; intro a S
 refine qG [1] S ?_; intro a S
 replace S := S.keep [0, 1, 3, 8, 5, 6, 17, 4]
 refine nxC (wp_ret (end_one S rfl (res_tmp rfl) ?_))
 exact ⟨v, rfl, hQ⟩
def AddP (wc : World) (A : List Ent) (b : Nat) (pd pl sl : Value) (la : Int) (ov : Value) (nx bd : Int) (an hs : Value) (n : Nat) (w : World) : Prop := ∃ (sa : Option Addr) (sc lo hi : Nat) (ps : List Value), allOne ps = true ∧ ps.length = n ∧ Mem wc w (.blk b (clD pd pl sl la ov nx bd (.slice sa n sc) an hs).toArray 106 :: rowE lo hi 108 1 (.slice sa n sc) n ps :: A)
set_option maxHeartbeats 1000000 in
theorem add_any {wc w : World} {A : List Ent} {b : Nat} (pd pl sl : Value) (la : Int) (ov : Value) (nx bd : Int) (an hs : Value) (n : Nat) (hn : n ≤ 4) (h : AddP wc A b pd pl sl la ov nx bd an hs n w) :
 Calls Tryz.prog 50 #[pB b, .agg (evC 7 0 0 0 0 none 0 0 0 0 0 none 0 0 0 0).toArray] w fun e w' => ∃ v, e = .returned (.int .i64 v) ∧ (n < 4 ∧ v = 0 ∧ AddP wc A b pd pl sl la ov nx bd an hs (n + 1) w' ∨ n = 4 ∧ v = 250 ∧ AddP wc A b pd pl sl la ov nx bd an hs n w') := by
 obtain ⟨sa, sc, lo, hi, ps, h1, hpl, M⟩ := h
 refine calls_enter Tryz.func50 rfl 40 rfl rfl ?_; intro a S
 refine wp_seq ?_
 skip
 refine wp_region_lit (st_box S M rfl rfl rfl #[_, _, _, _, _, _, _, _, _, _, _, _] rfl ?_); intro a w1 bX S M hB
 refine qG [1] S ?_; intro a S
 refine nxC (wp_seq (nxD (qR [1, 1, 32, 2] S M ?_))); intro a S
 refine qY S (y_lenS (E := 108) S rfl (by kernel_rfl)) ?_; intro a S
 refine qG [1] S ?_; intro a S
 refine nxC (st_if (t := 12) S rfl ?_ ?_)
 ·intro h12 S
  refine st_condT S rfl (nxD (qG [1] S ?_)); intro a S
  refine nxC (wp_ret (then_ret (end_one S rfl (res_tmp rfl) ?_)))
  exact ⟨250, rfl, .inr ⟨by omega, rfl, sa, sc, lo, hi, ps, h1, hpl, M.drop 0⟩⟩
 intro h12 S
 refine st_condF S rfl (wp_skip (then_normal (wp_seq (nxD (qG [1, 1, 1] S ?_))))); intro a S
 refine qQ (xs := [.tmp 15]) S (qE Tryz.func31) rfl (isDownK_any _ (M.blk 1 rfl) rfl) M ?_; intro a w2 S hK M
 refine nxC (st_if (t := 16) S rfl ?_ ?_)
 ·intro h16 S
  cases h16
 intro h16 S
 refine st_condF S rfl (wp_skip (nxE (qR [1, 1, 32, 2] S M ?_))); intro a S
 refine qY S (y_lenS (E := 108) S rfl (by kernel_rfl)) ?_; intro a S
 (first | refine qY S (y_addN S rfl rfl (by omega)) ?_ | refine qY S (y_int S rfl rfl rfl) ?_); intro a S
 refine qC (xs := [.tmp 23, .const (.int .i64 0)]) S (qE Tryz.func23) rfl (newSite_any ((n : Int) + 1) 0 (by omega) (by omega) M) ?_
 rintro _ w3 ⟨b9, bd9, bs9, S9, rfl, hM⟩; refine ⟨_, rfl, ?_⟩; intro a S
 obtain ⟨da9, dc9, lo9, hi9, cs9, es9, E9, hE9, hBk9, M1⟩ := ShM.open (P := [_]) hM
 clear hM
 have M := M1.sub (.cons _ (.cons _ (.cons _ ((List.sublist_append_left _ E9).trans (List.sublist_append_right es9 _)))))
 clear M1
 refine qG [1, 1, 1, 1, 1] S ?_; intro a S
 replace S := S.keep [0, 1, 4, 12, 16, 5, 6]
 refine nxC (wp_seq (nxD (qG [1, 1] S ?_))); intro a S
 refine nxC (st_if (t := 28) S rfl ?_ ?_)
 ·intro h28 S
  exact absurd rfl h28
 intro h28 S
 refine st_condF S rfl (wp_skip (nxE (qR [1, 1, 1, 32, 2, 1] S M ?_))); intro a S
 refine st_lit (ps := [(0, .tmp 35)]) (e := 108) (sz := 1) (zl := [.pointer none]) (cs := [_]) S M rfl rfl (by kernel_rfl) rfl (rfl) ?_; intro a w4 bZ S M hB
 refine st_append (e := 108) (sz := 1) (by_ := 8) (zc := [.pointer none]) S M 3 rfl rfl (by kernel_rfl) rfl (by decide) rfl rfl rfl (show Rd _ _ _ 1 _ 1 [pB b9] from M.sliceAt 0 rfl (M.cellsAt (k := 1) 0 rfl rfl) rfl (Nat.le_refl _) (by unfold maxLen; omega)) (rfl) (by omega) (by unfold maxLen; omega) ?_; intro a w5 vA loA hiA S M
 obtain ⟨aA, cA, rfl, -, -⟩ := (M.readAll 0 rfl (by unfold maxLen; omega)).form
 refine qY S (y_nilCheck S rfl) ?_; intro a S
 refine qG [32] S ?_; intro a S
 refine qS (sz := 1) (us := [_]) S M 3 ?_; intro w6 M
 refine nxA (qG [1] S ?_); intro a S
 refine nxC (wp_ret (end_one S rfl (res_tmp rfl) ?_))
 skip
 replace M := M.drp 1
 replace M := M.drp 1
 replace M := M.frn 1
 exact ⟨0, rfl, .inl ⟨by omega, rfl, aA, cA, loA, hiA, ps ++ [pB b9], by rw [allOne_append, h1]; rfl, by simp [hpl], M⟩⟩
end Go.Proofs.YtkkcehcpffamkaaGreat

namespace Go.Proofs.YtkkcehcpffamkaaGreat
open Go.RowKit Go.Sort
theorem answersC_any {wc w : World} {H : List Ent} {b lo hi : Nat} (pd pl sl : Value) (la : Int) (ov : Value) (nx bd : Int) (si hs : Value) (aa : Option Addr) (ac : Nat) (xa : List Value) (h1 : allOne xa = true)
 (M : Mem wc w (.blk b (clD pd pl sl la ov nx bd si (.slice aa 1 ac) hs).toArray 106 :: rowE lo hi 81 13 (.slice aa 1 ac) 1 xa :: H)) :
 Calls Tryz.prog 11 #[pB b] w fun e w' => ∃ a2 c2 lo2 hi2, e = .returned (.slice a2 1 c2) ∧ Mem wc w' (rowE lo2 hi2 81 13 (.slice a2 1 c2) 1 xa :: .blk b (clD pd pl sl la ov nx bd si (.slice aa 1 ac) hs).toArray 106 :: rowE lo hi 81 13 (.slice aa 1 ac) 1 xa :: H) := by
 refine calls_enter Tryz.func11 rfl 10 rfl rfl ?_; intro a S
 refine wp_seq ?_
 replace M := M.rowNil 81 13
 refine wp_region_lit (qG [1] S ?_); intro a S
 refine nxC (wp_seq (nxD (qG [1] S ?_))); intro a S
 refine qY S (y_eqlPS (by kernel_rfl) S rfl) ?_; intro a S
 refine nxC (st_condF S rfl (wp_skip (nxE (qR [1, 1, 34, 2] S M ?_)))); intro a S
 refine st_append (e := 81) (sz := 13) (by_ := 48) (zc := [.int .i64 0, .int .i64 0, .int .i64 0, .int .u8 0, .int .u8 0, .int .u8 0, .int .u8 0, .int .u8 0, .int .u8 0, .int .u8 0, .int .u8 0, .int .i64 0, .int .i8 0]) S M 0 rfl rfl (by kernel_rfl) rfl (by decide) rfl rfl rfl (M.readAll 2 rfl (by unfold maxLen; omega)) (h1) (by omega) (by unfold maxLen; omega) ?_; intro a w1 vA loA hiA S M
 simp only [List.nil_append, Nat.zero_add] at M S
 obtain ⟨aX, cX, rfl, -, -⟩ := (M.readAll 0 rfl (by unfold maxLen; omega)).form
 refine qY S (y_assign S rfl) ?_; intro a S
 refine nxC (wp_ret (end_one S rfl (res_tmp rfl) ?_))
 exact ⟨aX, cX, _, _, rfl, M⟩
theorem shardsC_any {b T : Nat} {cs : Array Value} (sa : Option Addr) (n sc : Nat) (w : World) (B : Blk w b cs T) (h : cs[31]? = some (.slice sa n sc)) : Calls Tryz.prog 20 #[pB b] w fun e w' => e = .returned (.int .i64 (n : Int)) ∧ Below w.heap.size w w' := by
 have M := Mem.start w
 refine calls_enter Tryz.func20 rfl 10 rfl rfl ?_; intro a S
 refine nxD (qG [1] S ?_); intro a S
 refine nxC (wp_seq (nxD (qG [1] S ?_))); intro a S
 refine qY S (y_eqlPS (by kernel_rfl) S rfl) ?_; intro a S
 refine nxC (st_condF S rfl (wp_skip (nxE (qG [1, 1, 32] S ?_)))); intro a S
 refine qY S (y_load S (by kernel_rfl) rfl (by rw [(B.cells0 M.below).cells]; exact h)) ?_; intro a S
 refine qY S (y_lenS (E := 108) S rfl (by kernel_rfl)) ?_; intro a S
 refine qG [1] S ?_; intro a S
 refine nxC (wp_ret (end_one S rfl (res_tmp rfl) ?_))
 exact ⟨rfl, M.below⟩
theorem shardsNil (w : World) : Calls Tryz.prog 20 #[.pointer none] w fun e w' => e = .returned (.int .i64 0) ∧ Below w.heap.size w w' := by
 have M := Mem.start w
 refine calls_enter Tryz.func20 rfl 10 rfl rfl ?_; intro a S
 refine nxD (qG [1] S ?_); intro a S
 refine nxC (wp_seq (nxD (qG [1] S ?_))); intro a S
 refine qY S (y_eqlPN (by kernel_rfl) S rfl) ?_; intro a S
 refine nxC (st_condT S rfl (nxD (qG [1] S ?_))); intro a S
 refine nxC (wp_ret (then_ret (end_one S rfl (res_tmp rfl) ?_)))
 exact ⟨rfl, M.below⟩
theorem answersNil (w : World) : Calls Tryz.prog 11 #[.pointer none] w fun e w' => e = .returned nS ∧ Below w.heap.size w w' := by
 have M := Mem.start w
 refine calls_enter Tryz.func11 rfl 10 rfl rfl ?_; intro a S
 refine nxD (qG [1] S ?_); intro a S
 refine nxC (wp_seq (nxD (qG [1] S ?_))); intro a S
 refine qY S (y_eqlPN (by kernel_rfl) S rfl) ?_; intro a S
 refine nxC (st_condT S rfl (nxD (qG [1] S ?_))); intro a S
 refine nxC (wp_ret (then_ret (end_one S rfl (res_tmp rfl) ?_)))
 exact ⟨rfl, M.below⟩
theorem historyNil (w : World) : Calls Tryz.prog 10 #[.pointer none] w fun e w' => e = .returned nS ∧ Below w.heap.size w w' := by
 have M := Mem.start w
 refine calls_enter Tryz.func10 rfl 8 rfl rfl ?_; intro a S
 refine nxD (qG [1] S ?_); intro a S
 refine nxC (wp_seq (nxD (qG [1] S ?_))); intro a S
 refine qY S (y_eqlPN (by kernel_rfl) S rfl) ?_; intro a S
 refine nxC (st_condT S rfl (nxD (qG [1] S ?_))); intro a S
 refine nxC (wp_ret (then_ret (end_one S rfl (res_tmp rfl) ?_)))
 exact ⟨rfl, M.below⟩
theorem mailNil (w : World) : Calls Tryz.prog 9 #[.pointer none] w fun e w' => e = .returned nS ∧ Below w.heap.size w w' := by
 have M := Mem.start w
 refine calls_enter Tryz.func9 rfl 30 rfl rfl ?_; intro a S
 refine nxD (qG [1] S ?_); intro a S
 refine nxC (wp_seq (nxD (qG [1] S ?_))); intro a S
 refine qY S (y_eqlPN (by kernel_rfl) S rfl) ?_; intro a S
 refine nxC (st_condT S rfl (nxD (qG [1] S ?_))); intro a S
 refine nxC (wp_ret (then_ret (end_one S rfl (res_tmp rfl) ?_)))
 exact ⟨rfl, M.below⟩
theorem downNil (n : Int) (w : World) : Calls Tryz.prog 19 #[.pointer none, .int .i64 n] w fun e w' => e = .returned (.bool true) ∧ Below w.heap.size w w' := by
 have M := Mem.start w
 refine calls_enter Tryz.func19 rfl 17 rfl rfl ?_; intro a S
 refine nxD (qG [1] S ?_); intro a S
 refine nxC (wp_seq (nxD (qG [1] S ?_))); intro a S
 refine qY S (y_eqlPN (by kernel_rfl) S rfl) ?_; intro a S
 refine nxC (st_condT S rfl (nxD (qG [1] S ?_))); intro a S
 refine nxC (wp_ret (then_ret (end_one S rfl (res_tmp rfl) ?_)))
 exact ⟨rfl, M.below⟩
theorem coordNil (w : World) : Calls Tryz.prog 17 #[.pointer none] w fun e w' => e = .returned (.tuple #[.agg #[nS], .int .i64 1]) ∧ Below w.heap.size w w' := by
 have M := Mem.start w
 refine calls_enter Tryz.func17 rfl 39 rfl rfl ?_; intro a S
 refine nxD (st_alloc S M rfl rfl #[.slice none 0 0] (by kernel_rfl) ?_); intro a w1 b1 S M hB
 refine qG [1] S ?_; intro a S
 refine nxC (wp_seq (nxD (qG [1] S ?_))); intro a S
 refine qY S (y_eqlPN (by kernel_rfl) S rfl) ?_; intro a S
 refine nxC (st_condT S rfl (nxD (qY S (y_build (ps := []) (pl := [(0, 1)]) (z := [.slice none 0 0]) (cs := [_]) S (by kernel_rfl) rfl (rfl)) ?_))); intro a S
 refine qS (sz := 1) (us := [_]) S M 0 ?_; intro w2 M
 refine qG [1] S ?_; intro a S
 refine nxC (wp_ret (then_ret (end_two S rfl (res_agg (cs := [_]) (by kernel_rfl) rfl rfl (M.cellsAt (k := 1) 0 rfl rfl)) (res_tmp rfl) ?_)))
 exact ⟨rfl, M.below⟩
theorem blockNil (n : Int) (w : World) : Calls Tryz.prog 18 #[.pointer none, .int .i64 n] w fun e w' => e = .returned (.tuple #[.agg zV8.cellsL.toArray, .int .i64 1]) ∧ Below w.heap.size w w' := by
 have M := Mem.start w
 refine calls_enter Tryz.func18 rfl 40 rfl rfl ?_; intro a S
 refine nxD (st_alloc S M rfl rfl #[.int .u8 0, .int .u8 0, .int .u8 0, .int .u8 0, .int .u8 0, .int .u8 0, .int .u8 0, .int .u8 0] (by kernel_rfl) ?_); intro a w1 b1 S M hB
 refine qG [1] S ?_; intro a S
 refine nxC (wp_seq (nxD (qG [1] S ?_))); intro a S
 refine qY S (y_eqlPN (by kernel_rfl) S rfl) ?_; intro a S
 refine nxC (st_condT S rfl (nxD (qY S (y_buildA (ps := []) (sz := 1) (z := [.int .u8 0, .int .u8 0, .int .u8 0, .int .u8 0, .int .u8 0, .int .u8 0, .int .u8 0, .int .u8 0]) (cs := [_, _, _, _, _, _, _, _]) S (by kernel_rfl) rfl rfl) ?_))); intro a S
 refine qS (sz := 8) (us := [_, _, _, _, _, _, _, _]) S M 0 ?_; intro w2 M
 refine qG [1] S ?_; intro a S
 refine nxC (wp_ret (then_ret (end_two S rfl (res_agg (cs := [_, _, _, _, _, _, _, _]) (by kernel_rfl) rfl rfl (M.cellsAt (k := 8) 0 rfl rfl)) (res_tmp rfl) ?_)))
 exact ⟨rfl, M.below⟩
theorem siteNil (n : Int) (w : World) : Calls Tryz.prog 29 #[.pointer none, .int .i64 n] w fun e w' => e = .returned (.tuple #[.pointer none, .int .i64 1]) ∧ Below w.heap.size w w' := by
 have M := Mem.start w
 refine calls_enter Tryz.func29 rfl 39 rfl rfl ?_; intro a S
 refine nxD (qG [1, 1] S ?_); intro a S
 refine nxC (wp_seq (wp_block (nxD (qG [1] S ?_)))); intro a S
 refine qY S (y_eqlPN (by kernel_rfl) S rfl) ?_; intro a S
 refine qG [1] S ?_; intro a S
 refine nxC (st_condT S rfl (nxD (qG [1, 1] S ?_))); intro a S
 refine nxC (wp_ret (block_ret (then_ret (end_two S rfl (res_tmp rfl) (res_tmp rfl) ?_))))
 exact ⟨rfl, M.below⟩
theorem locksNil (n : Int) (w : World) : Calls Tryz.prog 16 #[.pointer none, .int .i64 n] w fun e w' => e = .returned (.tuple #[.agg #[nS, nS], .int .i64 1]) ∧ Below w.heap.size w w' := by
 have M := Mem.start w
 refine calls_enter Tryz.func16 rfl 33 rfl rfl ?_; intro a S
 refine nxD (st_alloc S M rfl rfl #[.slice none 0 0, .slice none 0 0] (by kernel_rfl) ?_); intro a w1 b1 S M hB
 refine qG [1] S ?_; intro a S
 refine nxA (qG [1, 1] S ?_); intro a S
 refine qQ (xs := [.tmp 10, .tmp 11]) S (qE Tryz.func29) rfl (siteNil _ _) M ?_; intro a w2 S hK M
 refine qG [1, 1, 1, 1, 1] S ?_; intro a S
 refine nxC (wp_seq (nxD (qG [1, 1] S ?_))); intro a S
 refine nxC (st_fi (t := 16) S rfl ?_ ?_)
 ·intro h16 S
  exact absurd h16 (by decide)
 intro h16 S
 refine st_condT S rfl (nxD (qY S (y_build (ps := []) (pl := [(0, 1), (1, 1)]) (z := [.slice none 0 0, .slice none 0 0]) (cs := [_, _]) S (by kernel_rfl) rfl (rfl)) ?_)); intro a S
 refine qG [1] S ?_; intro a S
 refine qS (sz := 2) (us := [_, _]) S M 0 ?_; intro w3 M
 refine qG [1] S ?_; intro a S
 refine nxC (wp_ret (then_ret (end_two S rfl (res_agg (cs := [_, _]) (by kernel_rfl) rfl rfl (M.cellsAt (k := 2) 0 rfl rfl)) (res_tmp rfl) ?_)))
 exact ⟨rfl, M.below⟩
set_option maxRecDepth 10000 in
theorem storeNil (n : Int) (w : World) : Calls Tryz.prog 15 #[.pointer none, .int .i64 n] w fun e w' => e = .returned (.tuple #[.agg (zSt.cellsL nS).toArray, .int .i64 1]) ∧ Below w.heap.size w w' := by
 have M := Mem.start w
 refine calls_enter Tryz.func15 rfl 23 rfl rfl ?_; intro a S
 refine nxD (st_alloc S M rfl rfl (zSt.cellsL (.slice none 0 0)).toArray (by kernel_rfl) ?_); intro a w1 b1 S M hB
 refine qG [1] S ?_; intro a S
 refine nxA (qG [1, 1] S ?_); intro a S
 refine qQ (xs := [.tmp 9, .tmp 10]) S (qE Tryz.func29) rfl (siteNil _ _) M ?_; intro a w2 S hK M
 refine qG [1, 1, 1, 1, 1] S ?_; intro a S
 refine nxC (wp_seq (nxD (qG [1, 1] S ?_))); intro a S
 refine nxC (st_fi (t := 15) S rfl ?_ ?_)
 ·intro h15 S
  exact absurd h15 (by decide)
 intro h15 S
 refine st_condT S rfl (nxD (qY S (y_build (ps := []) (pl := [(0, 13), (13, 2), (15, 256), (271, 1), (272, 1)]) (z := zSt.cellsL (.slice none 0 0)) (cs := zSt.cellsL (.slice none 0 0)) S (by kernel_rfl) rfl (rfl)) ?_)); intro a S
 refine qG [1] S ?_; intro a S
 refine st_storeAll (sz := 273) S M 0 rfl (by kernel_rfl) rfl rfl (by with_reducible exact St.len zSt_ok _) (by with_reducible exact St.one zSt_ok _ rfl) rfl (by with_reducible exact St.len zSt_ok _) ?_; intro w3 M
 simp only [List.set_cons_zero, List.set_cons_succ] at M
 refine qG [1] S ?_; intro a S
 refine nxC (wp_ret (then_ret (end_two S rfl (res_agg (k := 273) (cs := _) (by kernel_rfl) rfl (by with_reducible exact St.len zSt_ok _) (M.cellsAt 0 rfl cutL_all)) (res_tmp rfl) ?_)))
 exact ⟨rfl, M.below⟩
theorem great29_any {va : Option Addr} {vc : Nat} (k0 kd c h bk : Int) (da : Option Addr) (dl dc : Nat) (st nd n : Int) (pa : Option Addr) (pl pc : Nat) (sp to : Int) (w : World) (hv : Rd 0 w.heap.size w 12 (.slice va 1 vc) 1 (evC k0 kd c h bk da dl dc st nd n pa pl pc sp to)) :
 Calls Tryz.prog 5 #[.slice va 1 vc] w fun e w' => ∃ v : Bool, e = .returned (.bool v) ∧ Below w.heap.size w w' := by
 have M := Mem.start w
 refine calls_enter Tryz.func5 rfl 31 rfl rfl ?_; intro a S
 refine nxD (qG [1] S ?_); intro a S
 refine nxC (wp_seq (nxD (qG [1] S ?_))); intro a S
 refine qY S (y_lenS (E := 35) S rfl (by kernel_rfl)) ?_; intro a S
 refine qG [1] S ?_; intro a S
 refine nxC (wp_block (wp_loop_g (fun q a w' => ∃ (k : Nat), k ≤ 1 ∧ q = 1 - k ∧ Sees 31 a [(0, .slice va 1 vc), (5, .int .i64 1), (6, .int .i64 (k : Int))] ∧ Mem w w' []) (1) ?_ ?_))
 ·skip
  exact ⟨0, by omega, rfl, S.sub _ rfl, M⟩
 intro m a wl
 rintro ⟨k, hk, rfl, S, M⟩
 refine nxD (qG [1] S ?_); intro a S
 refine nxC (wp_seq (st_fi (t := 7) S rfl ?_ ?_))
 ·intro h7 S
  refine st_condF S rfl (wp_exit (then_exit (then_exit (block_hit (nxE (qG [1] S ?_)))))); intro a S
  refine nxC (wp_ret (end_one S rfl (res_tmp rfl) ?_))
  exact ⟨_, rfl, M.below⟩
 intro h7 S
 refine st_condT S rfl (wp_skip (then_normal (wp_seq (wp_block (wp_seq ?_)))))
 obtain rfl : k = 0 := by omega
 refine wp_region_lit (qG [1, 1] S ?_); intro a S
 refine nxA (qG [1, 1, 1] S ?_); intro a S
 refine st_if (t := 11) S rfl ?_ ?_
 ·intro h11 S
  refine qG [0, 0, 0, 0, 0, 0, 0, 1, 1, 0, 0, 0, 0, 0, 0, 0, 0, 1] S ?_; intro a S
  replace S := S.keep [0, 5, 6, 7, 3, 29]
  refine nxC (st_condT S rfl (nxD (qG [1] S ?_))); intro a S
  refine nxC (wp_ret (block_ret (then_ret (then_ret (block_ret (then_ret (end_one S rfl (res_tmp rfl) ?_)))))))
  exact ⟨true, rfl, M.below⟩
 intro h11 S
 refine qG [1, 1] S ?_; intro a S
 refine qY S (y_indexR (e := 35) (sz := 12) S (by kernel_rfl) rfl ((M.arg hv)) rfl (by first | omega | (simp; done) | (simp; omega))) ?_; intro a S
 try simp only [Int.toNat_natCast, Nat.mul_one, Nat.zero_add] at S
 refine qG [10] S ?_; intro a S
 refine qY S (y_load S (by kernel_rfl) rfl ((M.arg hv).at_.elem (i := 0) (sz := 12) (k := 9) rfl)) ?_; intro a S
 refine qY S (y_lenS (E := 506) S rfl (by kernel_rfl)) ?_; intro a S
 refine qG [1, 1, 1] S ?_; intro a S
 refine st_if (t := 20) S rfl ?_ ?_
 ·intro h20 S
  refine qG [0, 0, 0, 0, 0, 0, 0, 0, 1] S ?_; intro a S
  replace S := S.keep [0, 5, 6, 7, 3, 29]
  refine nxC (st_condT S rfl (nxD (qG [1] S ?_))); intro a S
  refine nxC (wp_ret (block_ret (then_ret (then_ret (block_ret (then_ret (end_one S rfl (res_tmp rfl) ?_)))))))
  exact ⟨true, rfl, M.below⟩
 intro h20 S
 refine qG [1, 1] S ?_; intro a S
 refine qY S (y_indexR (e := 35) (sz := 12) S (by kernel_rfl) rfl ((M.arg hv)) rfl (by first | omega | (simp; done) | (simp; omega))) ?_; intro a S
 try simp only [Int.toNat_natCast, Nat.mul_one, Nat.zero_add] at S
 refine qG [2, 5] S ?_; intro a S
 refine qY S (y_load S (by kernel_rfl) rfl ((M.arg hv).at_.elem (i := 0) (sz := 12) (k := 5) rfl)) ?_; intro a S
 refine qY S (y_lenS (E := 5) S rfl (by kernel_rfl)) ?_; intro a S
 refine qG [1, 1] S ?_; intro a S
 replace S := S.keep [0, 5, 6, 7, 3, 29]
 refine nxC (st_if (t := 29) S rfl ?_ ?_)
 ·intro h29 S
  refine st_condT S rfl (nxD (qG [1] S ?_)); intro a S
  refine nxC (wp_ret (block_ret (then_ret (then_ret (block_ret (then_ret (end_one S rfl (res_tmp rfl) ?_)))))))
  exact ⟨true, rfl, M.below⟩
 intro h29 S
 refine st_condF S rfl (wp_skip (block_normal (nxF ?_)))
 (first | refine qY S (y_addN S rfl rfl (by omega)) ?_ | refine qY S (y_int S rfl rfl rfl) ?_); intro a S
 refine qG [1] S ?_; intro a S
 refine nxC ?_
 exact ⟨1 - (0 + 1), by omega, 1, by omega, rfl, S.sub _ rfl, M⟩
end Go.Proofs.YtkkcehcpffamkaaGreat

namespace Go.Proofs.YtkkcehcpffamkaaGreat
open Go.RowKit Go.Sort
theorem SitesE.one {m : Su} : ∀ {ps : List Value} {F : List Ent}, SitesE m ps F → allOne ps = true := by
 intro ps F h
 have key : ∀ (qs : List Value), (∀ v ∈ qs, ∃ b, v = pB b) → allOne qs = true := by
  intro qs
  induction qs with
  | nil => intro _; rfl
  | cons v vs ih =>
    intro hv
    obtain ⟨b, rfl⟩ := hv v (List.mem_cons_self ..)
    show (_ && allOne vs) = true
    rw [ih fun u hu => hv u (List.mem_cons_of_mem _ hu)]; rfl
 refine key ps fun v hv => ?_
 obtain ⟨j, hj⟩ := List.mem_iff_getElem?.1 hv
 obtain ⟨b, -, -, -, -, -, -, -, -, e, -⟩ := h j v hj
 exact ⟨b, e⟩
set_option maxHeartbeats 4000000 in
theorem wakes29_any (w : World) : Calls Tryz.prog 6 #[] w fun e w' => e = .returned (.bool true) ∧ Below w.heap.size w w' := by
 have M := Mem.start w
 refine calls_enter Tryz.func6 rfl 62 rfl rfl ?_; intro a S
 refine nxD (qG [1] S ?_); intro a S
 refine nxA (qC (xs := [.const (.int .i64 1)]) S (qE Tryz.func7) rfl (newC_any 1 (by omega) _) ?_)
 rintro _ w1 ⟨bC, rfl, bd, bl, sa, sc, lo, hi, ps, S1, va, vc, lo2, hi2, F, E, hpl, hSi, hI, hE, M1⟩; refine ⟨_, rfl, ?_⟩; intro a S
 replace M := M.join M1
 clear M1
 rw [List.append_nil, List.nil_append] at M
 refine qG [1, 1, 1, 1, 1] S ?_; intro a S
 refine nxC (wp_seq (nxD (qG [1, 1, 1] S ?_))); intro a S
 refine st_if (t := 12) S rfl ?_ ?_
 ·intro h12 S
  exact absurd rfl h12
 intro h12 S
 refine qG [1] S ?_; intro a S
 refine qY S (y_eqlPS (by kernel_rfl) S rfl) ?_; intro a S
 refine qG [1] S ?_; intro a S
 refine nxC (st_condF S rfl (wp_skip (nxE (qG [1] S ?_)))); intro a S
 refine qY S (y_build (ps := [(1, .const (.int .i64 1))]) (pl := [(0, 1), (1, 1), (2, 1), (3, 1), (4, 1), (5, 1)]) (z := [.int .i8 0, .int .i64 0, .int .i64 0, .int .i64 0, .slice none 0 0, .int .i64 0]) (cs := [_, _, _, _, _, _]) S (by kernel_rfl) rfl (rfl)) ?_; intro a S
 refine qY S (y_build (ps := [(1, .tmp 17)]) (pl := [(0, 1), (1, 6), (7, 1), (8, 1), (9, 1), (10, 1), (11, 1)]) (z := [.int .i8 0, .int .i8 0, .int .i64 0, .int .i64 0, .int .i64 0, .slice none 0 0, .int .i64 0, .int .i64 0, .int .i64 0, .slice none 0 0, .int .i64 0, .int .i64 0]) (cs := [_, _, _, _, _, _, _, _, _, _, _, _]) S (by kernel_rfl) rfl (rfl)) ?_; intro a S
 refine qC (xs := [.tmp 16, .tmp 18]) S (qE Tryz.func8) rfl (do_any 0 0 1 0 0 none 0 0 0 0 0 none 0 0 0 0 43 rfl rfl (enters_of Tryz.func43 (by decide) rfl) (fun v w' => v = 0 ∧ CallP w (rowE lo hi 108 1 (.slice sa 1 sc) 1 ps :: F) bC bd bl (.slice sa 1 sc) 1 w') (fun w1 M1 => (callC_any (sK (firM (1 : Nat)) 6) va vc _ 1 (by omega) hE hI (by decide) (N := 2) ⟨by decide, by decide, by decide, by decide⟩ (by decide) M1).mono (fun e w' ⟨h1, h2⟩ => ⟨0, h1, rfl, h2⟩)) M) ?_
 rintro _ w2 ⟨v, rfl, rfl, sl, ov, a2, c2, lo3, hi3, a4, c4, lo5, hi5, M1⟩; refine ⟨_, rfl, ?_⟩; intro a S; have M := M1; clear M1
 refine nxA (qG [1] S ?_); intro a S
 refine qC (xs := [.tmp 20]) S (qE Tryz.func11) rfl (answersC_any (pB bd) (pB bl) sl 1 ov 2 17 (.slice sa 1 sc) (.slice a4 1 c4) a2 c2 (ansC 1 1 1) rfl M) ?_
 rintro _ w3 ⟨aX, cX, loX, hiX, rfl, M1⟩; refine ⟨_, rfl, ?_⟩; intro a S; have M := M1; clear M1
 refine qG [1] S ?_; intro a S
 replace S := S.keep [0, 1, 2, 15, 3]
 refine nxA (qG [1] S ?_); intro a S
 refine nxC (wp_seq (nxD (qG [1] S ?_))); intro a S
 refine nxC (wp_block (wp_loop_g (fun q a w' => ∃ (k : Nat) (er : Int), k ≤ 4 ∧ q = 4 - k ∧ (k = 4 → er = 250) ∧ Sees 62 a [(1, pB bC), (3, .slice aX 1 cX), (4, .int .i64 er), (5, .int .i64 (k : Int))] ∧ AddP w [rowE loX hiX 81 13 (.slice aX 1 cX) 1 (ansC 1 1 1)] bC (pB bd) (pB bl) sl 1 ov 2 17 (.slice a2 1 c2) (.slice a4 1 c4) (min (k + 1) 4) w') (4) ?_ ?_))
 ·skip
  replace M := M.drp 2
  replace M := M.drp 2
  replace M := M.ord [2, 2] (by simp only [ordO, oG, oS, oE, oZ, oB] <;> rfl)
  exact ⟨0, 0, Nat.zero_le _, rfl, fun h => absurd h (by decide), S.sub _ rfl, sa, sc, lo, hi, ps, hSi.one, hpl, M.sub (.cons_cons _ (.cons_cons _ (.cons_cons _ (List.nil_sublist _))))⟩
 intro m a wl
 rintro ⟨k, er, hk, rfl, her, S, sa, sc, lo, hi, ps, h1, hpl, M⟩
 refine wp_seq (nxD (qG [1, 1] S ?_)); intro a S
 refine nxC (st_if (t := 23) S rfl ?_ ?_)
 ·intro h23 S
  refine st_condT S rfl (wp_skip (then_normal (wp_seq (wp_block (wp_region_lit (qG [1] S ?_)))))); intro a S
  refine qY S (y_build (ps := [(0, .const (.int .i8 7))]) (pl := [(0, 1), (1, 6), (7, 1), (8, 1), (9, 1), (10, 1), (11, 1)]) (z := [.int .i8 0, .int .i8 0, .int .i64 0, .int .i64 0, .int .i64 0, .slice none 0 0, .int .i64 0, .int .i64 0, .int .i64 0, .slice none 0 0, .int .i64 0, .int .i64 0]) (cs := [_, _, _, _, _, _, _, _, _, _, _, _]) S (by kernel_rfl) rfl (rfl)) ?_; intro a S
  refine qC (xs := [.tmp 26, .tmp 27]) S (qE Tryz.func8) rfl (do_any 7 0 0 0 0 none 0 0 0 0 0 none 0 0 0 0 50 rfl rfl (enters_of Tryz.func50 (by decide) rfl) _ (fun w1 M1 => add_any (pB bd) (pB bl) sl 1 ov 2 17 (.slice a2 1 c2) (.slice a4 1 c4) (min (k + 1) 4) (by omega) ⟨sa, sc, lo, hi, ps, h1, hpl, M1⟩) M) ?_
  rintro _ w4 ⟨v, rfl, hP⟩; refine ⟨_, rfl, ?_⟩; intro a S
  refine qG [1] S ?_; intro a S
  refine wpList_nil (block_normal (nxF (qG [1] S ?_))); intro a S
  (first | refine qY S (y_addN S rfl rfl (by omega)) ?_ | refine qY S (y_int S rfl rfl rfl) ?_); intro a S
  refine qG [1] S ?_; intro a S
  refine nxC ?_
  rcases hP with ⟨h4, rfl, hP⟩ | ⟨h4, rfl, hP⟩
  ·exact ⟨4 - (k + 1), by omega, k + 1, 0, by omega, rfl, fun h => by omega, S.sub _ rfl, by rw [show min (k + 1 + 1) 4 = min (k + 1) 4 + 1 by omega]; exact hP⟩
  ·exact ⟨4 - (k + 1), by omega, k + 1, 250, by omega, rfl, fun h => rfl, S.sub _ rfl, by rw [show min (k + 1 + 1) 4 = min (k + 1) 4 by omega]; exact hP⟩
 intro h23 S
 refine st_condF S rfl (wp_exit (then_exit (then_exit (block_hit (then_normal (wp_seq ?_))))))
 obtain rfl : k = 4 := by omega
 obtain rfl := her rfl
 refine wp_region_lit (qG [1] S ?_); intro a S
 refine qY S (y_lenR (E := 81) S rfl ((M.readAll 2 rfl (by unfold maxLen; omega))) (by kernel_rfl)) ?_; intro a S
 refine qG [1, 1] S ?_; intro a S
 refine st_fi (t := 32) S rfl ?_ ?_
 ·intro h32 S
  first | exact absurd rfl h32 | (exfalso; omega) | (simp at h32; done) | cases h32
 intro h32 S
 refine qG [1] S ?_; intro a S
 refine qY S (y_indexR (e := 81) (sz := 13) S (by kernel_rfl) rfl ((M.readAll 2 rfl (by unfold maxLen; omega))) rfl (by first | omega | (simp; done) | (simp; omega))) ?_; intro a S
 refine qG [3] S ?_; intro a S
 refine qY S (y_load S (by kernel_rfl) rfl ((M.readAll 2 rfl (by unfold maxLen; omega)).at_.elem (i := 0) (sz := 13) (k := 2) rfl)) ?_; intro a S
 refine qG [1, 1, 1] S ?_; intro a S
 refine st_fi (t := 39) S rfl ?_ ?_
 ·intro h39 S
  first | exact absurd rfl h39 | (exfalso; omega) | (simp at h39; done) | cases h39
 intro h39 S
 refine qG [1] S ?_; intro a S
 refine qY S (y_indexR (e := 81) (sz := 13) S (by kernel_rfl) rfl ((M.readAll 2 rfl (by unfold maxLen; omega))) rfl (by first | omega | (simp; done) | (simp; omega))) ?_; intro a S
 refine qG [2] S ?_; intro a S
 refine qY S (y_load S (by kernel_rfl) rfl ((M.readAll 2 rfl (by unfold maxLen; omega)).at_.elem (i := 0) (sz := 13) (k := 1) rfl)) ?_; intro a S
 refine qG [1, 1, 1] S ?_; intro a S
 refine st_fi (t := 46) S rfl ?_ ?_
 ·intro h46 S
  first | exact absurd rfl h46 | (exfalso; omega) | (simp at h46; done) | cases h46
 intro h46 S
 refine qG [1] S ?_; intro a S
 refine qY S (y_indexR (e := 81) (sz := 13) S (by kernel_rfl) rfl ((M.readAll 2 rfl (by unfold maxLen; omega))) rfl (by first | omega | (simp; done) | (simp; omega))) ?_; intro a S
 refine qG [12] S ?_; intro a S
 refine qY S (y_load S (by kernel_rfl) rfl ((M.readAll 2 rfl (by unfold maxLen; omega)).at_.elem (i := 0) (sz := 13) (k := 11) rfl)) ?_; intro a S
 refine qG [1, 1, 1] S ?_; intro a S
 refine st_fi (t := 53) S rfl ?_ ?_
 ·intro h53 S
  first | exact absurd rfl h53 | (exfalso; omega) | (simp at h53; done) | cases h53
 intro h53 S
 refine qG [1, 1, 1, 1] S ?_; intro a S
 refine st_fi (t := 57) S rfl ?_ ?_
 ·intro h57 S
  first | exact absurd rfl h57 | (exfalso; omega) | (simp at h57; done) | cases h57
 intro h57 S
 refine qG [1] S ?_; intro a S
 refine qQ (xs := [.tmp 58]) S (qE Tryz.func20) rfl (shardsC_any sa (min (4 + 1) 4) sc _ (M.blk 0 rfl) rfl) M ?_; intro a w5 S hK M
 refine qG [1, 1, 1] S ?_; intro a S
 replace S := S.keep [1, 3, 4, 5, 23, 0]
 refine nxC (wp_ret (end_one S rfl (res_tmp rfl) ?_))
 exact ⟨rfl, M.below⟩
set_option maxHeartbeats 4000000 in
set_option maxRecDepth 10000 in
theorem clusterNil_any (k0 kd c h bk : Int) (da : Option Addr) (dl dc : Nat) (st nd n : Int) (pa : Option Addr) (pl pc : Nat) (sp to : Int) (z : Int) (w : World) : Calls Tryz.prog 4 #[.agg (evC k0 kd c h bk da dl dc st nd n pa pl pc sp to).toArray, .int .i64 z] w fun e w' => e = .returned (.bool true) ∧ Below w.heap.size w w' := by
 have M := Mem.start w
 refine calls_enter Tryz.func4 rfl 88 rfl rfl ?_; intro a S
 refine nxD (st_box S M rfl rfl rfl #[_, _, _, _, _, _, _, _, _, _, _, _] rfl ?_); intro a w1 bX S M hB
 refine qG [1] S ?_; intro a S
 refine nxC (wp_seq (nxD (qY S (y_loadAgg (cs := [_, _, _, _, _, _, _, _, _, _, _, _]) S (by kernel_rfl) rfl rfl (M.cellsAt (k := 12) 0 rfl rfl)) ?_))); intro a S
 refine st_lit (ps := [(0, .tmp 14)]) (e := 35) (sz := 12) (zl := [.int .i8 0, .int .i8 0, .int .i64 0, .int .i64 0, .int .i64 0, .slice none 0 0, .int .i64 0, .int .i64 0, .int .i64 0, .slice none 0 0, .int .i64 0, .int .i64 0]) (cs := [_, _, _, _, _, _, _, _, _, _, _, _]) S M rfl rfl (by kernel_rfl) rfl (rfl) ?_; intro a w2 bZ S M hB
 refine qC (xs := [.tmp 15]) S (qE Tryz.func5) rfl (great29_any k0 kd c h bk da dl dc st nd n pa pl pc sp to _ (Rd.wide (M.sliceAt (m := 1) 0 rfl (M.cellsAt (k := 12) 0 rfl rfl) rfl (Nat.le_refl _) (by unfold maxLen; omega)) (Nat.zero_le _) (Nat.le_refl _))) ?_
 rintro _ w3 ⟨v, rfl, hK⟩; refine ⟨_, rfl, ?_⟩; intro a S; replace M := M.grow hK
 refine nxC (st_if (t := 16) S rfl ?_ ?_)
 ·intro h16 S
  refine st_condT S rfl (nxD (qQ (xs := []) S (qE Tryz.func6) rfl (wakes29_any _) M ?_)); intro a w4 S hK M
  refine qG [1] S ?_; intro a S
  refine nxC (wp_ret (then_ret (end_one S rfl (res_tmp rfl) ?_)))
  exact ⟨rfl, M.below⟩
 intro h16 S
 refine st_condF S rfl (wp_skip (nxE (qG [1] S ?_))); intro a S
 refine nxA (qG [1, 1] S ?_); intro a S
 refine qQ (xs := [.tmp 19, .tmp 20]) S (qE Tryz.func15) rfl (storeNil _ _) M ?_; intro a w5 S hK M
 refine qG [1, 1, 1] S ?_; intro a S
 refine st_alloc S M rfl rfl (zSt.cellsL (.slice none 0 0)).toArray (by kernel_rfl) ?_; intro a w6 b1 S M hB
 refine st_storeAll (sz := 273) S M 0 rfl (by kernel_rfl) rfl rfl (by with_reducible exact St.len zSt_ok _) (by with_reducible exact St.one zSt_ok _ rfl) rfl (by with_reducible exact St.len zSt_ok _) ?_; intro w7 M
 simp only [List.set_cons_zero, List.set_cons_succ] at M
 refine qG [1] S ?_; intro a S
 refine nxA (qG [1, 1] S ?_); intro a S
 refine qQ (xs := [.tmp 25, .tmp 26]) S (qE Tryz.func16) rfl (locksNil _ _) M ?_; intro a w8 S hK M
 refine qG [1, 1, 1] S ?_; intro a S
 refine st_alloc S M rfl rfl #[.slice none 0 0, .slice none 0 0] (by kernel_rfl) ?_; intro a w9 b2 S M hB
 refine qS (sz := 2) (us := [_, _]) S M 0 ?_; intro w10 M
 refine qG [1] S ?_; intro a S
 replace S := S.keep [0, 1, 2, 4, 16, 5, 7, 9]
 refine nxA (qG [1] S ?_); intro a S
 refine qQ (xs := [.tmp 31]) S (qE Tryz.func17) rfl (coordNil _) M ?_; intro a w11 S hK M
 refine qG [1, 1, 1] S ?_; intro a S
 refine st_alloc S M rfl rfl #[.slice none 0 0] (by kernel_rfl) ?_; intro a w12 b3 S M hB
 refine qS (sz := 1) (us := [_]) S M 0 ?_; intro w13 M
 refine qG [1] S ?_; intro a S
 refine nxA (qG [1, 1] S ?_); intro a S
 refine qQ (xs := [.tmp 36, .tmp 37]) S (qE Tryz.func18) rfl (blockNil _ _) M ?_; intro a w14 S hK M
 refine qG [1, 1, 1] S ?_; intro a S
 refine st_alloc S M rfl rfl #[.int .u8 0, .int .u8 0, .int .u8 0, .int .u8 0, .int .u8 0, .int .u8 0, .int .u8 0, .int .u8 0] (by kernel_rfl) ?_; intro a w15 b4 S M hB
 refine qS (sz := 8) (us := [_, _, _, _, _, _, _, _]) S M 0 ?_; intro w16 M
 refine qG [1] S ?_; intro a S
 refine nxA (qG [1] S ?_); intro a S
 refine qY S (y_loadAgg (cs := [_, _, _, _, _, _, _, _, _, _, _, _]) S (by kernel_rfl) rfl rfl (M.cellsAt (k := 12) 5 rfl rfl)) ?_; intro a S
 refine qQ (xs := [.tmp 41, .tmp 42]) S (qE Tryz.func8) rfl (doNil_any k0 kd c h bk da dl dc st nd n pa pl pc sp to _) M ?_; intro a w17 S hK M
 refine qG [1, 1] S ?_; intro a S
 refine st_fi (t := 45) S rfl ?_ ?_
 ·intro h45 S
  first | exact absurd rfl h45 | (exfalso; omega) | (simp at h45; done) | cases h45
 intro h45 S
 refine qG [1, 1, 1, 1] S ?_; intro a S
 refine st_fi (t := 49) S rfl ?_ ?_
 ·intro h49 S
  first | exact absurd rfl h49 | (exfalso; omega) | (simp at h49; done) | cases h49
 intro h49 S
 refine qG [1, 1, 1, 1] S ?_; intro a S
 refine st_fi (t := 53) S rfl ?_ ?_
 ·intro h53 S
  first | exact absurd rfl h53 | (exfalso; omega) | (simp at h53; done) | cases h53
 intro h53 S
 refine qG [1, 1, 1, 1] S ?_; intro a S
 refine st_fi (t := 57) S rfl ?_ ?_
 ·intro h57 S
  first | exact absurd rfl h57 | (exfalso; omega) | (simp at h57; done) | cases h57
 intro h57 S
 refine qG [1, 1, 1, 1] S ?_; intro a S
 refine st_fi (t := 61) S rfl ?_ ?_
 ·intro h61 S
  first | exact absurd rfl h61 | (exfalso; omega) | (simp at h61; done) | cases h61
 intro h61 S
 refine qG [1, 1] S ?_; intro a S
 refine qQ (xs := [.tmp 62, .tmp 63]) S (qE Tryz.func19) rfl (downNil _ _) M ?_; intro a w18 S hK M
 refine qG [1, 1] S ?_; intro a S
 refine st_fi (t := 66) S rfl ?_ ?_
 ·intro h66 S
  first | exact absurd rfl h66 | (exfalso; omega) | (simp at h66; done) | cases h66
 intro h66 S
 refine qG [1] S ?_; intro a S
 refine qQ (xs := [.tmp 67]) S (qE Tryz.func20) rfl (shardsNil _) M ?_; intro a w19 S hK M
 refine qG [1, 1, 1] S ?_; intro a S
 refine st_fi (t := 71) S rfl ?_ ?_
 ·intro h71 S
  first | exact absurd rfl h71 | (exfalso; omega) | (simp at h71; done) | cases h71
 intro h71 S
 refine qG [1] S ?_; intro a S
 refine qQ (xs := [.tmp 72]) S (qE Tryz.func11) rfl (answersNil _) M ?_; intro a w20 S hK M
 refine qY S (y_lenS (E := 81) S rfl (by kernel_rfl)) ?_; intro a S
 refine qG [1] S ?_; intro a S
 refine qQ (xs := [.tmp 75]) S (qE Tryz.func10) rfl (historyNil _) M ?_; intro a w21 S hK M
 refine qY S (y_lenS (E := 118) S rfl (by kernel_rfl)) ?_; intro a S
 (first | refine qY S (y_addN S rfl rfl (by omega)) ?_ | refine qY S (y_int S rfl rfl rfl) ?_); intro a S
 refine qG [1] S ?_; intro a S
 refine qQ (xs := [.tmp 79]) S (qE Tryz.func9) rfl (mailNil _) M ?_; intro a w22 S hK M
 refine qY S (y_lenS (E := 52) S rfl (by kernel_rfl)) ?_; intro a S
 (first | refine qY S (y_addN S rfl rfl (by omega)) ?_ | refine qY S (y_int S rfl rfl rfl) ?_); intro a S
 refine qG [1, 1, 1] S ?_; intro a S
 refine st_fi (t := 85) S rfl ?_ ?_
 ·intro h85 S
  first | exact absurd rfl h85 | (exfalso; omega) | (simp at h85; done) | cases h85
 intro h85 S
 refine qQ (xs := []) S (qE Tryz.func6) rfl (wakes29_any _) M ?_; intro a w23 S hK M
 refine qG [1, 1] S ?_; intro a S
 replace S := S.keep [0, 1, 2, 16, 5, 7, 9, 11, 13, 4]
 refine nxC (wp_ret (end_one S rfl (res_tmp rfl) ?_))
 exact ⟨rfl, M.below⟩
end Go.Proofs.YtkkcehcpffamkaaGreat

namespace Go.Proofs.YtkkcehcpffamkaaGreat
open Go.ChangeShapes Go.WideShapes Go.ChangeAt Go.RowKit Go.Joins
theorem Tryz.own : ownKnob Tryz.prog.godebug = none := by kernel_rfl
theorem Tryz.laidOut : laidOutB Tryz.prog = true := by kernel_rfl
section
variable {H : Type} {enc : TypeId × Value → H} {P : Program}
theorem trodAll_stays (hl : laidOutB P = true) {W W' : World} (hb : Below W.heap.size W W') {sp : Nat → Bool} : ∀ (ts : List TypeId) (vs : List Value) (ds : List (DataW H)) (ps : List MemPlace),
 (∀ t ∈ ts, P.readableRec t = true ∧ t < P.types.size) → (∀ p ∈ ps, p.block < W.heap.size ∧ sp p.block = true) →
 DataW.TrodAll enc P W 0 (fun _ => true) true ts vs ds ps → DataW.TrodAll enc P W' 0 sp true ts vs ds ps
 | [], vs, ds, ps, _, _, h => by
   obtain ⟨rfl, rfl, rfl⟩ := trodAll_nil h
   exact trodAll_mk0
 | t :: ts, vs, ds, ps, ht, hp, h => by
   obtain ⟨v, vs', d, ds', p, q, rfl, rfl, rfl, h0, h1⟩ := trodAll_cons h
   exact trodAll_cons_mk (WideElems.Trod_stays hl (ht t (by simp)).1 (ht t (by simp)).2 h0 (fun x hx => hb.same (hp x (by simp [hx])).1) (fun x hx => (hp x (by simp [hx])).2))
    (trodAll_stays hl hb ts vs' ds' q (fun t' h' => ht t' (by simp [h'])) (fun x hx => hp x (by simp [hx])) h1)
theorem law_post {f : Func} {s : ChangeSpec} {apart fresh handsOn again : Bool} {W W' : World} {args : Array Value} {ds gs : List (DataW H)} {before : List MemPlace} {tb : TypeId}
 (hl : laidOutB P = true) (hts : ∀ t ∈ f.params.toList, P.readableRec t = true ∧ t < P.types.size) (hv : s.vars = []) (hrt : f.resultTypes = #[tb]) (htb : P.underlying tb = some .bool)
 (hs : ∀ ds : List (DataW H), ds.length = f.params.size → s.fn H ds = { results := [.lit (.bool true)], args := ds })
 (hW : DataW.Whole enc P f.params.toList s.vars apart W args.toList ds gs before) (hb : Below W.heap.size W W') : s.post enc P f apart fresh handsOn again W args (.bool true) W' := by
 have hlt : ∀ p ∈ before, p.block < W.heap.size := fun p hp => hW.lt p hp
 have hW' := hW
 obtain ⟨p, q, hA, hV, rfl, hfz, hnd⟩ := hW
 rw [hv] at hV
 obtain ⟨rfl, rfl⟩ := trodVars_none hV
 have hlen : ds.length = f.params.size := by
  have : ∀ (ts : List TypeId) (vs : List Value) (ds : List (DataW H)) (ps : List MemPlace), DataW.TrodAll enc P W 0 (fun _ => true) true ts vs ds ps → ds.length = ts.length := by
   intro ts
   induction ts with
   | nil => intro vs ds ps h; obtain ⟨_, rfl, _⟩ := trodAll_nil h; rfl
   | cons t ts ih => intro vs ds ps h; obtain ⟨v, vs', d, ds', p, q, _, rfl, _, _, h1⟩ := trodAll_cons h; simp [ih _ _ _ h1]
  simpa using this _ _ _ _ hA
 have e := hs ds hlen
 have args_read : ∀ sp : Nat → Bool, (∀ x ∈ p ++ [], sp x.block = true) → DataW.TrodAll enc P W' 0 sp true f.params.toList args.toList ds p := fun sp hsp =>
  trodAll_stays hl hb _ _ _ _ hts (fun x hx => ⟨hlt x (by simp [hx]), hsp x (by simp [hx])⟩) hA
 have res_read : ∀ (b : Nat) (sp : Nat → Bool) (hd : Bool), DataW.TrodAll enc P W' b sp hd f.resultTypes.toList (Value.resultList f.resultTypes.size (.bool true)) [.lit (.bool true)] [] := fun b sp hd => by
  rw [hrt]; exact trodAll_mk1 (shut_bool htb _)
 have no_vars : ∀ sp : Nat → Bool, DataW.TrodVars enc P W' sp s.vars ([] : List (DataW H)) [] := fun sp => by rw [hv]; rfl
 have hold : ∀ x ∈ p ++ [], (fun b => decide (b < W.heap.size)) x.block = true := fun x hx => by simpa using hlt x hx
 have e' : s.fn H (ds ++ []) = { results := [.lit (.bool true)], args := ds } := by rw [List.append_nil]; exact e
 refine ⟨ds, [], p ++ [], [], p, [], hW', ?_, ?_, ?_, World.keptBut_mono (fun x hx => ⟨hx, ?_⟩) (hb.frame (· ∈ p ++ [])), fun _ => ?_⟩
 ·rw [e']; exact res_read _ _ _
 ·rw [e']; exact args_read _ hold
 ·rw [e']; exact no_vars _
 ·exact Or.inr (by simpa using hx)
 ·refine ⟨ok_one hrt rfl (okWide_bool_mk htb _), _, _, ([] ++ p) ++ [], ⟨[] ++ p, [], trodAll_append (args_read _ (fun _ _ => rfl)) (res_read _ _ _), no_vars _, rfl, fun b off hx => ?_, fun ha => by simpa using hnd ha⟩, fun x hx _ => by simpa using hx⟩
  have hin : MemPlace.cell b off ∈ p ++ [] := by simpa using hx
  rw [hb.frozen (hlt _ hin)]
  exact hfz b off hin
end
end Go.Proofs.YtkkcehcpffamkaaGreat
namespace Go.Proofs.YtkkcehcpffamkaaGreat
open Go.ChangeShapes Go.WideShapes Go.ChangeAt Go.RowKit Go.Joins
section
variable {H : Type} {enc : TypeId × Value → H} {P : Program} {W : World} {base : Nat} {t : TypeId} {v : Value} {d : DataW H} {ps : List MemPlace}
theorem cells_one {x : Value} (h : v.cells.toList = [x]) (hna : ∀ cs, v ≠ .agg cs) : v = x := by
 cases v <;> first | exact absurd rfl (hna _) | (simp [Value.cells] at h; exact h)
theorem arg_int {k : IntKind} (ht : P.underlying t = some (.int k)) (hv : Value.okWide P W .any base t v) (h : DataW.Trod enc P W 0 (fun _ => true) true t v d ps) : ∃ n, v = .int k n ∧ k.min ≤ n ∧ n ≤ k.max := by
 obtain ⟨fuel, h⟩ := h
 obtain ⟨n, e, _, _⟩ := DataW.trod_int ht h
 unfold Value.okWide at hv
 simp only [ht] at hv
 have hv' : Cell.okWide P W .any base t v := hv
 unfold Cell.okWide at hv'
 simp only [ht] at hv'
 have hna : ∀ cs, v ≠ .agg cs := fun cs hc => by subst hc; simp [Cell.ok, ht] at hv'
 have := cells_one e hna
 subst this
 simp only [Cell.ok, ht] at hv'
 exact ⟨n, rfl, hv'.2⟩
end
end Go.Proofs.YtkkcehcpffamkaaGreat
namespace Go.Proofs.YtkkcehcpffamkaaGreat
open Go.ChangeShapes Go.WideShapes Go.ChangeAt Go.RowKit Go.Joins
section
variable {H : Type} {enc : TypeId × Value → H} {P : Program} {W : World} {base : Nat} {t : TypeId} {v : Value} {d : DataW H} {ps : List MemPlace}
end
end Go.Proofs.YtkkcehcpffamkaaGreat
namespace Go.Proofs.YtkkcehcpffamkaaGreat
open Go.ChangeShapes Go.WideShapes Go.ChangeAt Go.RowKit Go.Joins
section
variable {H : Type} {enc : TypeId × Value → H} {P : Program} {W : World} {t : TypeId} {cs : List Value}
def Rdt (enc : TypeId × Value → H) (P : Program) (W : World) (t : TypeId) (cs : List Value) : Prop := ∃ n x, DataW.trod enc P W 0 (fun _ => true) true n t cs = some x
theorem Rdt.int {k : IntKind} (h : Rdt enc P W t cs) (ht : P.underlying t = some (.int k)) : ∃ z, cs = [.int k z] ∧ k.min ≤ z ∧ z ≤ k.max := by
 obtain ⟨n, x, h⟩ := h
 obtain ⟨z, e, -, hw⟩ := DataW.trod_int ht h
 simp only [Lit.wf, Bool.and_eq_true, decide_eq_true_eq] at hw
 exact ⟨z, e, hw⟩
theorem Rdt.i64 (h : Rdt enc P W t cs) (ht : P.underlying t = some (.int .i64)) : ∃ z, cs = [.int .i64 z] ∧ -9223372036854775808 ≤ z ∧ z ≤ 9223372036854775807 := by
 obtain ⟨z, e, h1, h2⟩ := h.int ht
 have e1 : IntKind.i64.min = -9223372036854775808 := rfl
 have e2 : IntKind.i64.max = 9223372036854775807 := rfl
 exact ⟨z, e, by omega, by omega⟩
theorem Rdt.u8 (h : Rdt enc P W t cs) (ht : P.underlying t = some (.int .u8)) : ∃ b : UInt8, cs = [.int .u8 (b.toNat : Int)] := by
 obtain ⟨z, e, h1, h2⟩ := h.int ht
 have e1 : IntKind.u8.min = 0 := rfl
 have e2 : IntKind.u8.max = 255 := rfl
 refine ⟨UInt8.ofNat z.toNat, ?_⟩
 rw [e]; simp; omega
theorem Rdt.len_struct {fs : Array Field} (h : Rdt enc P W t cs) (ht : P.underlying t = some (.struct fs)) : cs.length = P.cellsOf t := by
 obtain ⟨n, x, h⟩ := h
 obtain ⟨xs, m, -, -, hl, -, -⟩ := DataW.trod_struct ht h
 exact hl
theorem Rdt.field {fs : Array Field} (h : Rdt enc P W t cs) (ht : P.underlying t = some (.struct fs)) (i : Nat) {f : Field} (hf : fs[i]? = some f) {k : Nat} (hk : P.cellsOf f.type = k) : Rdt enc P W f.type ((cs.drop f.offset).take k) := by
 obtain ⟨n, x, h⟩ := h
 obtain ⟨xs, m, -, -, hl, hlen, hx⟩ := DataW.trod_struct ht h
 have hlt : i < xs.length := by rw [hlen]; exact (Array.getElem?_eq_some_iff.1 hf).1
 subst hk
 exact ⟨m, xs[i], by rw [← List.getElem?_eq_getElem hlt]; exact hx i f hf⟩
theorem list_of {α : Type} {Q : Nat → α → Prop} : ∀ (n : Nat), (∀ i, i < n → ∃ a, Q i a) → ∃ xs : List α, xs.length = n ∧ ∀ i a, xs[i]? = some a → Q i a
 | 0, _ => ⟨[], rfl, fun i a h => by simp at h⟩
 | n + 1, h => by
   obtain ⟨xs, hl, hx⟩ := list_of n (fun i hi => h i (by omega))
   obtain ⟨a, ha⟩ := h n (by omega)
   refine ⟨xs ++ [a], by simp [hl], fun i b hb => ?_⟩
   rcases Nat.lt_or_ge i n with hi | hi
   ·rw [List.getElem?_append_left (by omega)] at hb; exact hx i b hb
   ·rw [List.getElem?_append_right (by omega)] at hb
    have : i - xs.length = 0 := by
     rcases Nat.eq_zero_or_pos (i - xs.length) with h0 | h0
     ·exact h0
     ·rw [List.getElem?_eq_none (by simp; omega)] at hb; cases hb
    rw [this] at hb
    obtain rfl : a = b := by simpa using hb
    obtain rfl : i = n := by omega
    exact ha
theorem addr_add2 (ad : Addr) (m j : Nat) : (ad.add m).add j = ad.add (m + j) := by
 unfold Addr.add
 by_cases h1 : m = 0
 ·subst h1; simp
 ·by_cases h2 : j = 0
  ·subst h2; simp
  ·simp [h1, h2, Nat.add_assoc]
theorem flat_get {sz : Nat} : ∀ (l : List (List Value)) (i j : Nat) (r : List Value), (∀ r ∈ l, r.length = sz) → l[i]? = some r → j < sz → l.flatten[i * sz + j]? = r[j]?
 | [], i, j, r, _, h, _ => by simp at h
 | x :: l, 0, j, r, hl, h, hj => by
   obtain rfl : x = r := by simpa using h
   have := hl x (by simp)
   rw [Nat.zero_mul, Nat.zero_add, List.flatten_cons, List.getElem?_append_left (by omega)]
 | x :: l, i + 1, j, r, hl, h, hj => by
   have hx := hl x (by simp)
   have := flat_get l i j r (fun q hq => hl q (by simp [hq])) (by simpa using h) hj
   rw [List.flatten_cons, List.getElem?_append_right (by rw [hx, Nat.succ_mul]; omega), ← this, hx]
   congr 1; rw [Nat.succ_mul]; omega
theorem flat_len {sz : Nat} : ∀ (l : List (List Value)), (∀ r ∈ l, r.length = sz) → l.flatten.length = l.length * sz
 | [], _ => by simp
 | x :: l, hl => by rw [List.flatten_cons, List.length_append, flat_len l (fun q hq => hl q (by simp [hq])), hl x (by simp), List.length_cons, Nat.succ_mul]; omega
theorem Rdt.rows {α : Type} {Φ : α → List Value → Prop} {e sz : Nat} (h : Rdt enc P W t cs) (ht : P.underlying t = some (.slice e)) (hc : P.cellsOf e = sz) (hsz : 0 < sz) (hl : ∀ a cs, Φ a cs → cs.length = sz) (he : ∀ cs, Rdt enc P W e cs → ∃ a, Φ a cs) :
 ∃ u css, ∃ xs : List α, cs = [u] ∧ Rd 0 W.heap.size W sz u xs.length css ∧ ∀ i a, xs[i]? = some a → Φ a ((css.drop (i * sz)).take sz) := by
 obtain ⟨n, x, h⟩ := h
 rcases DataW.trod_slice ht h with ⟨rfl, -⟩ | ⟨ad, len, cap, elems, rest, m, -, rfl, -, -, hlc, hcm, hlen, hel, -, -⟩
 ·exact ⟨_, [], [], rfl, Rd.nil _ _ _ _, fun i a h => by simp at h⟩
 ·have each : ∀ i, i < len → ∃ q : α × List Value, W.cells? 0 (ad.add (i * sz)) sz = some q.2 ∧ Φ q.1 q.2 := fun i hi => by
   have h1 := hel i hi
   rw [hc, List.getElem?_eq_getElem (by omega)] at h1
   obtain ⟨r, h2, h3⟩ := Option.bind_eq_some_iff.1 h1
   obtain ⟨a, ha⟩ := he r ⟨m, _, h3⟩
   exact ⟨(a, r), h2, ha⟩
  obtain ⟨qs, hql, hq⟩ := list_of len each
  have hrl : ∀ r ∈ qs.map (·.2), r.length = sz := fun r hr => by
   obtain ⟨q, hq1, rfl⟩ := List.mem_map.1 hr
   obtain ⟨i, hi⟩ := List.getElem?_of_mem hq1
   exact hl _ _ (hq i q hi).2
  have hcell : ∀ i j (r : List Value), (qs.map (·.2))[i]? = some r → j < sz → W.cell? (ad.add (i * sz + j)) = r[j]? := fun i j r hr hj => by
   rw [List.getElem?_map, Option.map_eq_some_iff] at hr
   obtain ⟨q, hq1, rfl⟩ := hr
   obtain ⟨-, h2, h3⟩ := World.cells?_some (hq i q hq1).1
   have := h3 j hj
   rw [← this, addr_add2]
  have hfl := flat_len (qs.map (·.2)) hrl
  rw [List.length_map, hql] at hfl
  have hsp : 0 < len → ad.spot = none ∧ ad.block < W.heap.size := fun h0 => by
   obtain ⟨q, hq0⟩ : ∃ q, qs[0]? = some q := ⟨_, List.getElem?_eq_getElem (by omega)⟩
   have hr0 : (qs.map (·.2))[0]? = some q.2 := by simp [hq0]
   have h1 := hcell 0 0 q.2 hr0 hsz
   have hq2 := hrl q.2 (List.mem_of_getElem? hr0)
   rw [Nat.zero_mul, Nat.add_zero, show ad.add 0 = ad from rfl, List.getElem?_eq_getElem (by omega)] at h1
   refine ⟨?_, block_lt_of_cell h1⟩
   unfold World.cell? at h1
   split at h1
   ·split at h1
    ·cases h1
    ·rename_i hs; simpa using hs
   ·cases h1
  refine ⟨_, (qs.map (·.2)).flatten, qs.map (·.1), rfl, ?_, fun i a ha => ?_⟩
  ·rw [List.length_map, hql]
   refine ⟨hfl, by omega, .inr ⟨ad, cap, rfl, hlc, hcm, fun j hj => ?_, fun h0 => ⟨(hsp h0).1, Nat.zero_le _, (hsp h0).2⟩⟩⟩
   rw [hfl] at hj
   have hlen0 : 0 < len := by rcases Nat.eq_zero_or_pos len with h | h; · rw [h] at hj; simp at hj
                              ·exact h
   have hi : j / sz < len := Nat.div_lt_of_lt_mul (by rw [Nat.mul_comm]; exact hj)
   have hm := Nat.mod_lt j hsz
   have ej : j = j / sz * sz + j % sz := by rw [Nat.mul_comm]; exact (Nat.div_add_mod j sz).symm
   obtain ⟨q, hq1⟩ : ∃ q, qs[j / sz]? = some q := ⟨_, List.getElem?_eq_getElem (by omega)⟩
   have hr1 : (qs.map (·.2))[j / sz]? = some q.2 := by simp [hq1]
   have h1 := hcell (j / sz) (j % sz) q.2 hr1 hm
   have h2 := flat_get _ (j / sz) (j % sz) q.2 hrl hr1 hm
   rw [← ej] at h1 h2
   rw [h2, ← h1]
   obtain ⟨b, o, sp⟩ := ad
   have : sp = none := (hsp hlen0).1
   subst this
   rw [addr_add]
  ·rw [List.getElem?_map, Option.map_eq_some_iff] at ha
   obtain ⟨q, hq1, rfl⟩ := ha
   have hr1 : (qs.map (·.2))[i]? = some q.2 := by simp [hq1]
   have hq2 := hrl q.2 (List.mem_of_getElem? hr1)
   have : ((qs.map (·.2)).flatten.drop (i * sz)).take sz = q.2 := by
    apply List.ext_getElem?
    intro j
    rcases Nat.lt_or_ge j sz with hj | hj
    ·rw [List.getElem?_take_of_lt hj, List.getElem?_drop, flat_get _ i j q.2 hrl hr1 hj]
    ·rw [List.getElem?_eq_none (by simp; omega), List.getElem?_eq_none (by omega)]
   rw [this]
   exact (hq i q hq1).2
theorem rows_flat {α : Type} {f : α → List Value} {sz : Nat} : ∀ (xs : List α) (css : List Value), css.length = xs.length * sz → (∀ a, (f a).length = sz) → (∀ i a, xs[i]? = some a → (css.drop (i * sz)).take sz = f a) → css = xs.flatMap f
 | [], css, hl, _, _ => by simpa using List.eq_nil_of_length_eq_zero (by simpa using hl)
 | x :: xs, css, hl, hf, h => by
   have h0 := h 0 x rfl
   rw [Nat.zero_mul, List.drop_zero] at h0
   have hr := rows_flat xs (css.drop sz) (by rw [List.length_drop, hl, List.length_cons, Nat.succ_mul]; omega) hf (fun i a hi => by
    have := h (i + 1) a (by simpa using hi)
    rw [List.drop_drop, ← this]; congr 2; rw [Nat.succ_mul]; omega)
   rw [List.flatMap_cons, ← h0, ← hr, List.take_append_drop]
theorem Rdt.flat {α : Type} {f : α → List Value} {e sz : Nat} (h : Rdt enc P W t cs) (ht : P.underlying t = some (.slice e)) (hc : P.cellsOf e = sz) (hsz : 0 < sz) (hl : ∀ a, (f a).length = sz) (he : ∀ cs, Rdt enc P W e cs → ∃ a, cs = f a) :
 ∃ u, ∃ xs : List α, cs = [u] ∧ Rd 0 W.heap.size W sz u xs.length (xs.flatMap f) := by
 obtain ⟨u, css, xs, rfl, hR, hx⟩ := h.rows (Φ := fun a cs => cs = f a) ht hc hsz (fun a cs h => by rw [h]; exact hl a) he
 rw [rows_flat xs css hR.1 hl hx] at hR
 exact ⟨u, xs, rfl, hR⟩
theorem rdt_agg {fs : Array Field} {base : Nat} {v : Value} {d : DataW H} {ps : List MemPlace} (ht : P.underlying t = some (.struct fs)) (hv : Value.okWide P W .any base t v) (h : DataW.Trod enc P W 0 (fun _ => true) true t v d ps) : ∃ cs : List Value, v = .agg cs.toArray ∧ Rdt enc P W t cs := by
 obtain ⟨fuel, h⟩ := h
 unfold Value.okWide at hv
 simp only [ht] at hv
 obtain ⟨cs, rfl, -, -⟩ := hv
 exact ⟨cs.toList, rfl, fuel, _, h⟩
end
end Go.Proofs.YtkkcehcpffamkaaGreat

namespace Go.Proofs.YtkkcehcpffamkaaGreat
open Go.ChangeShapes Go.WideShapes Go.ChangeAt Go.RowKit Go.Joins
section
variable {H : Type} {enc : TypeId × Value → H} {W : World} {cs : List Value}
theorem rdt_bytesE (h : Rdt enc Tryz.prog W 30 cs) : ∃ a n c, cs = [.slice a n c] := by
 obtain ⟨u, bs, e, hR⟩ := h.flat (f := fun b : UInt8 => [Value.int .u8 (b.toNat : Int)]) (sz := 1) Tryz.underlying30 (by kernel_rfl) (by omega) (fun _ => rfl) (fun cs h => h.u8 Tryz.underlying5)
 obtain ⟨va, vc, rfl, -, -⟩ := hR.form
 exact ⟨_, _, _, e⟩
theorem rdt_keptE (h : Rdt enc Tryz.prog W 33 cs) : ∃ a n c, cs = [.slice a n c] := by
 obtain ⟨u, plan, e, hR⟩ := h.flat (f := fun p : Int × Int => [Value.int .i64 p.1, .int .i64 p.2]) (sz := 2) Tryz.underlying33 (by kernel_rfl) (by omega) (fun _ => rfl) (fun cs h => by
  have hl := h.len_struct Tryz.underlying506
  rw [show Tryz.prog.cellsOf 506 = 2 by kernel_rfl] at hl
  match cs, hl with
  | [c0, c1], _ =>
    have k1 : Tryz.prog.cellsOf 3 = 1 := by kernel_rfl
    obtain ⟨z0, e0, -⟩ := (show Rdt enc Tryz.prog W 3 [c0] from h.field Tryz.underlying506 0 rfl k1).i64 Tryz.underlying3
    obtain ⟨z1, e1, -⟩ := (show Rdt enc Tryz.prog W 3 [c1] from h.field Tryz.underlying506 1 rfl k1).i64 Tryz.underlying3
    cases e0; cases e1
    exact ⟨(z0, z1), rfl⟩)
 obtain ⟨va, vc, rfl, -, -⟩ := hR.form
 exact ⟨_, _, _, e⟩
theorem rdt_callE (h : Rdt enc Tryz.prog W 32 cs) : ∃ kd c h bk da dl dc st, cs = [.int .i8 kd, .int .i64 c, .int .i64 h, .int .i64 bk, .slice da dl dc, .int .i64 st] := by
 have hl := h.len_struct Tryz.underlying32
 rw [show Tryz.prog.cellsOf 32 = 6 by kernel_rfl] at hl
 match cs, hl with
 | [c0, c1, c2, c3, c4, c5], _ =>
   have k1 : Tryz.prog.cellsOf 3 = 1 := by kernel_rfl
   obtain ⟨z0, e0, -⟩ := (show Rdt enc Tryz.prog W 29 [c0] from h.field Tryz.underlying32 0 rfl (k := 1) (by kernel_rfl)).int Tryz.underlying29
   obtain ⟨z1, e1, -⟩ := (show Rdt enc Tryz.prog W 3 [c1] from h.field Tryz.underlying32 1 rfl k1).i64 Tryz.underlying3
   obtain ⟨z2, e2, -⟩ := (show Rdt enc Tryz.prog W 3 [c2] from h.field Tryz.underlying32 2 rfl k1).i64 Tryz.underlying3
   obtain ⟨z3, e3, -⟩ := (show Rdt enc Tryz.prog W 3 [c3] from h.field Tryz.underlying32 3 rfl k1).i64 Tryz.underlying3
   obtain ⟨da, dl, dc, e4⟩ := rdt_bytesE (show Rdt enc Tryz.prog W 30 [c4] from h.field Tryz.underlying32 4 rfl (k := 1) (by kernel_rfl))
   obtain ⟨z5, e5, -⟩ := (show Rdt enc Tryz.prog W 3 [c5] from h.field Tryz.underlying32 5 rfl k1).i64 Tryz.underlying3
   cases e0; cases e1; cases e2; cases e3; cases e4; cases e5
   exact ⟨_, _, _, _, _, _, _, _, rfl⟩
theorem rdt_evE (h : Rdt enc Tryz.prog W 35 cs) : ∃ (k kd c h bk : Int) (da : Option Addr) (dl dc : Nat) (st nd n : Int) (pa : Option Addr) (pl pc : Nat) (sp to : Int), cs = [.int .i8 k, .int .i8 kd, .int .i64 c, .int .i64 h, .int .i64 bk, .slice da dl dc, .int .i64 st, .int .i64 nd, .int .i64 n, .slice pa pl pc, .int .i64 sp, .int .i64 to] := by
 have hl := h.len_struct Tryz.underlying35
 rw [show Tryz.prog.cellsOf 35 = 12 by kernel_rfl] at hl
 match cs, hl with
 | [c0, c1, c2, c3, c4, c5, c6, c7, c8, c9, c10, c11], _ =>
   have k1 : Tryz.prog.cellsOf 3 = 1 := by kernel_rfl
   obtain ⟨z0, e0, -⟩ := (show Rdt enc Tryz.prog W 29 [c0] from h.field Tryz.underlying35 0 rfl (k := 1) (by kernel_rfl)).int Tryz.underlying29
   obtain ⟨kd, c, hh, bk, da, dl, dc, st, e1⟩ := rdt_callE (show Rdt enc Tryz.prog W 32 [c1, c2, c3, c4, c5, c6] from h.field Tryz.underlying35 1 rfl (k := 6) (by kernel_rfl))
   obtain ⟨z2, e2, -⟩ := (show Rdt enc Tryz.prog W 3 [c7] from h.field Tryz.underlying35 2 rfl k1).i64 Tryz.underlying3
   obtain ⟨z3, e3, -⟩ := (show Rdt enc Tryz.prog W 3 [c8] from h.field Tryz.underlying35 3 rfl k1).i64 Tryz.underlying3
   obtain ⟨pa, pl, pc, e4⟩ := rdt_keptE (show Rdt enc Tryz.prog W 33 [c9] from h.field Tryz.underlying35 4 rfl (k := 1) (by kernel_rfl))
   obtain ⟨z5, e5, -⟩ := (show Rdt enc Tryz.prog W 3 [c10] from h.field Tryz.underlying35 5 rfl k1).i64 Tryz.underlying3
   obtain ⟨z6, e6, -⟩ := (show Rdt enc Tryz.prog W 3 [c11] from h.field Tryz.underlying35 6 rfl k1).i64 Tryz.underlying3
   cases e0; cases e1; cases e2; cases e3; cases e4; cases e5; cases e6
   exact ⟨_, _, _, _, _, _, _, _, _, _, _, _, _, _, _, _, rfl⟩
end
end Go.Proofs.YtkkcehcpffamkaaGreat

