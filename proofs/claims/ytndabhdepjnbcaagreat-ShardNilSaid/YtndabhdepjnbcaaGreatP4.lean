/-
  What ShardNil rests on, part 4.
-/
import Derived.Test.YtndabhdepjnbcaaGreatP3
namespace Go.Proofs.YtndabhdepjnbcaaGreat
open Go.RowKit Go.Sort
noncomputable def rdR (bs : List UInt8) (k : Nat) : Su × Bool := match supP bs k with
  | some x => (x, true)
  | none => (zSu, false)
theorem rdR_shut {bs : List UInt8} {k : Nat} (h : opnB bs 27 = false) : rdR bs k = (zSu, false) := by
  unfold rdR supP; rw [h]; simp
theorem rdR_no {bs : List UInt8} {k : Nat} (h : ¬ ((suOf (bs.take 27)).may ∧ (suOf (bs.take 27)).gen % 2 = (k : Int))) : rdR bs k = (zSu, false) := by
  unfold rdR supP; rw [if_neg (fun q => h q.2)]
theorem rdR_yes {bs : List UInt8} {k : Nat} (h : opnB bs 27 = true) (h1 : (suOf (bs.take 27)).may) (h2 : (suOf (bs.take 27)).gen % 2 = (k : Int)) : rdR bs k = (suOf (bs.take 27), true) := by
  unfold rdR supP; rw [if_pos ⟨h, h1, h2⟩]
def suHd (b : List UInt8) (j : Nat) : Su := ⟨if 0 < j then numB b 0 6 else 0, if 1 < j then numB b 6 6 else 0, if 2 < j then numB b 12 1 else 0, if 3 < j then numB b 13 3 else 0, if 4 < j then numB b 16 3 else 0, 0, 0, 0, 0, 0, 0, 0, 0⟩
noncomputable def opnL (bs : List UInt8) (n : Nat) : List UInt8 := if opnB bs n = true then bs.take n else []
theorem opn_uni {wo w w' : World} {H : List Ent} {bs : List UInt8} {n : Nat} {e : Ending} (M : Mem wo w H) (hn : n ≤ bs.length) (hP : OpnP bs n w e w') :
    ∃ v' lo hi, e = .returned (.tuple #[v', .bool (opnB bs n)]) ∧ Below w.heap.size w w' ∧ Mem wo w' (rowE lo hi 5 1 v' (opnL bs n).length (bcells (opnL bs n)) :: H) := by
  obtain ⟨v', rfl, hK, hF, hN⟩ := hP
  cases h : opnB bs n with
  | true =>
    obtain ⟨lo, hi, -, M1⟩ := M.pushFresh (hF h)
    refine ⟨v', lo, hi, rfl, hK, ?_⟩
    unfold opnL
    rw [if_pos h, List.length_take, Nat.min_eq_left hn]
    exact M1
  | false =>
    obtain rfl := hN h
    obtain ⟨lo, hi, M1⟩ := (M.grow hK).nilRow 5 1
    refine ⟨_, lo, hi, rfl, hK, ?_⟩
    unfold opnL
    rw [if_neg (by rw [h]; decide)]
    exact M1
theorem opnL_yes {bs : List UInt8} {n : Nat} (h : opnB bs n = true) : opnL bs n = bs.take n := if_pos h
set_option maxHeartbeats 1000000 in
theorem readH_any (v : Value) (bs : List UInt8) (k : Nat) (w : World) (hv : Bs 0 w.heap.size w v bs) (hb : bs.length = 64) :
    Calls Tryz.prog 45 #[v, .int .i64 (k : Int)] w fun e w' => e = .returned (.tuple #[.agg (rdR bs k).1.cellsL.toArray, .bool (rdR bs k).2]) ∧ Below w.heap.size w w' := by
  have M := Mem.start w
  have hl27 : (bs.take 27).length = 27 := by rw [List.length_take]; omega
  refine calls_enter Tryz.func45 rfl 57 rfl rfl ?_; intro a S
  refine nxD ?_
  refine st_alloc S M rfl rfl #[.int .i64 0, .int .i64 0, .int .i64 0, .int .i64 0, .int .i64 0, .int .i64 0, .int .i64 0, .int .i64 0, .int .i64 0, .int .i64 0, .int .i64 0, .int .i64 0, .int .i64 0] (by kernel_rfl) ?_; clear S M a; intro a w1 bZ S M hB
  refine st_go [1] S rfl (by kernel_rfl) ?_; clear S a; intro a S
  refine nxA ?_
  refine st_go [1] S rfl (by kernel_rfl) ?_; clear S a; intro a S
  refine st_call (xs := [(Operand.tmp 13), (Operand.const (Value.int IntKind.i64 31))]) S (enters_of Tryz.func64 (by decide) rfl) rfl rfl rfl (openH_any v bs 27 _ (M.argW hv) (by omega) (by omega)) ?_
  rintro _ w2 hP; obtain ⟨v2, lo, hi, rfl, hK, M1⟩ := opn_uni M (by omega) hP; refine ⟨_, rfl, ?_⟩; clear S a; intro a S; clear M hP; have M := M1; clear M1
  have hol : (opnL bs 27).length ≤ 64 := by unfold opnL; split <;> simp; omega
  obtain ⟨va, vc, rfl, -, -⟩ := (M.readAll 0 rfl (by unfold maxLen; omega)).form
  refine st_go [1, 1, 1] S rfl (by kernel_rfl) ?_; clear S a; intro a S
  refine st_alloc S M rfl rfl #[.slice none 0 0] (by kernel_rfl) ?_; clear S M a; intro a w3 bV S M hB
  refine st_store (sz := 1) (us := [_]) S M 0 rfl (by kernel_rfl) rfl rfl rfl rfl rfl rfl (by first | decide | (simp; done) | (simp; omega)) ?_; clear M; intro w4 M
  simp only [putL, List.set_cons_zero, List.set_cons_succ, Nat.reduceAdd] at M
  refine st_go [1] S rfl (by kernel_rfl) ?_; clear S a; intro a S
  refine nxC ?_
  refine wp_seq ?_
  refine nxD ?_
  refine st_go [1, 1] S rfl (by kernel_rfl) ?_; clear S a; intro a S
  refine nxC ?_
  refine st_if (t := 18) S rfl ?_ ?_
  · clear S; intro h18 S
    refine st_condT S rfl ?_
    refine nxD ?_
    refine st_y S rfl rfl rfl (y_build (ps := []) (pl := [(0, 1), (1, 1), (2, 1), (3, 1), (4, 1), (5, 8)]) (z := [.int .i64 0, .int .i64 0, .int .i64 0, .int .i64 0, .int .i64 0, .int .i64 0, .int .i64 0, .int .i64 0, .int .i64 0, .int .i64 0, .int .i64 0, .int .i64 0, .int .i64 0]) (cs := [_, _, _, _, _, _, _, _, _, _, _, _, _]) S (by kernel_rfl) rfl (rfl)) ?_; clear S a; intro a S
    refine st_store (sz := 13) (us := [_, _, _, _, _, _, _, _, _, _, _, _, _]) S M 2 rfl (by kernel_rfl) rfl rfl rfl rfl rfl rfl (by first | decide | (simp; done) | (simp; omega)) ?_; clear M; intro w5 M
    simp only [putL, List.set_cons_zero, List.set_cons_succ, Nat.reduceAdd] at M
    refine st_go [1] S rfl (by kernel_rfl) ?_; clear S a; intro a S
    refine nxC ?_
    refine wp_ret ?_
    refine then_ret ?_
    refine end_two S rfl (res_agg (cs := [_, _, _, _, _, _, _, _, _, _, _, _, _]) (by kernel_rfl) rfl rfl (M.cellsAt (k := 13) 2 rfl rfl)) (res_tmp rfl) ?_
    refine ⟨?_, M.below⟩
    rw [rdR_shut (by simp_all)]; rfl
  clear S; intro h18 S
  refine st_condF S rfl ?_
  refine wp_skip ?_
  refine then_normal ?_
  refine wp_seq ?_
  have hop : opnB bs 27 = true := by simp_all
  rw [opnL_yes hop] at M
  clear hol
  obtain ⟨b9, hb9⟩ : ∃ b9, bs.take 27 = b9 := ⟨_, rfl⟩
  rw [hb9] at M hl27
  obtain ⟨v2, hv2⟩ : ∃ v2, Value.slice va b9.length vc = v2 := ⟨_, rfl⟩
  rw [hv2] at M
  refine wp_region_lit ?_
  refine st_alloc S M rfl rfl #[.int .i64 0] (by kernel_rfl) ?_; clear S M a; intro a w6 bA S M hB
  refine st_store (sz := 1) (us := [_]) S M 0 rfl (by kernel_rfl) rfl rfl rfl rfl rfl rfl (by first | decide | (simp; done) | (simp; omega)) ?_; clear M; intro w7 M
  simp only [putL, List.set_cons_zero, List.set_cons_succ, Nat.reduceAdd] at M
  refine nxA ?_
  refine st_y S rfl rfl rfl (y_makeFunc (fs := []) (cs := [(Operand.tmp 6), (Operand.tmp 8)]) S rfl rfl) ?_; clear S a; intro a S
  refine st_go [1] S rfl (by kernel_rfl) ?_; clear S a; intro a S
  refine nxA ?_
  refine st_alloc S M rfl rfl #[.int .i64 0, .int .i64 0, .int .i64 0, .int .i64 0, .int .i64 0, .int .i64 0, .int .i64 0, .int .i64 0, .int .i64 0, .int .i64 0, .int .i64 0, .int .i64 0, .int .i64 0] (by kernel_rfl) ?_; clear S M a; intro a w8 bX S M hB
  refine nxC ?_
  refine wp_seq ?_
  obtain ⟨rest, hrest⟩ : ∃ rest, rest = [Ent.blk bZ zSu.cellsL.toArray 49] := ⟨_, rfl⟩
  have hbs : ∀ b c, RdH w (.blk bX b 49 :: rowE lo hi 5 1 v2 b9.length (bcells b9) :: c) v2 b9 := fun b c W M => M.readAll 1 rfl (by unfold maxLen; omega)
  replace M := M.ord [2, 2] (by simp only [ordO, oG, oS, oE, oZ, oB] <;> rfl)
  refine wp_region_lit ?_
  refine st_go [1] S rfl (by kernel_rfl) ?_; clear S a; intro a S
  refine st_callB (xs := [(Operand.const (Value.int IntKind.i64 6))]) (fi := []) (ca := [_, _]) S (enters_of Tryz.func76 (by decide) rfl) rfl rfl (rfl) rfl (take9_any 0 6 M (hbs _ _) (by omega) (by omega) (by omega)) ?_
  rintro _ w9 ⟨rfl, M1⟩; refine ⟨_, rfl, ?_⟩; clear S M a; intro a S; have M := M1; clear M1
  refine st_go [1] S rfl (by kernel_rfl) ?_; clear S a; intro a S
  refine st_store (sz := 1) (us := [_]) S M 2 rfl (by kernel_rfl) rfl rfl rfl rfl rfl rfl (by first | decide | (simp; done) | (simp; omega)) ?_; clear M; intro w10 M
  simp only [putL, List.set_cons_zero, List.set_cons_succ, Nat.reduceAdd] at M
  refine nxA ?_
  refine st_go [1] S rfl (by kernel_rfl) ?_; clear S a; intro a S
  refine st_callB (xs := [(Operand.const (Value.int IntKind.i64 6))]) (fi := []) (ca := [_, _]) S (enters_of Tryz.func76 (by decide) rfl) rfl rfl (rfl) rfl (take9_any 6 6 M (hbs _ _) (by omega) (by omega) (by omega)) ?_
  rintro _ w11 ⟨rfl, M1⟩; refine ⟨_, rfl, ?_⟩; clear S M a; intro a S; have M := M1; clear M1
  refine st_go [2] S rfl (by kernel_rfl) ?_; clear S a; intro a S
  refine st_store (sz := 1) (us := [_]) S M 2 rfl (by kernel_rfl) rfl rfl rfl rfl rfl rfl (by first | decide | (simp; done) | (simp; omega)) ?_; clear M; intro w12 M
  simp only [putL, List.set_cons_zero, List.set_cons_succ, Nat.reduceAdd] at M
  refine nxA ?_
  refine st_go [1] S rfl (by kernel_rfl) ?_; clear S a; intro a S
  refine st_callB (xs := [(Operand.const (Value.int IntKind.i64 1))]) (fi := []) (ca := [_, _]) S (enters_of Tryz.func76 (by decide) rfl) rfl rfl (rfl) rfl (take9_any 12 1 M (hbs _ _) (by omega) (by omega) (by omega)) ?_
  rintro _ w13 ⟨rfl, M1⟩; refine ⟨_, rfl, ?_⟩; clear S M a; intro a S; have M := M1; clear M1
  refine st_go [3] S rfl (by kernel_rfl) ?_; clear S a; intro a S
  refine st_store (sz := 1) (us := [_]) S M 2 rfl (by kernel_rfl) rfl rfl rfl rfl rfl rfl (by first | decide | (simp; done) | (simp; omega)) ?_; clear M; intro w14 M
  simp only [putL, List.set_cons_zero, List.set_cons_succ, Nat.reduceAdd] at M
  replace S := S.sub [(0, _), (1, _), (4, _), (5, _), (6, _), (7, _), (18, _), (8, _), (9, _), (10, _)] rfl
  refine nxA ?_
  refine st_go [1] S rfl (by kernel_rfl) ?_; clear S a; intro a S
  refine st_callB (xs := [(Operand.const (Value.int IntKind.i64 3))]) (fi := []) (ca := [_, _]) S (enters_of Tryz.func76 (by decide) rfl) rfl rfl (rfl) rfl (take9_any 13 3 M (hbs _ _) (by omega) (by omega) (by omega)) ?_
  rintro _ w15 ⟨rfl, M1⟩; refine ⟨_, rfl, ?_⟩; clear S M a; intro a S; have M := M1; clear M1
  refine st_go [4] S rfl (by kernel_rfl) ?_; clear S a; intro a S
  refine st_store (sz := 1) (us := [_]) S M 2 rfl (by kernel_rfl) rfl rfl rfl rfl rfl rfl (by first | decide | (simp; done) | (simp; omega)) ?_; clear M; intro w16 M
  simp only [putL, List.set_cons_zero, List.set_cons_succ, Nat.reduceAdd] at M
  refine nxA ?_
  refine st_go [1] S rfl (by kernel_rfl) ?_; clear S a; intro a S
  refine st_callB (xs := [(Operand.const (Value.int IntKind.i64 3))]) (fi := []) (ca := [_, _]) S (enters_of Tryz.func76 (by decide) rfl) rfl rfl (rfl) rfl (take9_any 16 3 M (hbs _ _) (by omega) (by omega) (by omega)) ?_
  rintro _ w17 ⟨rfl, M1⟩; refine ⟨_, rfl, ?_⟩; clear S M a; intro a S; have M := M1; clear M1
  refine st_go [5] S rfl (by kernel_rfl) ?_; clear S a; intro a S
  refine st_store (sz := 1) (us := [_]) S M 2 rfl (by kernel_rfl) rfl rfl rfl rfl rfl rfl (by first | decide | (simp; done) | (simp; omega)) ?_; clear M; intro w18 M
  simp only [putL, List.set_cons_zero, List.set_cons_succ, Nat.reduceAdd] at M
  refine nxC ?_
  refine wp_seq ?_
  refine nxD ?_
  refine st_go [1] S rfl (by kernel_rfl) ?_; clear S a; intro a S
  refine nxC ?_
  refine wp_block ?_
  refine wp_loop_g (fun m a w' => ∃ i : Nat, i ≤ 8 ∧ m = 8 - i ∧ Sees 57 a [(1, .int .i64 (k : Int)), (4, .pointer (some ⟨bZ, 0, none⟩)), (9, .func (.func 76) #[] #[.pointer (some ⟨bV, 0, none⟩), .pointer (some ⟨bA, 0, none⟩)]), (10, .pointer (some ⟨bX, 0, none⟩)), (36, .int .i64 (i : Int))] ∧ Mem w w' [.blk bA #[.int .i64 ((19 + i : Nat) : Int)] 3, .blk bV #[v2] 101, .blk bX (suPre b9 i).cellsL.toArray 49, rowE lo hi 5 1 v2 b9.length (bcells b9), .blk bZ zSu.cellsL.toArray 49]) (8) ?_ ?_
  · skip
    exact ⟨0, by omega, rfl, S.sub _ rfl, M⟩
  clear S M a; intro m a wl
  rintro ⟨i, hi8, rfl, S, M⟩
  refine nxD ?_
  refine st_go [1] S rfl (by kernel_rfl) ?_; clear S a; intro a S
  refine nxC ?_
  refine wp_seq ?_
  refine st_if (t := 37) S rfl ?_ ?_
  · clear S; intro h37 S
    refine st_condT S rfl ?_
    refine wp_skip ?_
    refine then_normal ?_
    refine wp_seq ?_
    refine wp_block ?_
    refine nxD ?_
    refine st_go [1, 1] S rfl (by kernel_rfl) ?_; clear S a; intro a S
    refine nxB ?_
    refine st_go [1, 1] S rfl (by kernel_rfl) ?_; clear S a; intro a S
    refine st_callB (xs := [(Operand.const (Value.int IntKind.i64 1))]) (fi := []) (ca := [_, _]) S (enters_of Tryz.func76 (by decide) rfl) rfl rfl (rfl) rfl (take9_any (19 + i) 1 M (hbs _ _) (by omega) (by omega) (by omega)) ?_
    rintro _ w19 ⟨rfl, M1⟩; refine ⟨_, rfl, ?_⟩; clear S M a; intro a S; have M := M1; clear M1
    refine st_go [6] S rfl (by kernel_rfl) ?_; clear S a; intro a S
    refine st_y S rfl rfl rfl (y_indexA (m := 8) (sz := 1) S (by kernel_rfl) rfl rfl (by first | omega | (simp; done) | (simp; omega))) ?_; clear S a; intro a S
    try simp only [Int.toNat_natCast, Nat.mul_one, Nat.zero_add] at S
    refine st_store (sz := 1) (us := [_]) S M 2 rfl (by kernel_rfl) rfl rfl rfl rfl rfl rfl (by first | decide | (simp; done) | (simp; omega)) ?_; clear M; intro w20 M
    simp only [List.set_cons_zero, List.set_cons_succ] at M
    refine wpList_nil ?_
    refine block_normal ?_
    refine nxF ?_
    (first | refine st_y S rfl rfl rfl (y_addN S rfl rfl (by omega)) ?_ | refine st_y S rfl rfl rfl (y_int S rfl rfl rfl) ?_); clear S a; intro a S
    refine st_go [1] S rfl (by kernel_rfl) ?_; clear S a; intro a S
    refine nxC ?_
    refine ⟨8 - (i + 1), by omega, i + 1, by omega, rfl, S.sub _ rfl, ?_⟩
    rw [Su.mSet_cell _ _ (show i < 8 by omega), suPre_next _ (show i < 8 by omega)] at M
    exact M
  clear S; intro h37 S
  refine st_condF S rfl ?_
  refine wp_exit ?_
  refine then_exit ?_
  refine then_exit ?_
  refine block_hit ?_
  refine then_normal ?_
  refine wp_seq ?_
  refine wp_seq ?_
  obtain rfl : i = 8 := by omega
  obtain ⟨s8, hs8⟩ : ∃ s, s = suOf b9 := ⟨_, rfl⟩
  have hnn : 0 ≤ s8.gen := by rw [hs8]; exact suOf_nn _
  rw [suPre_all, ← hs8] at M
  refine wp_region_lit ?_
  refine st_y S rfl rfl rfl (y_loadAgg (cs := [_, _, _, _, _, _, _, _, _, _, _, _, _]) S (by kernel_rfl) rfl rfl (M.cellsAt (k := 13) 2 rfl rfl)) ?_; clear S a; intro a S
  refine st_call (xs := [(Operand.tmp 45)]) S (enters_of Tryz.func78 (by decide) rfl) rfl rfl rfl (mayH_any s8 _) ?_
  rintro _ w21 ⟨rfl, hK⟩; refine ⟨_, rfl, ?_⟩; clear S a; intro a S; replace M := M.grow hK
  refine st_go [1, 1] S rfl (by kernel_rfl) ?_; clear S a; intro a S
  refine st_if (t := 48) S rfl ?_ ?_
  · clear S; intro h48 S
    refine st_go [0, 0, 0, 0, 0, 1] S rfl (by kernel_rfl) ?_; clear S a; intro a S
    refine nxC ?_
    refine st_condT S rfl ?_
    refine nxD ?_
    refine st_y S rfl rfl rfl (y_build (ps := []) (pl := [(0, 1), (1, 1), (2, 1), (3, 1), (4, 1), (5, 8)]) (z := [.int .i64 0, .int .i64 0, .int .i64 0, .int .i64 0, .int .i64 0, .int .i64 0, .int .i64 0, .int .i64 0, .int .i64 0, .int .i64 0, .int .i64 0, .int .i64 0, .int .i64 0]) (cs := [_, _, _, _, _, _, _, _, _, _, _, _, _]) S (by kernel_rfl) rfl (rfl)) ?_; clear S a; intro a S
    refine st_store (sz := 13) (us := [_, _, _, _, _, _, _, _, _, _, _, _, _]) S M 4 rfl (by kernel_rfl) rfl rfl rfl rfl rfl rfl (by first | decide | (simp; done) | (simp; omega)) ?_; clear M; intro w22 M
    simp only [putL, List.set_cons_zero, List.set_cons_succ, Nat.reduceAdd] at M
    refine st_go [1] S rfl (by kernel_rfl) ?_; clear S a; intro a S
    refine nxC ?_
    refine wp_ret ?_
    refine then_ret ?_
    refine end_two S rfl (res_agg (cs := [_, _, _, _, _, _, _, _, _, _, _, _, _]) (by kernel_rfl) rfl rfl (M.cellsAt (k := 13) 4 rfl rfl)) (res_tmp rfl) ?_
    refine ⟨?_, M.below⟩
    rw [rdR_no (by rw [hb9, ← hs8]; rintro ⟨a1, a2⟩; first | omega | simp_all)]; rfl
  clear S; intro h48 S
  refine st_run [1, 3] S M rfl (by kernel_rfl) ?_; clear S a; intro a S
  (first | refine st_y S rfl rfl rfl (y_remN S rfl rfl (by omega)) ?_ | refine st_y S rfl rfl rfl (y_remZ S rfl rfl (by omega)) ?_); clear S a; intro a S
  refine st_go [1, 1, 1] S rfl (by kernel_rfl) ?_; clear S a; intro a S
  refine nxC ?_
  refine st_fi (t := 54) S rfl ?_ ?_
  · clear S; intro h54 S
    refine st_condF S rfl ?_
    refine wp_skip ?_
    refine nxE ?_
    refine st_y S rfl rfl rfl (y_loadAgg (cs := [_, _, _, _, _, _, _, _, _, _, _, _, _]) S (by kernel_rfl) rfl rfl (M.cellsAt (k := 13) 2 rfl rfl)) ?_; clear S a; intro a S
    refine st_store (sz := 13) (us := [_, _, _, _, _, _, _, _, _, _, _, _, _]) S M 4 rfl (by kernel_rfl) rfl rfl rfl rfl rfl rfl (by first | decide | (simp; done) | (simp; omega)) ?_; clear M; intro w24 M
    simp only [putL, List.set_cons_zero, List.set_cons_succ, Nat.reduceAdd] at M
    refine st_go [1] S rfl (by kernel_rfl) ?_; clear S a; intro a S
    refine nxC ?_
    refine wp_ret ?_
    refine end_two S rfl (res_agg (cs := [_, _, _, _, _, _, _, _, _, _, _, _, _]) (by kernel_rfl) rfl rfl (M.cellsAt (k := 13) 4 rfl rfl)) (res_tmp rfl) ?_
    refine ⟨?_, M.below⟩
    rw [rdR_yes hop (by rw [hb9, ← hs8]; simp_all) (by rw [hb9, ← hs8]; omega), hb9, ← hs8]
  clear S; intro h54 S
  refine st_condT S rfl ?_
  refine nxD ?_
  refine st_y S rfl rfl rfl (y_build (ps := []) (pl := [(0, 1), (1, 1), (2, 1), (3, 1), (4, 1), (5, 8)]) (z := [.int .i64 0, .int .i64 0, .int .i64 0, .int .i64 0, .int .i64 0, .int .i64 0, .int .i64 0, .int .i64 0, .int .i64 0, .int .i64 0, .int .i64 0, .int .i64 0, .int .i64 0]) (cs := [_, _, _, _, _, _, _, _, _, _, _, _, _]) S (by kernel_rfl) rfl (rfl)) ?_; clear S a; intro a S
  refine st_store (sz := 13) (us := [_, _, _, _, _, _, _, _, _, _, _, _, _]) S M 4 rfl (by kernel_rfl) rfl rfl rfl rfl rfl rfl (by first | decide | (simp; done) | (simp; omega)) ?_; clear M; intro w23 M
  simp only [putL, List.set_cons_zero, List.set_cons_succ, Nat.reduceAdd] at M
  refine st_go [1] S rfl (by kernel_rfl) ?_; clear S a; intro a S
  refine nxC ?_
  refine wp_ret ?_
  refine then_ret ?_
  refine end_two S rfl (res_agg (cs := [_, _, _, _, _, _, _, _, _, _, _, _, _]) (by kernel_rfl) rfl rfl (M.cellsAt (k := 13) 4 rfl rfl)) (res_tmp rfl) ?_
  refine ⟨?_, M.below⟩
  rw [rdR_no (by rw [hb9, ← hs8]; rintro ⟨a1, a2⟩; first | omega | simp_all)]; rfl
/-! ### the superblock of a disk -/
theorem bestH_take {sec : Nat → List UInt8} {i : Nat} {x y : Su} {ok fd : Bool} (hx : rdR (sec i) i = (x, ok)) (hok : ok = true) (hf : fd = (bestN sec i).isSome) (hy : y = (bestN sec i).getD zSu) (h : fd = false ∨ y.gen < x.gen) : bestN sec (i + 1) = some x := by
  subst hok hf hy
  unfold rdR at hx
  rw [bestN]
  cases hs : supP (sec i) i with
  | none => rw [hs] at hx; cases hx
  | some z =>
    rw [hs] at hx
    obtain rfl : z = x := congrArg Prod.fst hx
    cases hb : bestN sec i with
    | none => rfl
    | some u =>
      rw [hb] at h
      rcases h with h | h
      · cases h
      · exact if_pos h
theorem bestH_keep {sec : Nat → List UInt8} {i : Nat} {x y : Su} {ok fd : Bool} (hx : rdR (sec i) i = (x, ok)) (hf : fd = (bestN sec i).isSome) (hy : y = (bestN sec i).getD zSu) (h : ok = false ∨ (fd = true ∧ ¬ y.gen < x.gen)) : bestN sec (i + 1) = bestN sec i := by
  subst hf hy
  unfold rdR at hx
  rw [bestN]
  cases hs : supP (sec i) i with
  | none => rfl
  | some z =>
    rw [hs] at hx
    obtain rfl : z = x := congrArg Prod.fst hx
    obtain rfl : true = ok := congrArg Prod.snd hx
    cases hb : bestN sec i with
    | none => rw [hb] at h; rcases h with h | ⟨h, -⟩ <;> cases h
    | some u =>
      rw [hb] at h
      rcases h with h | ⟨-, h⟩
      · cases h
      · exact if_neg h
theorem bestH_zero {sec : Nat → List UInt8} {i : Nat} (h : zerosB (sec i) = true) (hl : (sec i).length = 64) : bestN sec (i + 1) = bestN sec i := by
  rw [bestN, supP_zero h hl]
def empN (sec : Nat → List UInt8) : Nat → Nat
  | 0 => 0
  | n + 1 => empN sec n + if zerosB (sec n) = true then 1 else 0
theorem empN_le (sec : Nat → List UInt8) : ∀ n, empN sec n ≤ n
  | 0 => Nat.le_refl _
  | n + 1 => by have := empN_le sec n; unfold empN; split <;> omega
theorem empN_yes {sec : Nat → List UInt8} {n : Nat} (h : zerosB (sec n) = true) : empN sec (n + 1) = empN sec n + 1 := by rw [empN, if_pos h]
theorem empN_no {sec : Nat → List UInt8} {n : Nat} (h : zerosB (sec n) = false) : empN sec (n + 1) = empN sec n := by rw [empN, if_neg (by rw [h]; decide)]; rfl
theorem gsH_ok {sec : Nat → List UInt8} {y : Su} (h : (bestN sec 2).isSome = true) (hy : y = (bestN sec 2).getD zSu) : gsR sec = (y, 0) := by
  unfold gsR
  cases hb : bestN sec 2 with
  | none => rw [hb] at h; cases h
  | some x => rw [hb] at hy; rw [hy]; rfl
theorem gsH_first {sec : Nat → List UInt8} (h : (bestN sec 2).isSome = false) (he : empN sec 2 = 2) : gsR sec = (suFirst, 0) := by
  unfold gsR
  cases hb : bestN sec 2 with
  | some x => rw [hb] at h; cases h
  | none =>
    rw [empN, empN, empN] at he
    cases h0 : zerosB (sec 0) <;> cases h1 : zerosB (sec 1) <;> rw [h0, h1] at he <;> first | rfl | (simp at he; done)
theorem gsH_err {sec : Nat → List UInt8} (h : (bestN sec 2).isSome = false) (he : empN sec 2 ≠ 2) : gsR sec = (zSu, 40) := by
  unfold gsR
  cases hb : bestN sec 2 with
  | some x => rw [hb] at h; cases h
  | none =>
    rw [empN, empN, empN] at he
    cases h0 : zerosB (sec 0) <;> cases h1 : zerosB (sec 1) <;> rw [h0, h1] at he <;> first | rfl | (simp at he; done)
def secD (S0 : DS) (i : Nat) : List UInt8 := S0.get i
theorem getH_any {wc w : World} {A E : List Ent} {b : Nat} {S0 : DS} (hE : DkE b S0 E) (M : Mem wc w (A ++ E)) (hup : S0.down = false) (hw : ∀ k, (S0.cache k).length ≤ 1000000) :
    Calls Tryz.prog 27 #[.pointer (some ⟨b, 0, none⟩)] w fun e w' => e = .returned (.tuple #[.agg (gsR (secD S0)).1.cellsL.toArray, .int .i64 (gsR (secD S0)).2]) ∧ Mem wc w' (A ++ E) := by
  refine calls_enter Tryz.func27 rfl 58 rfl rfl ?_; intro a S
  refine nxD ?_
  refine st_alloc S M rfl rfl #[.int .i64 0, .int .i64 0, .int .i64 0, .int .i64 0, .int .i64 0, .int .i64 0, .int .i64 0, .int .i64 0, .int .i64 0, .int .i64 0, .int .i64 0, .int .i64 0, .int .i64 0] (by kernel_rfl) ?_; clear S M a; intro a w1 bZ S M hB
  refine st_go [1] S rfl (by kernel_rfl) ?_; clear S a; intro a S
  refine nxC ?_
  refine wp_seq ?_
  refine nxD ?_
  refine st_go [1] S rfl (by kernel_rfl) ?_; clear S a; intro a S
  refine st_y S rfl rfl rfl (y_eqlPS (by kernel_rfl) S rfl) ?_; clear S a; intro a S
  refine nxC ?_
  refine st_condF S rfl ?_
  refine wp_skip ?_
  refine nxE ?_
  refine st_go [1] S rfl (by kernel_rfl) ?_; clear S a; intro a S
  refine nxA ?_
  refine st_alloc S M rfl rfl #[.int .i64 0, .int .i64 0, .int .i64 0, .int .i64 0, .int .i64 0, .int .i64 0, .int .i64 0, .int .i64 0, .int .i64 0, .int .i64 0, .int .i64 0, .int .i64 0, .int .i64 0] (by kernel_rfl) ?_; clear S M a; intro a w2 bB S M hB
  refine nxA ?_
  refine st_go [1, 1] S rfl (by kernel_rfl) ?_; clear S a; intro a S
  refine nxC ?_
  refine wp_seq ?_
  refine nxD ?_
  refine st_go [1] S rfl (by kernel_rfl) ?_; clear S a; intro a S
  refine nxC ?_
  refine wp_block ?_
  refine wp_loop_g (fun m a w' => ∃ (i : Nat) (y : Su) (fd : Bool), i ≤ 2 ∧ m = 2 - i ∧ fd = (bestN (secD S0) i).isSome ∧ y = (bestN (secD S0) i).getD zSu ∧ Sees 58 a [(0, .pointer (some ⟨b, 0, none⟩)), (2, .pointer (some ⟨bZ, 0, none⟩)), (4, .func (.func 42) #[] #[]), (5, .pointer (some ⟨bB, 0, none⟩)), (6, .bool fd), (7, .int .i64 (empN (secD S0) i : Nat)), (16, .int .i64 (i : Int))] ∧ Mem wc w' (.blk bB y.cellsL.toArray 49 :: .blk bZ zSu.cellsL.toArray 49 :: (A ++ E))) (2) ?_ ?_
  · skip
    exact ⟨0, zSu, false, by omega, rfl, rfl, rfl, S.sub _ rfl, M⟩
  clear S M a; intro m a wl
  rintro ⟨i, y, fd, hi, rfl, hfd, hy, S, M⟩
  have hem := empN_le (secD S0) i
  refine nxD ?_
  refine st_go [1] S rfl (by kernel_rfl) ?_; clear S a; intro a S
  refine nxC ?_
  refine wp_seq ?_
  refine st_fi (t := 17) S rfl ?_ ?_
  · clear S; intro h17 S
    refine st_condF S rfl ?_
    refine wp_exit ?_
    refine then_exit ?_
    refine then_exit ?_
    refine block_hit ?_
    refine then_normal ?_
    refine wp_seq ?_
    refine nxD ?_
    refine st_go [1] S rfl (by kernel_rfl) ?_; clear S a; intro a S
    refine nxC ?_
    refine st_if (t := 52) S rfl ?_ ?_
    · clear S; intro h52 S
      refine st_condT S rfl ?_
      refine nxD ?_
      refine st_y S rfl rfl rfl (y_loadAgg (cs := [_, _, _, _, _, _, _, _, _, _, _, _, _]) S (by kernel_rfl) rfl rfl (M.cellsAt (k := 13) 0 rfl rfl)) ?_; clear S a; intro a S
      refine st_store (sz := 13) (us := [_, _, _, _, _, _, _, _, _, _, _, _, _]) S M 1 rfl (by kernel_rfl) rfl rfl rfl rfl rfl rfl (by first | decide | (simp; done) | (simp; omega)) ?_; clear M; intro w11 M
      simp only [putL, List.set_cons_zero, List.set_cons_succ, Nat.reduceAdd] at M
      refine st_go [1] S rfl (by kernel_rfl) ?_; clear S a; intro a S
      refine nxC ?_
      refine wp_ret ?_
      refine then_ret ?_
      refine end_two S rfl (res_agg (cs := [_, _, _, _, _, _, _, _, _, _, _, _, _]) (by kernel_rfl) rfl rfl (M.cellsAt (k := 13) 1 rfl rfl)) (res_tmp rfl) ?_
      obtain rfl : i = 2 := by omega
      refine ⟨?_, M.sub (.cons _ (.cons _ (List.Sublist.refl _)))⟩
      first
        | (rw [gsH_ok (sec := secD S0) (by rw [← hfd]; assumption) hy]; first | done | rfl)
        | (rw [gsH_first (sec := secD S0) (by rw [← hfd]; first | assumption | simp_all) (by omega)]; first | done | rfl)
        | (rw [gsH_err (sec := secD S0) (by rw [← hfd]; first | assumption | simp_all) (by omega)]; first | done | rfl)
    clear S; intro h52 S
    refine st_condF S rfl ?_
    refine wp_skip ?_
    refine then_normal ?_
    refine wp_seq ?_
    refine nxD ?_
    refine st_go [1, 1] S rfl (by kernel_rfl) ?_; clear S a; intro a S
    refine nxC ?_
    refine st_if (t := 55) S rfl ?_ ?_
    · clear S; intro h55 S
      refine st_condT S rfl ?_
      refine nxD ?_
      refine st_call (xs := []) S (enters_of Tryz.func46 (by decide) rfl) rfl rfl rfl (firstH_any _) ?_
      rintro _ w12 ⟨rfl, hK⟩; refine ⟨_, rfl, ?_⟩; clear S a; intro a S; replace M := M.grow hK
      refine st_store (sz := 13) (us := [_, _, _, _, _, _, _, _, _, _, _, _, _]) S M 1 rfl (by kernel_rfl) rfl rfl rfl rfl rfl rfl (by first | decide | (simp; done) | (simp; omega)) ?_; clear M; intro w13 M
      simp only [putL, List.set_cons_zero, List.set_cons_succ, Nat.reduceAdd] at M
      refine st_go [1] S rfl (by kernel_rfl) ?_; clear S a; intro a S
      refine nxC ?_
      refine wp_ret ?_
      refine then_ret ?_
      refine end_two S rfl (res_agg (cs := [_, _, _, _, _, _, _, _, _, _, _, _, _]) (by kernel_rfl) rfl rfl (M.cellsAt (k := 13) 1 rfl rfl)) (res_tmp rfl) ?_
      obtain rfl : i = 2 := by omega
      refine ⟨?_, M.sub (.cons _ (.cons _ (List.Sublist.refl _)))⟩
      first
        | (rw [gsH_ok (sec := secD S0) (by rw [← hfd]; assumption) hy]; first | done | rfl)
        | (rw [gsH_first (sec := secD S0) (by rw [← hfd]; first | assumption | simp_all) (by omega)]; first | done | rfl)
        | (rw [gsH_err (sec := secD S0) (by rw [← hfd]; first | assumption | simp_all) (by omega)]; first | done | rfl)
    clear S; intro h55 S
    refine st_condF S rfl ?_
    refine wp_skip ?_
    refine nxE ?_
    refine st_y S rfl rfl rfl (y_build (ps := []) (pl := [(0, 1), (1, 1), (2, 1), (3, 1), (4, 1), (5, 8)]) (z := [.int .i64 0, .int .i64 0, .int .i64 0, .int .i64 0, .int .i64 0, .int .i64 0, .int .i64 0, .int .i64 0, .int .i64 0, .int .i64 0, .int .i64 0, .int .i64 0, .int .i64 0]) (cs := [_, _, _, _, _, _, _, _, _, _, _, _, _]) S (by kernel_rfl) rfl (rfl)) ?_; clear S a; intro a S
    refine st_store (sz := 13) (us := [_, _, _, _, _, _, _, _, _, _, _, _, _]) S M 1 rfl (by kernel_rfl) rfl rfl rfl rfl rfl rfl (by first | decide | (simp; done) | (simp; omega)) ?_; clear M; intro w14 M
    simp only [putL, List.set_cons_zero, List.set_cons_succ, Nat.reduceAdd] at M
    refine st_go [1] S rfl (by kernel_rfl) ?_; clear S a; intro a S
    refine nxC ?_
    refine wp_ret ?_
    refine end_two S rfl (res_agg (cs := [_, _, _, _, _, _, _, _, _, _, _, _, _]) (by kernel_rfl) rfl rfl (M.cellsAt (k := 13) 1 rfl rfl)) (res_tmp rfl) ?_
    obtain rfl : i = 2 := by omega
    refine ⟨?_, M.sub (.cons _ (.cons _ (List.Sublist.refl _)))⟩
    first
      | (rw [gsH_ok (sec := secD S0) (by rw [← hfd]; assumption) hy]; first | done | rfl)
      | (rw [gsH_first (sec := secD S0) (by rw [← hfd]; first | assumption | simp_all) (by omega)]; first | done | rfl)
      | (rw [gsH_err (sec := secD S0) (by rw [← hfd]; first | assumption | simp_all) (by omega)]; first | done | rfl)
  clear S; intro h17 S
  refine st_condT S rfl ?_
  refine wp_skip ?_
  refine then_normal ?_
  refine wp_seq ?_
  refine wp_block ?_
  refine nxD ?_
  refine st_go [1, 1] S rfl (by kernel_rfl) ?_; clear S a; intro a S
  refine nxA ?_
  refine st_go [1, 1] S rfl (by kernel_rfl) ?_; clear S a; intro a S
  refine st_call (xs := [(Operand.tmp 20), (Operand.tmp 21)]) S (enters_of Tryz.func43 (by decide) rfl) rfl rfl rfl (dread_any (A := _ :: _ :: A) (k := i) hE M hup (by omega) (hw _)) ?_
  rintro _ w3 ⟨v1, rfl, hF, hq64⟩; refine ⟨_, rfl, ?_⟩; clear S a; intro a S
  obtain ⟨lo, hi2, -, M1⟩ := M.pushFresh hF
  obtain ⟨q, hqb⟩ : ∃ q, S0.get i = q := ⟨_, rfl⟩
  have hqx : secD S0 i = q := hqb
  rw [hqb] at M1 hq64
  clear M hF
  have M := M1
  clear M1
  refine st_go [1, 1, 1, 1, 1] S rfl (by kernel_rfl) ?_; clear S a; intro a S
  refine nxC ?_
  refine wp_seq ?_
  refine nxD ?_
  refine st_go [1, 1] S rfl (by kernel_rfl) ?_; clear S a; intro a S
  refine nxC ?_
  refine st_if (t := 26) S rfl ?_ ?_
  · clear S; intro h26 S
    exact absurd rfl h26
  clear S; intro h26 S
  refine st_condF S rfl ?_
  refine wp_skip ?_
  refine then_normal ?_
  refine wp_seq ?_
  refine nxD ?_
  refine st_go [1] S rfl (by kernel_rfl) ?_; clear S a; intro a S
  refine st_call (xs := [(Operand.tmp 29)]) S (enters_of Tryz.func44 (by decide) rfl) rfl rfl rfl (zerosH_any v1 q _ (M.readAll 0 rfl (by unfold maxLen; omega))) ?_
  rintro _ w4 ⟨rfl, hK⟩; refine ⟨_, rfl, ?_⟩; clear S a; intro a S; replace M := M.grow hK
  refine nxC ?_
  refine st_if (t := 30) S rfl ?_ ?_
  · clear S; intro h30 S
    refine st_condT S rfl ?_
    refine nxD ?_
    refine st_go [1] S rfl (by kernel_rfl) ?_; clear S a; intro a S
    (first | refine st_y S rfl rfl rfl (y_addN S rfl rfl (by omega)) ?_ | refine st_y S rfl rfl rfl (y_int S rfl rfl rfl) ?_); clear S a; intro a S
    refine st_go [1] S rfl (by kernel_rfl) ?_; clear S a; intro a S
    refine nxC ?_
    refine wp_exit ?_
    refine then_exit ?_
    refine block_hit ?_
    refine nxF ?_
    (first | refine st_y S rfl rfl rfl (y_addN S rfl rfl (by omega)) ?_ | refine st_y S rfl rfl rfl (y_int S rfl rfl rfl) ?_); clear S a; intro a S
    refine st_go [1] S rfl (by kernel_rfl) ?_; clear S a; intro a S
    replace S := S.sub [(0, _), (2, _), (4, _), (5, _), (6, _), (17, _), (8, _), (9, _), (10, _), (26, _), (30, _), (7, _), (16, _)] rfl
    refine nxC ?_
    first
      | (have hz : zerosB (secD S0 i) = true := by rw [hqx]; assumption
         have hk := bestH_zero hz (by rw [hqx]; exact hq64)
         have e7 : ((empN (secD S0) (i + 1) : Nat) : Int) = (empN (secD S0) i : Int) + 1 := by rw [empN_yes hz]; rfl
         exact ⟨2 - (i + 1), by omega, i + 1, y, fd, by omega, rfl, by rw [hk]; exact hfd, by rw [hk]; exact hy, by rw [e7]; exact S.sub _ rfl, M.sub (by first | exact .cons _ (List.Sublist.refl _) | exact (List.Sublist.refl _))⟩)
      | (have hz : zerosB (secD S0 i) = false := by rw [hqx]; first | assumption | simp_all
         have e7 := empN_no hz
         have hk := bestH_take hx (by assumption) hfd hy (by first | (left; assumption) | (left; simp_all; done) | (right; omega))
         exact ⟨2 - (i + 1), by omega, i + 1, x, true, by omega, rfl, by rw [hk]; rfl, by rw [hk]; rfl, by rw [e7]; exact S.sub _ rfl, (M.drop 0).drop 0⟩)
      | (have hz : zerosB (secD S0 i) = false := by rw [hqx]; first | assumption | simp_all
         have e7 := empN_no hz
         have hk := bestH_keep hx hfd hy (by first | (left; simp_all; done) | (right; exact ⟨by simp_all, by omega⟩))
         exact ⟨2 - (i + 1), by omega, i + 1, y, fd, by omega, rfl, by rw [hk]; exact hfd, by rw [hk]; exact hy, by rw [e7]; exact S.sub _ rfl, (M.drop 0).drop 0⟩)
  clear S; intro h30 S
  refine st_condF S rfl ?_
  refine wp_skip ?_
  refine nxE ?_
  refine st_go [1, 1] S rfl (by kernel_rfl) ?_; clear S a; intro a S
  refine st_call (xs := [(Operand.tmp 34), (Operand.tmp 35)]) S (enters_of Tryz.func45 (by decide) rfl) rfl rfl rfl (readH_any v1 q i _ (M.readAll 0 rfl (by unfold maxLen; omega)) hq64) ?_
  rintro _ w5 ⟨rfl, hK⟩; refine ⟨_, rfl, ?_⟩; clear S a; intro a S; replace M := M.grow hK
  obtain ⟨x, ok, hx⟩ : ∃ x ok, rdR q i = (x, ok) := ⟨_, _, rfl⟩
  rw [hx] at S
  rw [← hqx] at hx
  refine st_go [1, 1, 1] S rfl (by kernel_rfl) ?_; clear S a; intro a S
  refine st_alloc S M rfl rfl #[.int .i64 0, .int .i64 0, .int .i64 0, .int .i64 0, .int .i64 0, .int .i64 0, .int .i64 0, .int .i64 0, .int .i64 0, .int .i64 0, .int .i64 0, .int .i64 0, .int .i64 0] (by kernel_rfl) ?_; clear S M a; intro a w6 bX S M hB
  refine st_store (sz := 13) (us := [_, _, _, _, _, _, _, _, _, _, _, _, _]) S M 0 rfl (by kernel_rfl) rfl rfl rfl rfl rfl rfl (by first | decide | (simp; done) | (simp; omega)) ?_; clear M; intro w7 M
  simp only [putL, List.set_cons_zero, List.set_cons_succ, Nat.reduceAdd] at M
  refine st_go [1] S rfl (by kernel_rfl) ?_; clear S a; intro a S
  replace S := S.sub [(0, _), (2, _), (4, _), (5, _), (6, _), (7, _), (16, _), (17, _), (8, _), (9, _), (10, _), (26, _), (30, _), (11, _), (12, _)] rfl
  refine nxA ?_
  refine st_go [1, 1] S rfl (by kernel_rfl) ?_; clear S a; intro a S
  refine st_fi (t := 40) S rfl ?_ ?_
  · clear S; intro h40 S
    refine st_go [0, 0, 0, 0, 0, 0, 0, 0, 1] S rfl (by kernel_rfl) ?_; clear S a; intro a S
    refine nxC ?_
    refine st_condF S rfl ?_
    refine wp_skip ?_
    refine block_normal ?_
    refine nxF ?_
    (first | refine st_y S rfl rfl rfl (y_addN S rfl rfl (by omega)) ?_ | refine st_y S rfl rfl rfl (y_int S rfl rfl rfl) ?_); clear S a; intro a S
    refine st_go [1] S rfl (by kernel_rfl) ?_; clear S a; intro a S
    refine nxC ?_
    first
      | (have hz : zerosB (secD S0 i) = true := by rw [hqx]; assumption
         have hk := bestH_zero hz (by rw [hqx]; exact hq64)
         have e7 : ((empN (secD S0) (i + 1) : Nat) : Int) = (empN (secD S0) i : Int) + 1 := by rw [empN_yes hz]; rfl
         exact ⟨2 - (i + 1), by omega, i + 1, y, fd, by omega, rfl, by rw [hk]; exact hfd, by rw [hk]; exact hy, by rw [e7]; exact S.sub _ rfl, M.sub (by first | exact .cons _ (List.Sublist.refl _) | exact (List.Sublist.refl _))⟩)
      | (have hz : zerosB (secD S0 i) = false := by rw [hqx]; first | assumption | simp_all
         have e7 := empN_no hz
         have hk := bestH_take hx (by assumption) hfd hy (by first | (left; assumption) | (left; simp_all; done) | (right; omega))
         exact ⟨2 - (i + 1), by omega, i + 1, x, true, by omega, rfl, by rw [hk]; rfl, by rw [hk]; rfl, by rw [e7]; exact S.sub _ rfl, (M.drop 0).drop 0⟩)
      | (have hz : zerosB (secD S0 i) = false := by rw [hqx]; first | assumption | simp_all
         have e7 := empN_no hz
         have hk := bestH_keep hx hfd hy (by first | (left; simp_all; done) | (right; exact ⟨by simp_all, by omega⟩))
         exact ⟨2 - (i + 1), by omega, i + 1, y, fd, by omega, rfl, by rw [hk]; exact hfd, by rw [hk]; exact hy, by rw [e7]; exact S.sub _ rfl, (M.drop 0).drop 0⟩)
  clear S; intro h40 S
  refine st_go [1, 1, 1] S rfl (by kernel_rfl) ?_; clear S a; intro a S
  refine st_if (t := 43) S rfl ?_ ?_
  · clear S; intro h43 S
    refine st_go [0, 0, 0, 0, 1, 1] S rfl (by kernel_rfl) ?_; clear S a; intro a S
    refine nxC ?_
    refine st_condT S rfl ?_
    refine wp_region_lit ?_
    refine st_y S rfl rfl rfl (y_loadAgg (cs := [_, _, _, _, _, _, _, _, _, _, _, _, _]) S (by kernel_rfl) rfl rfl (M.cellsAt (k := 13) 0 rfl rfl)) ?_; clear S a; intro a S
    refine st_store (sz := 13) (us := [_, _, _, _, _, _, _, _, _, _, _, _, _]) S M 2 rfl (by kernel_rfl) rfl rfl rfl rfl rfl rfl (by first | decide | (simp; done) | (simp; omega)) ?_; clear M; intro w8 M
    simp only [putL, List.set_cons_zero, List.set_cons_succ, Nat.reduceAdd] at M
    refine st_go [1] S rfl (by kernel_rfl) ?_; clear S a; intro a S
    refine wpList_nil ?_
    refine block_normal ?_
    refine nxF ?_
    (first | refine st_y S rfl rfl rfl (y_addN S rfl rfl (by omega)) ?_ | refine st_y S rfl rfl rfl (y_int S rfl rfl rfl) ?_); clear S a; intro a S
    refine st_go [1] S rfl (by kernel_rfl) ?_; clear S a; intro a S
    replace S := S.sub [(0, _), (2, _), (4, _), (5, _), (7, _), (17, _), (8, _), (9, _), (10, _), (26, _), (30, _), (11, _), (12, _), (49, _), (6, _), (16, _)] rfl
    refine nxC ?_
    first
      | (have hz : zerosB (secD S0 i) = true := by rw [hqx]; assumption
         have hk := bestH_zero hz (by rw [hqx]; exact hq64)
         have e7 : ((empN (secD S0) (i + 1) : Nat) : Int) = (empN (secD S0) i : Int) + 1 := by rw [empN_yes hz]; rfl
         exact ⟨2 - (i + 1), by omega, i + 1, y, fd, by omega, rfl, by rw [hk]; exact hfd, by rw [hk]; exact hy, by rw [e7]; exact S.sub _ rfl, M.sub (by first | exact .cons _ (List.Sublist.refl _) | exact (List.Sublist.refl _))⟩)
      | (have hz : zerosB (secD S0 i) = false := by rw [hqx]; first | assumption | simp_all
         have e7 := empN_no hz
         have hk := bestH_take hx (by assumption) hfd hy (by first | (left; assumption) | (left; simp_all; done) | (right; omega))
         exact ⟨2 - (i + 1), by omega, i + 1, x, true, by omega, rfl, by rw [hk]; rfl, by rw [hk]; rfl, by rw [e7]; exact S.sub _ rfl, (M.drop 0).drop 0⟩)
      | (have hz : zerosB (secD S0 i) = false := by rw [hqx]; first | assumption | simp_all
         have e7 := empN_no hz
         have hk := bestH_keep hx hfd hy (by first | (left; simp_all; done) | (right; exact ⟨by simp_all, by omega⟩))
         exact ⟨2 - (i + 1), by omega, i + 1, y, fd, by omega, rfl, by rw [hk]; exact hfd, by rw [hk]; exact hy, by rw [e7]; exact S.sub _ rfl, (M.drop 0).drop 0⟩)
  clear S; intro h43 S
  refine st_go [1] S rfl (by kernel_rfl) ?_; clear S a; intro a S
  refine st_y S rfl rfl rfl (y_loadAgg (cs := [_, _, _, _, _, _, _, _, _, _, _, _, _]) S (by kernel_rfl) rfl rfl (M.cellsAt (k := 13) 0 rfl rfl)) ?_; clear S a; intro a S
  refine st_y S rfl rfl rfl (y_loadAgg (cs := [_, _, _, _, _, _, _, _, _, _, _, _, _]) S (by kernel_rfl) rfl rfl (M.cellsAt (k := 13) 2 rfl rfl)) ?_; clear S a; intro a S
  refine st_callV (xs := [(Operand.tmp 45), (Operand.tmp 46)]) S (enters_of Tryz.func42 (by decide) rfl) rfl rfl rfl rfl (greater_any x y _) ?_
  rintro _ w9 ⟨rfl, hK⟩; refine ⟨_, rfl, ?_⟩; clear S a; intro a S; replace M := M.grow hK
  refine st_go [1, 1] S rfl (by kernel_rfl) ?_; clear S a; intro a S
  refine nxC ?_
  refine st_fi (t := 49) S rfl ?_ ?_
  · clear S; intro h49 S
    refine st_condF S rfl ?_
    refine wp_skip ?_
    refine block_normal ?_
    refine nxF ?_
    (first | refine st_y S rfl rfl rfl (y_addN S rfl rfl (by omega)) ?_ | refine st_y S rfl rfl rfl (y_int S rfl rfl rfl) ?_); clear S a; intro a S
    refine st_go [1] S rfl (by kernel_rfl) ?_; clear S a; intro a S
    refine nxC ?_
    first
      | (have hz : zerosB (secD S0 i) = true := by rw [hqx]; assumption
         have hk := bestH_zero hz (by rw [hqx]; exact hq64)
         have e7 : ((empN (secD S0) (i + 1) : Nat) : Int) = (empN (secD S0) i : Int) + 1 := by rw [empN_yes hz]; rfl
         exact ⟨2 - (i + 1), by omega, i + 1, y, fd, by omega, rfl, by rw [hk]; exact hfd, by rw [hk]; exact hy, by rw [e7]; exact S.sub _ rfl, M.sub (by first | exact .cons _ (List.Sublist.refl _) | exact (List.Sublist.refl _))⟩)
      | (have hz : zerosB (secD S0 i) = false := by rw [hqx]; first | assumption | simp_all
         have e7 := empN_no hz
         have hk := bestH_take hx (by assumption) hfd hy (by first | (left; assumption) | (left; simp_all; done) | (right; omega))
         exact ⟨2 - (i + 1), by omega, i + 1, x, true, by omega, rfl, by rw [hk]; rfl, by rw [hk]; rfl, by rw [e7]; exact S.sub _ rfl, (M.drop 0).drop 0⟩)
      | (have hz : zerosB (secD S0 i) = false := by rw [hqx]; first | assumption | simp_all
         have e7 := empN_no hz
         have hk := bestH_keep hx hfd hy (by first | (left; simp_all; done) | (right; exact ⟨by simp_all, by omega⟩))
         exact ⟨2 - (i + 1), by omega, i + 1, y, fd, by omega, rfl, by rw [hk]; exact hfd, by rw [hk]; exact hy, by rw [e7]; exact S.sub _ rfl, (M.drop 0).drop 0⟩)
  clear S; intro h49 S
  refine st_condT S rfl ?_
  refine wp_region_lit ?_
  refine st_y S rfl rfl rfl (y_loadAgg (cs := [_, _, _, _, _, _, _, _, _, _, _, _, _]) S (by kernel_rfl) rfl rfl (M.cellsAt (k := 13) 0 rfl rfl)) ?_; clear S a; intro a S
  refine st_store (sz := 13) (us := [_, _, _, _, _, _, _, _, _, _, _, _, _]) S M 2 rfl (by kernel_rfl) rfl rfl rfl rfl rfl rfl (by first | decide | (simp; done) | (simp; omega)) ?_; clear M; intro w10 M
  simp only [putL, List.set_cons_zero, List.set_cons_succ, Nat.reduceAdd] at M
  refine st_go [1] S rfl (by kernel_rfl) ?_; clear S a; intro a S
  refine wpList_nil ?_
  refine block_normal ?_
  refine nxF ?_
  (first | refine st_y S rfl rfl rfl (y_addN S rfl rfl (by omega)) ?_ | refine st_y S rfl rfl rfl (y_int S rfl rfl rfl) ?_); clear S a; intro a S
  refine st_go [1] S rfl (by kernel_rfl) ?_; clear S a; intro a S
  replace S := S.sub [(0, _), (2, _), (4, _), (5, _), (7, _), (17, _), (8, _), (9, _), (10, _), (26, _), (30, _), (11, _), (12, _), (49, _), (6, _), (16, _)] rfl
  refine nxC ?_
  first
    | (have hz : zerosB (secD S0 i) = true := by rw [hqx]; assumption
       have hk := bestH_zero hz (by rw [hqx]; exact hq64)
       have e7 : ((empN (secD S0) (i + 1) : Nat) : Int) = (empN (secD S0) i : Int) + 1 := by rw [empN_yes hz]; rfl
       exact ⟨2 - (i + 1), by omega, i + 1, y, fd, by omega, rfl, by rw [hk]; exact hfd, by rw [hk]; exact hy, by rw [e7]; exact S.sub _ rfl, M.sub (by first | exact .cons _ (List.Sublist.refl _) | exact (List.Sublist.refl _))⟩)
    | (have hz : zerosB (secD S0 i) = false := by rw [hqx]; first | assumption | simp_all
       have e7 := empN_no hz
       have hk := bestH_take hx (by assumption) hfd hy (by first | (left; assumption) | (left; simp_all; done) | (right; omega))
       exact ⟨2 - (i + 1), by omega, i + 1, x, true, by omega, rfl, by rw [hk]; rfl, by rw [hk]; rfl, by rw [e7]; exact S.sub _ rfl, (M.drop 0).drop 0⟩)
    | (have hz : zerosB (secD S0 i) = false := by rw [hqx]; first | assumption | simp_all
       have e7 := empN_no hz
       have hk := bestH_keep hx hfd hy (by first | (left; simp_all; done) | (right; exact ⟨by simp_all, by omega⟩))
       exact ⟨2 - (i + 1), by omega, i + 1, y, fd, by omega, rfl, by rw [hk]; exact hfd, by rw [hk]; exact hy, by rw [e7]; exact S.sub _ rfl, (M.drop 0).drop 0⟩)
end Go.Proofs.YtndabhdepjnbcaaGreat

namespace Go.Proofs.YtndabhdepjnbcaaGreat
open Go.RowKit Go.Sort
theorem haveJ (a b n : Int) (w : World) : Calls Tryz.prog 130 #[.agg #[.int .i64 a, .int .i64 b], .int .i64 n] w fun e w' => e = .returned (.bool (decide (a ≤ n ∧ n ≤ b))) ∧ Below w.heap.size w w' := by
  have M := Mem.start w
  refine calls_enter Tryz.func130 rfl 15 rfl rfl ?_; intro a S
  refine nxD ?_
  refine st_box S M rfl rfl rfl #[_, _] rfl ?_; clear S M a; intro a w1 b1 S M hB
  refine st_go [1] S rfl (by kernel_rfl) ?_; clear S a; intro a S
  refine nxA ?_
  refine st_run [1, 1, 1, 1, 1] S M rfl (by kernel_rfl) ?_; clear S a; intro a S
  refine st_fi (t := 9) S rfl ?_ ?_
  · clear S; intro h9 S
    refine st_go [0, 0, 0, 0, 1, 1] S rfl (by kernel_rfl) ?_; clear S a; intro a S
    refine nxC ?_
    refine wp_ret ?_
    refine end_one S rfl (res_tmp rfl) ?_
    refine ⟨ret_bool ?_, M.below⟩; clear S M; rw [Bool.eq_iff_iff]; simp only [decide_eq_true_eq]; first | omega | (simp; omega)
  clear S; intro h9 S
  refine st_run [1, 2, 1, 1, 1, 1] S M rfl (by kernel_rfl) ?_; clear S a; intro a S
  refine nxC ?_
  refine wp_ret ?_
  refine end_one S rfl (res_tmp rfl) ?_
  refine ⟨ret_bool ?_, M.below⟩; clear S M; rw [Bool.eq_iff_iff]; simp only [decide_eq_true_eq]; first | omega | (simp; omega)
theorem sequencesJ (w : World) : Calls Tryz.prog 129 #[] w fun e w' => e = .returned (.agg #[.int .i64 1, .int .i64 1099511627776]) ∧ Below w.heap.size w w' := by
  have M := Mem.start w
  refine calls_enter Tryz.func129 rfl 2 rfl rfl ?_; intro a S
  refine nxD ?_
  refine st_alloc S M rfl rfl #[.int .i64 0, .int .i64 0] (by kernel_rfl) ?_; clear S M a; intro a w1 b1 S M hB
  refine nxA ?_
  refine st_y S rfl rfl rfl (y_build (ps := [(0, (Operand.const (Value.int IntKind.i64 1))), (1, (Operand.const (Value.int IntKind.i64 1099511627776)))]) (pl := [(0, 1), (1, 1)]) (z := [.int .i64 0, .int .i64 0]) (cs := [_, _]) S (by kernel_rfl) rfl (rfl)) ?_; clear S a; intro a S
  refine st_store (sz := 2) (us := [_, _]) S M 0 rfl (by kernel_rfl) rfl rfl rfl rfl rfl rfl (by first | decide | (simp; done) | (simp; omega)) ?_; clear M; intro w2 M
  simp only [putL, List.set_cons_zero, List.set_cons_succ, Nat.reduceAdd] at M
  refine nxC ?_
  refine wp_ret ?_
  refine end_one S rfl (res_agg (cs := [_, _]) (by kernel_rfl) rfl rfl (M.cellsAt (k := 2) 0 rfl rfl)) ?_
  exact ⟨rfl, M.below⟩
theorem placeJ (n : Int) (w : World) (h : 1 ≤ n ∧ n ≤ 1099511627776) : Calls Tryz.prog 151 #[.int .i64 n] w fun e w' => e = .returned (.int .i64 (2 + n % 24)) ∧ Below w.heap.size w w' := by
  have M := Mem.start w
  refine calls_enter Tryz.func151 rfl 6 rfl rfl ?_; intro a S
  refine nxD ?_
  refine st_go [1] S rfl (by kernel_rfl) ?_; clear S a; intro a S
  refine nxA ?_
  refine st_go [1] S rfl (by kernel_rfl) ?_; clear S a; intro a S
  (first | refine st_y S rfl rfl rfl (y_remN S rfl rfl (by omega)) ?_ | refine st_y S rfl rfl rfl (y_remZ S rfl rfl (by omega)) ?_); clear S a; intro a S
  (first | refine st_y S rfl rfl rfl (y_addN S rfl rfl (by omega)) ?_ | refine st_y S rfl rfl rfl (y_int S rfl rfl rfl) ?_); clear S a; intro a S
  refine st_go [1] S rfl (by kernel_rfl) ?_; clear S a; intro a S
  refine nxC ?_
  refine wp_ret ?_
  refine end_one S rfl (res_tmp rfl) ?_
  exact ⟨rfl, M.below⟩
def plE (n : Int) : Int := if 1 ≤ n ∧ n ≤ 1099511627776 then 0 else 2
def plV (n : Int) : Int := if 1 ≤ n ∧ n ≤ 1099511627776 then 2 + n % 24 else 0
theorem PlaceJ (n : Int) (w : World) : Calls Tryz.prog 108 #[.int .i64 n] w fun e w' => e = .returned (.tuple #[.int .i64 (plV n), .int .i64 (plE n)]) ∧ Below w.heap.size w w' := by
  have M := Mem.start w
  refine calls_enter Tryz.func108 rfl 10 rfl rfl ?_; intro a S
  refine nxD ?_
  refine st_go [1, 1] S rfl (by kernel_rfl) ?_; clear S a; intro a S
  refine nxC ?_
  refine wp_seq ?_
  refine nxD ?_
  refine st_call (xs := []) S (enters_of Tryz.func129 (by decide) rfl) rfl rfl rfl (sequencesJ _) ?_
  rintro _ w1 ⟨rfl, hK⟩; refine ⟨_, rfl, ?_⟩; clear S a; intro a S; replace M := M.grow hK
  refine st_go [1] S rfl (by kernel_rfl) ?_; clear S a; intro a S
  refine st_call (xs := [(Operand.tmp 4), (Operand.tmp 5)]) S (enters_of Tryz.func130 (by decide) rfl) rfl rfl rfl (haveJ _ _ _ _) ?_
  rintro _ w2 ⟨rfl, hK⟩; refine ⟨_, rfl, ?_⟩; clear S a; intro a S; replace M := M.grow hK
  refine st_go [1] S rfl (by kernel_rfl) ?_; clear S a; intro a S
  refine nxC ?_
  refine st_if (t := 7) S rfl ?_ ?_
  · clear S; intro h7 S
    refine st_condT S rfl ?_
    refine nxD ?_
    refine st_go [1, 1] S rfl (by kernel_rfl) ?_; clear S a; intro a S
    refine nxC ?_
    refine wp_ret ?_
    refine then_ret ?_
    refine end_two S rfl (res_tmp rfl) (res_tmp rfl) ?_
    unfold plV plE; rw [if_neg (by omega), if_neg (by omega)]; exact ⟨rfl, M.below⟩
  clear S; intro h7 S
  refine st_condF S rfl ?_
  refine wp_skip ?_
  refine nxE ?_
  refine st_go [1] S rfl (by kernel_rfl) ?_; clear S a; intro a S
  refine st_call (xs := [(Operand.tmp 8)]) S (enters_of Tryz.func151 (by decide) rfl) rfl rfl rfl (placeJ _ _ (by omega)) ?_
  rintro _ w3 ⟨rfl, hK⟩; refine ⟨_, rfl, ?_⟩; clear S a; intro a S; replace M := M.grow hK
  refine st_go [1, 1] S rfl (by kernel_rfl) ?_; clear S a; intro a S
  refine nxC ?_
  refine wp_ret ?_
  refine end_two S rfl (res_tmp rfl) (res_tmp rfl) ?_
  unfold plV plE; rw [if_pos (by omega), if_pos (by omega)]; exact ⟨rfl, M.below⟩
abbrev mayL (t n : Int) : Prop := (1 ≤ t ∧ t ≤ 1099511627776) ∧ t ≤ n ∧ n ≤ t + 24
theorem MayJ (t n : Int) (w : World) : Calls Tryz.prog 98 #[.agg #[.int .i64 t, .int .i64 n]] w fun e w' => e = .returned (.bool (decide (mayL t n))) ∧ Below w.heap.size w w' := by
  have M := Mem.start w
  refine calls_enter Tryz.func98 rfl 18 rfl rfl ?_; intro a S
  refine nxD ?_
  refine st_box S M rfl rfl rfl #[_, _] rfl ?_; clear S M a; intro a w1 b1 S M hB
  refine st_go [1] S rfl (by kernel_rfl) ?_; clear S a; intro a S
  refine nxC ?_
  refine wp_seq ?_
  refine wp_quiet M (by kernel_rfl) (by kernel_rfl) ?_
  refine qt_call (xs := []) S (enters_of Tryz.func129 (by decide) rfl) rfl rfl rfl (quiet_of fun w M => sequencesJ w) ?_; clear S a; intro a S
  refine qt_y S rfl rfl rfl (fun w M => y_fieldAddr (k := 0) S (by kernel_rfl) rfl) ?_; clear S a; intro a S
  refine qt_y S rfl rfl rfl (fun w M => y_load S (by kernel_rfl) rfl (M.cell 0 rfl rfl)) ?_; clear S a; intro a S
  refine qt_call (xs := [(Operand.tmp 3), (Operand.tmp 5)]) S (enters_of Tryz.func130 (by decide) rfl) rfl rfl rfl (quiet_of fun w M => haveJ _ _ _ w) ?_; clear S a; intro a S
  refine qt_y S rfl rfl rfl (fun w M => y_move S rfl) ?_; clear S a; intro a S
  refine st_fi (t := 7) S rfl ?_ ?_
  · clear S; intro h7 S
    refine qt_skip 9 S rfl ?_; clear S a; intro a S
    refine qt_y S rfl rfl rfl (fun w M => y_pickF S rfl rfl) ?_; clear S a; intro a S
    refine qt_y S rfl rfl rfl (fun w M => y_assign S rfl) ?_; clear S a; intro a S
    refine wpQuiet_nil ?_; clear M; intro w6 M
    refine then_normal ?_
    refine wp_ret ?_
    refine end_one S rfl (res_tmp rfl) ?_
    refine ⟨ret_bool ?_, M.below⟩; clear S M; rw [Bool.eq_iff_iff, decide_eq_true_iff]; first | omega | (simp; omega)
  clear S; intro h7 S
  refine qt_y S rfl rfl rfl (fun w M => y_fieldAddr (k := 0) S (by kernel_rfl) rfl) ?_; clear S a; intro a S
  refine qt_y S rfl rfl rfl (fun w M => y_load S (by kernel_rfl) rfl (M.cell 0 rfl rfl)) ?_; clear S a; intro a S
  refine qt_y S rfl rfl rfl (fun w M => y_fieldAddr (k := 0) S (by kernel_rfl) rfl) ?_; clear S a; intro a S
  refine qt_y S rfl rfl rfl (fun w M => y_load S (by kernel_rfl) rfl (M.cell 0 rfl rfl)) ?_; clear S a; intro a S
  (first | refine qt_y S rfl rfl rfl (fun w M => y_addN S rfl rfl (by omega)) ?_ | refine qt_y S rfl rfl rfl (fun w M => y_int S rfl rfl rfl) ?_); clear S a; intro a S
  refine qt_y S rfl rfl rfl (fun w M => y_build (ps := [(0, (Operand.tmp 9)), (1, (Operand.tmp 12))]) (pl := [(0, 1), (1, 1)]) (z := [.int .i64 0, .int .i64 0]) (cs := [_, _]) S (by kernel_rfl) rfl (rfl)) ?_; clear S a; intro a S
  refine qt_y S rfl rfl rfl (fun w M => y_fieldAddr (k := 1) S (by kernel_rfl) rfl) ?_; clear S a; intro a S
  refine qt_y S rfl rfl rfl (fun w M => y_load S (by kernel_rfl) rfl (M.cell 0 rfl rfl)) ?_; clear S a; intro a S
  refine qt_call (xs := [(Operand.tmp 13), (Operand.tmp 15)]) S (enters_of Tryz.func130 (by decide) rfl) rfl rfl rfl (quiet_of fun w M => haveJ _ _ _ w) ?_; clear S a; intro a S
  refine qt_y S rfl rfl rfl (fun w M => y_pickT S rfl rfl) ?_; clear S a; intro a S
  refine qt_y S rfl rfl rfl (fun w M => y_assign S rfl) ?_; clear S a; intro a S
  refine wpQuiet_nil ?_; clear M; intro w5 M
  replace S := S.sub [(0, _), (1, _), (2, _)] rfl
  refine then_normal ?_
  refine wp_ret ?_
  refine end_one S rfl (res_tmp rfl) ?_
  refine ⟨ret_bool ?_, M.below⟩; clear S M; rw [Bool.eq_iff_iff, decide_eq_true_iff]; first | omega | (simp; omega)
theorem UsedJ (t n : Int) (w : World) (h : mayL t n) : Calls Tryz.prog 99 #[.agg #[.int .i64 t, .int .i64 n]] w fun e w' => e = .returned (.int .i64 (n - t)) ∧ Below w.heap.size w w' := by
  have M := Mem.start w
  have h' := h
  unfold mayL at h'
  refine calls_enter Tryz.func99 rfl 11 rfl rfl ?_; intro a S
  refine nxD ?_
  refine st_box S M rfl rfl rfl #[_, _] rfl ?_; clear S M a; intro a w1 b1 S M hB
  refine st_go [1] S rfl (by kernel_rfl) ?_; clear S a; intro a S
  refine nxC ?_
  refine wp_seq ?_
  refine nxD ?_
  refine st_y S rfl rfl rfl (y_loadAgg (cs := [_, _]) S (by kernel_rfl) rfl rfl (M.cellsAt (k := 2) 0 rfl rfl)) ?_; clear S a; intro a S
  refine st_call (xs := [(Operand.tmp 3)]) S (enters_of Tryz.func98 (by decide) rfl) rfl rfl rfl (MayJ _ _ _) ?_
  rintro _ w2 ⟨rfl, hK⟩; refine ⟨_, rfl, ?_⟩; clear S a; intro a S; replace M := M.grow hK
  refine st_go [1] S rfl (by kernel_rfl) ?_; clear S a; intro a S
  refine nxC ?_
  refine st_if (t := 5) S rfl ?_ ?_
  · clear S; intro h5 S
    exfalso; omega
  clear S; intro h5 S
  refine st_condF S rfl ?_
  refine wp_skip ?_
  refine nxE ?_
  refine st_run [2, 1, 1, 1] S M rfl (by kernel_rfl) ?_; clear S a; intro a S
  (first | refine st_y S rfl rfl rfl (y_subN S rfl rfl (by omega)) ?_ | refine st_y S rfl rfl rfl (y_int S rfl rfl rfl) ?_); clear S a; intro a S
  refine st_go [1] S rfl (by kernel_rfl) ?_; clear S a; intro a S
  refine nxC ?_
  refine wp_ret ?_
  refine end_one S rfl (res_tmp rfl) ?_
  exact ⟨rfl, M.below⟩
theorem FreeJ (t n : Int) (w : World) (h : mayL t n) : Calls Tryz.prog 53 #[.agg #[.int .i64 t, .int .i64 n]] w fun e w' => e = .returned (.int .i64 (24 - (n - t))) ∧ Below w.heap.size w w' := by
  have M := Mem.start w
  have h' := h
  unfold mayL at h'
  refine calls_enter Tryz.func53 rfl 9 rfl rfl ?_; intro a S
  refine nxD ?_
  refine st_box S M rfl rfl rfl #[_, _] rfl ?_; clear S M a; intro a w1 b1 S M hB
  refine st_go [1] S rfl (by kernel_rfl) ?_; clear S a; intro a S
  refine nxC ?_
  refine wp_seq ?_
  refine nxD ?_
  refine st_y S rfl rfl rfl (y_loadAgg (cs := [_, _]) S (by kernel_rfl) rfl rfl (M.cellsAt (k := 2) 0 rfl rfl)) ?_; clear S a; intro a S
  refine st_call (xs := [(Operand.tmp 3)]) S (enters_of Tryz.func98 (by decide) rfl) rfl rfl rfl (MayJ _ _ _) ?_
  rintro _ w2 ⟨rfl, hK⟩; refine ⟨_, rfl, ?_⟩; clear S a; intro a S; replace M := M.grow hK
  refine st_go [1] S rfl (by kernel_rfl) ?_; clear S a; intro a S
  refine nxC ?_
  refine st_if (t := 5) S rfl ?_ ?_
  · clear S; intro h5 S
    exfalso; omega
  clear S; intro h5 S
  refine st_condF S rfl ?_
  refine wp_skip ?_
  refine nxE ?_
  refine st_y S rfl rfl rfl (y_loadAgg (cs := [_, _]) S (by kernel_rfl) rfl rfl (M.cellsAt (k := 2) 0 rfl rfl)) ?_; clear S a; intro a S
  refine st_call (xs := [(Operand.tmp 6)]) S (enters_of Tryz.func99 (by decide) rfl) rfl rfl rfl (UsedJ _ _ _ h) ?_
  rintro _ w3 ⟨rfl, hK⟩; refine ⟨_, rfl, ?_⟩; clear S a; intro a S; replace M := M.grow hK
  (first | refine st_y S rfl rfl rfl (y_subN S rfl rfl (by omega)) ?_ | refine st_y S rfl rfl rfl (y_int S rfl rfl rfl) ?_); clear S a; intro a S
  refine st_go [1] S rfl (by kernel_rfl) ?_; clear S a; intro a S
  refine nxC ?_
  refine wp_ret ?_
  refine end_one S rfl (res_tmp rfl) ?_
  exact ⟨rfl, M.below⟩
/-! following -/
def seqsJ (f : Int) (k : Nat) : List Int := (List.range k).map fun i : Nat => f + (i : Int)
theorem seqsJ_succ (f : Int) (k : Nat) : seqsJ f (k + 1) = seqsJ f k ++ [f + (k : Int)] := by simp [seqsJ, List.range_succ]
theorem seqsJ_at (f : Int) {k n : Nat} (h : k < n) : ∃ t, seqsJ f n = seqsJ f k ++ (f + (k : Int)) :: t := by
  refine ⟨(seqsJ f n).drop (k + 1), ?_⟩
  have hl : (seqsJ f n).length = n := by simp [seqsJ]
  have ht : (seqsJ f n).take k = seqsJ f k := by
    unfold seqsJ
    rw [← List.map_take, List.take_range, Nat.min_eq_left (by omega)]
  conv => lhs; rw [← List.take_append_drop k (seqsJ f n), List.drop_eq_getElem_cons (by omega), ht]
  congr 2
  simp [seqsJ]
abbrev encJ (x : Int) : List Value := [.int .i64 x]
structure FolC (bn bf : Nat) (f n : Int) (W : World) : Prop where
  n : Blk W bn #[.int .i64 n] 3
  f : Blk W bf #[.int .i64 f] 3
set_option maxHeartbeats 1000000 in
theorem following1_gen (bn bf : Nat) (f : Int) (n : Nat) (hf : -1099511627776 ≤ f ∧ f ≤ 2199023255552) (hn : n ≤ 1000) : Gen Tryz.prog 158 [.pointer (some ⟨bn, 0, none⟩), .pointer (some ⟨bf, 0, none⟩)] encJ (seqsJ f n) (FolC bn bf f n) := by
  intro ll I w hC hg hY h0
  have M := Mem.start w
  refine calls_enterG Tryz.func158 rfl 16 rfl rfl ?_; intro a S
  refine wpIn_seq ?_
  refine wpI_region (by kernel_rfl) (by rintro _ _ ⟨⟨_, h⟩, -⟩; cases h) ?_
  refine st_y S rfl rfl rfl (y_load S (by kernel_rfl) rfl ((hC _ _ h0).n.cells 0)) ?_; clear S a; intro a S
  refine st_go [1] S rfl (by kernel_rfl) ?_; clear S a; intro a S
  refine nxC ?_
  refine wpIn_block ?_
  refine wpI_loop_g (fun m a w' => ∃ (k : Nat), k ≤ n ∧ m = n - k ∧ Sees 16 a [(0, .func (.yield ll) #[] #[]), (1, .pointer (some ⟨bn, 0, none⟩)), (2, .pointer (some ⟨bf, 0, none⟩)), (5, .int .i64 (n : Int)), (6, .int .i64 (k : Int))] ∧ I (seqsJ f k) w') (n) ?_ ?_
  · skip
    exact ⟨0, Nat.zero_le _, rfl, S.sub _ rfl, h0⟩
  clear S M a; intro m a wl
  rintro ⟨k, hk, rfl, S, hI⟩
  have M := Mem.start wl
  refine wpIn_seq ?_
  refine wpI_region (by kernel_rfl) (by rintro _ _ ⟨⟨_, h⟩, -⟩; cases h) ?_
  refine st_go [1] S rfl (by kernel_rfl) ?_; clear S a; intro a S
  refine nxC ?_
  refine wpIn_seq ?_
  refine st_fi (t := 7) S rfl ?_ ?_
  · clear S; intro h7 S
    refine stI_condF S rfl ?_
    refine wpIn_exit ?_
    refine then_exit ?_
    refine then_exit ?_
    refine block_hit ?_
    refine end_noneN S rfl ?_
    obtain rfl : k = n := by omega
    exact ⟨⟨_, rfl⟩, hI⟩
  clear S; intro h7 S
  refine stI_condT S rfl ?_
  refine wpIn_skip ?_
  refine then_normal ?_
  refine wpIn_seq ?_
  refine wpIn_block ?_
  refine wpIn_seq ?_
  refine wpI_region (by kernel_rfl) (by rintro _ _ ⟨⟨_, h⟩, -⟩; cases h) ?_
  refine st_go [1, 1] S rfl (by kernel_rfl) ?_; clear S a; intro a S
  refine nxC ?_
  refine wpIn_seq ?_
  refine wpI_preK 4 (by kernel_rfl) (by rintro _ _ ⟨⟨_, h⟩, -⟩; cases h) ?_; simp only [List.take_succ_cons, List.take_zero, List.drop_succ_cons, List.drop_zero]
  refine st_go [1] S rfl (by kernel_rfl) ?_; clear S a; intro a S
  refine st_y S rfl rfl rfl (y_load S (by kernel_rfl) rfl ((hC _ _ hI).f.cells 0)) ?_; clear S a; intro a S
  refine st_go [1] S rfl (by kernel_rfl) ?_; clear S a; intro a S
  (first | refine st_y S rfl rfl rfl (y_addN S rfl rfl (by omega)) ?_ | refine st_y S rfl rfl rfl (y_int S rfl rfl rfl) ?_); clear S a; intro a S
  refine wpList_nil ?_; refine then_normal ?_
  refine stI_yield (xs := [(Operand.tmp 12)]) S rfl (by kernel_rfl) rfl rfl (hY (seqsJ f k) (f + (k : Int)) _ _ (seqsJ_at f (n := n) (by omega)).choose_spec (hg _ _ _ hI M.below)) ?_
  rintro _ w1 ⟨rfl, hI2⟩; refine ⟨_, rfl, ?_⟩; clear S M a; intro a S; have M := Mem.start w1
  refine list_in (by kernel_rfl) (by rintro _ _ ⟨⟨_, h⟩, -⟩; cases h) ?_
  refine st_go [1] S rfl (by kernel_rfl) ?_; clear S a; intro a S
  refine nxC ?_
  refine st_if (t := 14) S rfl ?_ ?_
  · clear S; intro h14 S
    cases h14
  clear S; intro h14 S
  refine stI_condF S rfl ?_
  refine wpIn_skip ?_
  refine block_normal ?_
  refine then_normal ?_
  refine wpI_region (by kernel_rfl) (by rintro _ _ ⟨⟨_, h⟩, -⟩; cases h) ?_
  (first | refine st_y S rfl rfl rfl (y_addN S rfl rfl (by omega)) ?_ | refine st_y S rfl rfl rfl (y_int S rfl rfl rfl) ?_); clear S a; intro a S
  refine st_go [1] S rfl (by kernel_rfl) ?_; clear S a; intro a S
  refine nxC ?_
  exact ⟨n - (k + 1), by omega, k + 1, by omega, rfl, S.sub _ rfl, by rw [seqsJ_succ]; exact hg _ _ _ hI2 M.below⟩
theorem followingJ (f n : Int) (w : World) : Calls Tryz.prog 143 #[.int .i64 f, .int .i64 n] w fun e w' => ∃ bn bf, e = .returned (.func (.func 158) #[] #[.pointer (some ⟨bn, 0, none⟩), .pointer (some ⟨bf, 0, none⟩)]) ∧ Mem w w' [.blk bn #[.int .i64 n] 3, .blk bf #[.int .i64 f] 3] := by
  have M := Mem.start w
  refine calls_enter Tryz.func143 rfl 6 rfl rfl ?_; intro a S
  refine nxD ?_
  refine st_box S M rfl rfl rfl #[_] rfl ?_; clear S M a; intro a w1 bF S M hB
  refine st_box S M rfl rfl rfl #[_] rfl ?_; clear S M a; intro a w2 bN S M hB
  refine st_go [1] S rfl (by kernel_rfl) ?_; clear S a; intro a S
  refine nxA ?_
  refine st_y S rfl rfl rfl (y_makeFunc (fs := []) (cs := [(Operand.tmp 3), (Operand.tmp 2)]) S rfl rfl) ?_; clear S a; intro a S
  refine st_go [1] S rfl (by kernel_rfl) ?_; clear S a; intro a S
  refine nxC ?_
  refine wp_ret ?_
  refine end_one S rfl (res_tmp rfl) ?_
  exact ⟨bN, bF, rfl, M⟩
def fitsL (t n k : Int) : Prop := k ≤ 24 - (n - t) ∧ n + k ≤ 1099511627776
def TakeP (t n k : Int) (w : World) (e : Ending) (w' : World) : Prop := ∃ (er x y : Int) (v : Value), e = .returned (.tuple #[.agg #[.int .i64 x, .int .i64 y], v, .int .i64 er]) ∧ Below w.heap.size w w' ∧ ((er = 0 ∧ fitsL t n k ∧ t = x ∧ n + k = y) ∨ (er = 50 ∧ ¬ fitsL t n k))
set_option maxHeartbeats 1000000 in
theorem TakeJ (t n : Int) (k : Nat) (w : World) (h : mayL t n) (hk : k ≤ 24) : Calls Tryz.prog 103 #[.agg #[.int .i64 t, .int .i64 n], .int .i64 (k : Int)] w (TakeP t n k w) := by
  have M := Mem.start w
  have h' := h
  unfold mayL at h'
  refine calls_enterM Tryz.func103 rfl 50 rfl rfl ?_; intro a S
  refine nxD ?_
  refine st_box S M rfl rfl rfl #[_, _] rfl ?_; clear S M a; intro a w1 bL S M hB
  refine st_alloc S M rfl rfl #[.int .i64 0, .int .i64 0] (by kernel_rfl) ?_; clear S M a; intro a w2 bR S M hB
  refine st_go [1, 1] S rfl (by kernel_rfl) ?_; clear S a; intro a S
  refine nxC ?_
  refine wp_seq ?_
  refine nxD ?_
  refine st_y S rfl rfl rfl (y_loadAgg (cs := [_, _]) S (by kernel_rfl) rfl rfl (M.cellsAt (k := 2) 1 rfl rfl)) ?_; clear S a; intro a S
  refine st_call (xs := [(Operand.tmp 9)]) S (enters_of Tryz.func98 (by decide) rfl) rfl rfl rfl (MayJ _ _ _) ?_
  rintro _ w3 ⟨rfl, hK⟩; refine ⟨_, rfl, ?_⟩; clear S a; intro a S; replace M := M.grow hK
  refine st_go [1, 1] S rfl (by kernel_rfl) ?_; clear S a; intro a S
  refine st_if (t := 12) S rfl ?_ ?_
  · clear S; intro h12 S
    exfalso; omega
  clear S; intro h12 S
  refine st_y S rfl rfl rfl (y_build (ps := [(0, (Operand.const (Value.int IntKind.i64 0))), (1, (Operand.const (Value.int IntKind.i64 24)))]) (pl := [(0, 1), (1, 1)]) (z := [.int .i64 0, .int .i64 0]) (cs := [_, _]) S (by kernel_rfl) rfl (rfl)) ?_; clear S a; intro a S
  refine st_go [1] S rfl (by kernel_rfl) ?_; clear S a; intro a S
  refine st_call (xs := [(Operand.tmp 13), (Operand.tmp 14)]) S (enters_of Tryz.func130 (by decide) rfl) rfl rfl rfl (haveJ _ _ _ _) ?_
  rintro _ w4 ⟨rfl, hK⟩; refine ⟨_, rfl, ?_⟩; clear S a; intro a S; replace M := M.grow hK
  refine st_go [1, 1] S rfl (by kernel_rfl) ?_; clear S a; intro a S
  refine nxC ?_
  refine st_if (t := 17) S rfl ?_ ?_
  · clear S; intro h17 S
    exfalso; omega
  clear S; intro h17 S
  refine st_condF S rfl ?_
  refine wp_skip ?_
  refine then_normal ?_
  refine wp_seq ?_
  refine nxD ?_
  refine st_y S rfl rfl rfl (y_loadAgg (cs := [_, _]) S (by kernel_rfl) rfl rfl (M.cellsAt (k := 2) 1 rfl rfl)) ?_; clear S a; intro a S
  refine st_call (xs := [(Operand.tmp 19)]) S (enters_of Tryz.func53 (by decide) rfl) rfl rfl rfl (FreeJ _ _ _ h) ?_
  rintro _ w5 ⟨rfl, hK⟩; refine ⟨_, rfl, ?_⟩; clear S a; intro a S; replace M := M.grow hK
  refine st_go [1, 1, 1] S rfl (by kernel_rfl) ?_; clear S a; intro a S
  refine st_if (t := 23) S rfl ?_ ?_
  · clear S; intro h23 S
    refine st_go [0, 0, 0, 0, 0, 1] S rfl (by kernel_rfl) ?_; clear S a; intro a S
    replace S := S.sub [(0, _), (1, _), (2, _), (4, _), (5, _), (6, _), (17, _), (29, _)] rfl
    refine nxC ?_
    refine st_condT S rfl ?_
    refine nxD ?_
    refine st_y S rfl rfl rfl (y_build (ps := []) (pl := [(0, 1), (1, 1)]) (z := [.int .i64 0, .int .i64 0]) (cs := [_, _]) S (by kernel_rfl) rfl (rfl)) ?_; clear S a; intro a S
    refine st_store (sz := 2) (us := [_, _]) S M 0 rfl (by kernel_rfl) rfl rfl rfl rfl rfl rfl (by first | decide | (simp; done) | (simp; omega)) ?_; clear M; intro w6 M
    simp only [putL, List.set_cons_zero, List.set_cons_succ, Nat.reduceAdd] at M
    refine st_go [1, 1] S rfl (by kernel_rfl) ?_; clear S a; intro a S
    refine nxC ?_
    refine wp_ret ?_
    refine then_ret ?_
    refine end_plain ?_
    refine end_three S rfl (res_agg (cs := [_, _]) (by kernel_rfl) rfl rfl (M.cellsAt (k := 2) 0 rfl rfl)) (res_tmp rfl) (res_tmp rfl) ?_
    exact ⟨50, _, _, _, rfl, M.below, .inr ⟨rfl, by unfold fitsL; omega⟩⟩
  clear S; intro h23 S
  refine st_run [2, 2, 1] S M rfl (by kernel_rfl) ?_; clear S a; intro a S
  (first | refine st_y S rfl rfl rfl (y_addN S rfl rfl (by omega)) ?_ | refine st_y S rfl rfl rfl (y_int S rfl rfl rfl) ?_); clear S a; intro a S
  refine st_go [1, 1] S rfl (by kernel_rfl) ?_; clear S a; intro a S
  replace S := S.sub [(0, _), (1, _), (2, _), (4, _), (5, _), (6, _), (17, _), (29, _)] rfl
  refine nxC ?_
  refine st_if (t := 29) S rfl ?_ ?_
  · clear S; intro h29 S
    refine st_condT S rfl ?_
    refine nxD ?_
    refine st_y S rfl rfl rfl (y_build (ps := []) (pl := [(0, 1), (1, 1)]) (z := [.int .i64 0, .int .i64 0]) (cs := [_, _]) S (by kernel_rfl) rfl (rfl)) ?_; clear S a; intro a S
    refine st_store (sz := 2) (us := [_, _]) S M 0 rfl (by kernel_rfl) rfl rfl rfl rfl rfl rfl (by first | decide | (simp; done) | (simp; omega)) ?_; clear M; intro w7 M
    simp only [putL, List.set_cons_zero, List.set_cons_succ, Nat.reduceAdd] at M
    refine st_go [1, 1] S rfl (by kernel_rfl) ?_; clear S a; intro a S
    refine nxC ?_
    refine wp_ret ?_
    refine then_ret ?_
    refine end_plain ?_
    refine end_three S rfl (res_agg (cs := [_, _]) (by kernel_rfl) rfl rfl (M.cellsAt (k := 2) 0 rfl rfl)) (res_tmp rfl) (res_tmp rfl) ?_
    exact ⟨50, _, _, _, rfl, M.below, .inr ⟨rfl, by unfold fitsL; omega⟩⟩
  clear S; intro h29 S
  refine st_condF S rfl ?_
  refine wp_skip ?_
  refine nxE ?_
  refine st_go [1] S rfl (by kernel_rfl) ?_; clear S a; intro a S
  refine st_make (e := 3) (sz := 1) (by_ := 8) (zc := [.int .i64 0]) S M rfl rfl (by kernel_rfl) rfl rfl (by omega) (by omega) (by omega) (by omega) ?_; clear S M a; intro a w8 b1 S M hB
  try simp only [Int.toNat_natCast, Int.reduceToNat, Nat.reduceMul] at S M
  refine st_alloc S M rfl rfl #[.slice none 0 0] (by kernel_rfl) ?_; clear S M a; intro a w9 bO S M hB
  refine st_store (sz := 1) (us := [_]) S M 0 rfl (by kernel_rfl) rfl rfl rfl rfl rfl rfl (by first | decide | (simp; done) | (simp; omega)) ?_; clear M; intro w10 M
  simp only [putL, List.set_cons_zero, List.set_cons_succ, Nat.reduceAdd] at M
  refine nxC ?_
  refine wp_seq ?_
  refine nxD ?_
  refine st_run [2, 4, 1] S M rfl (by kernel_rfl) ?_; clear S a; intro a S
  refine st_call (xs := [(Operand.tmp 34), (Operand.tmp 35)]) S (enters_of Tryz.func143 (by decide) rfl) rfl rfl rfl (followingJ n (k : Int) _) ?_
  rintro _ w11 ⟨bN, bF, rfl, M1⟩; refine ⟨_, rfl, ?_⟩; clear S a; intro a S; replace M := M.join M1; clear M1
  simp only [List.cons_append, List.nil_append] at M
  refine nxC ?_
  refine wp_block ?_
  replace M := M.toRow (sz := 1) (m := 0) (cap := k) (xs := []) 3 rfl rfl (Nat.zero_le _) (by unfold maxLen; omega) (by rw [List.size_toArray, madeL_length]) rfl
  simp only [List.eraseIdx_cons_succ, List.eraseIdx_cons_zero] at M
  replace M := M.front 3 rfl
  simp only [List.eraseIdx_cons_succ, List.eraseIdx_cons_zero] at M
  refine wp_range (encs := encJ) (xs := seqsJ n k) S M rfl (enters_of Tryz.func158 (by decide) rfl) (following1_gen bN bF n k (by omega) (by omega)) (fun _ => rfl) (by kernel_rfl) (fun pre Hs => ∃ (v : Value) (lo hi : Nat), Hs = [.blk bO #[v] 186, rowE lo hi 3 1 v pre.length (pre.map fun x => .int .i64 x), .blk bN #[.int .i64 (k : Int)] 3, .blk bF #[.int .i64 n] 3, .blk bR #[.int .i64 0, .int .i64 0] 51, .blk bL #[.int .i64 t, .int .i64 n] 51]) (⟨_, _, _, rfl⟩) (fun pre Hs W ⟨v, lo, hi, e⟩ M => by subst e; exact ⟨M.blk 2 rfl, M.blk 3 rfl⟩) ?_ ?_
  · intro lY pre x tX Hs wr BK a hx hI M S
    simp only [putsL, encJ] at S
    obtain ⟨v, lo, hi, rfl⟩ := hI
    have hpl : pre.length ≤ 24 := by
      have e := congrArg List.length hx
      simp [seqsJ] at e
      omega
    refine wpI_region (by kernel_rfl) (fun _ _ h => h) ?_
    refine st_go [1] S rfl (by kernel_rfl) ?_; clear S a; intro a S
    refine nxC ?_
    refine ⟨_, M, ?_⟩; clear M; intro wb BK M
    refine wpIn_block ?_
    refine wpI_region (by kernel_rfl) (fun _ _ h => h) ?_
    refine st_run [2, 1] S M rfl (by kernel_rfl) ?_; clear S a; intro a S
    refine st_lit (ps := [(0, (Operand.tmp 39))]) (e := 3) (sz := 1) (zl := [.int .i64 0]) (cs := [_]) S M rfl rfl (by kernel_rfl) rfl (rfl) ?_; clear S M a; intro a w12 bZ S M hB
    refine st_append (e := 3) (sz := 1) (by_ := 8) (zc := [.int .i64 0]) S M 3 rfl rfl (by kernel_rfl) rfl (by decide) rfl rfl rfl (show Rd _ _ _ 1 _ 1 [Value.int .i64 x] from M.sliceAt 0 rfl (M.cellsAt (k := 1) 0 rfl rfl) rfl (Nat.le_refl _) (by unfold maxLen; omega)) (rfl) (by omega) (by unfold maxLen; omega) ?_; clear S M a; intro a w13 vA loA hiA S M
    obtain ⟨aA, cA, rfl, -, -⟩ := (M.readAll 0 rfl (by unfold maxLen; omega)).form
    refine st_store (sz := 1) (us := [_]) S M 3 rfl (by kernel_rfl) rfl rfl rfl rfl rfl rfl (by first | decide | (simp; done) | (simp; omega)) ?_; clear M; intro w14 M
    simp only [putL, List.set_cons_zero, List.set_cons_succ, Nat.reduceAdd] at M
    refine wpList_nil ?_
    refine block_normal ?_
    replace M := M.front 2 rfl
    simp only [List.eraseIdx_cons_succ, List.eraseIdx_cons_zero] at M
    skip
    replace M := M.drop 2
    simp only [List.eraseIdx_cons_succ, List.eraseIdx_cons_zero] at M
    replace M := M.ord [1, 2, 2] (by simp only [ordO, oG, oS, oE, oZ, oB] <;> rfl)
    refine ⟨_, M, .slice aA (pre.length + 1) cA, loA, hiA, ?_⟩
    rw [List.length_append, List.map_append]; rfl
  intro D1 wd Hs a hI M S
  obtain ⟨v, lo, hi, rfl⟩ := hI
  refine block_normal ?_
  refine then_normal ?_
  refine wp_seq ?_
  refine wp_regionKC (C := fun W => Blk W bL #[.int .i64 t, .int .i64 n] 51 ∧ Blk W bO #[v] 186) [8] #[false, false, false, false, false, false, false, false, false, false, false] rfl M (by kernel_rfl) ?_; clear M; intro w15 M; have hC := And.intro (M.blk 6 rfl) (M.blk 1 rfl)
  refine kc_readC 0 S rfl hC (fun w _ => y_fieldAddr (k := 0) S (by kernel_rfl) rfl) ?_; clear S a; intro a S
  refine kc_readC 1 S rfl hC (fun w hC => y_load S (by kernel_rfl) rfl (hC.1.cells 0)) ?_; clear S a; intro a S
  refine kc_readC 2 S rfl hC (fun w _ => y_fieldAddr (k := 1) S (by kernel_rfl) rfl) ?_; clear S a; intro a S
  refine kc_readC 3 S rfl hC (fun w hC => y_load S (by kernel_rfl) rfl (hC.1.cells 1)) ?_; clear S a; intro a S
  refine kc_readC 4 S rfl hC (fun w _ => y_move S rfl) ?_; clear S a; intro a S
  (first | refine kc_readC 5 S rfl hC (fun w _ => y_addN S rfl rfl (by omega)) ?_ | refine kc_readC 5 S rfl hC (fun w _ => y_int S rfl rfl rfl) ?_); clear S a; intro a S
  refine kc_readC 6 S rfl hC (fun w _ => y_build (ps := [(0, (Operand.tmp 43)), (1, (Operand.tmp 47))]) (pl := [(0, 1), (1, 1)]) (z := [.int .i64 0, .int .i64 0]) (cs := [_, _]) S (by kernel_rfl) rfl (rfl)) ?_; clear S a; intro a S
  refine kc_readC 7 S rfl hC (fun w hC => y_load S (by kernel_rfl) rfl (hC.2.cells 0)) ?_; clear S a; intro a S
  refine kc_one 8 rfl (by kernel_rfl) ?_
  refine st_store (sz := 2) (us := [_, _]) S M 5 rfl (by kernel_rfl) rfl rfl rfl rfl rfl rfl (by first | decide | (simp; done) | (simp; omega)) ?_; clear M; intro w16 M
  simp only [putL, List.set_cons_zero, List.set_cons_succ, Nat.reduceAdd] at M
  replace hC := And.intro (M.blk 6 rfl) (M.blk 1 rfl)
  refine wpList_nil ?_; refine then_normal ?_; refine ⟨fun h => absurd h (by decide), hC, ?_⟩
  refine kc_readC 9 S rfl hC (fun w _ => y_assign S rfl) ?_; clear S a; intro a S
  refine kc_readC 10 S rfl hC (fun w _ => y_assign S rfl) ?_; clear S a; intro a S
  refine kc_end (by kernel_rfl) ?_
  replace S := S.sub [(0, _), (1, _), (2, _), (4, _), (17, _), (29, _), (7, _), (36, _), (5, _), (6, _)] rfl
  refine then_normal ?_
  refine wp_ret ?_
  refine end_mark S M 0 rfl ?_; clear S M a; intro a wM S M
  simp only [List.eraseIdx_cons_succ, List.eraseIdx_cons_zero] at M
  refine end_plain ?_
  refine end_three S rfl (res_agg (cs := [_, _]) (by kernel_rfl) rfl rfl (M.cellsAt (k := 2) 4 rfl rfl)) (res_tmp rfl) (res_tmp rfl) ?_
  exact ⟨0, _, _, _, rfl, M.below, .inl ⟨rfl, by unfold fitsL; omega, rfl, rfl⟩⟩
end Go.Proofs.YtndabhdepjnbcaaGreat

namespace Go.Proofs.YtndabhdepjnbcaaGreat
open Go.RowKit Go.Sort
variable {ds : List Deferred}
variable {P : Program} {ops : Array Oper} {Q : Exit → Act → World → Prop} {md : Region.Mode} {rest : List Oper} {n d : Nat} {a : Act} {L : List (Nat × Value)} {w w0 : World} {v : Value} {o : Oper} {H : List Ent} {r : Option Nat}
/-- the function gf, with what it has caught, gives these, one behind the other, until it is told to stop; C: what it reads -/
def GenM {α : Type} (P : Program) (gf : FuncId) (lb : List Value) (encs : α → List Value) (xs : List α) (C : World → Prop) : Prop :=
  ∀ (l : Nat) (w0 : World) (I X : List α → List Ent → Prop) (w : World) (Hs : List Ent), (∀ pre Hs W, I pre Hs → Mem w0 W Hs → C W) →
    (∀ pre x t E Hs W, xs = pre ++ x :: t → I pre Hs → Mem w0 W (E ++ Hs) → Yld P l (encs x) W fun e W' => ∃ Hs', Mem w0 W' (E ++ Hs') ∧ ((e = .returned (.bool true) ∧ I (pre ++ [x]) Hs') ∨ (e = .returned (.bool false) ∧ X (pre ++ [x]) Hs'))) →
    I [] Hs → Mem w0 w Hs →
    CallsIn (Fnc none) 0 P gf ((.func (.yield l) #[] #[] :: lb).toArray) w fun e W => (∃ v, e = .returned v) ∧ ∃ Hs', Mem w0 W Hs' ∧ (I xs Hs' ∨ ∃ pre x t, xs = pre ++ x :: t ∧ X (pre ++ [x]) Hs')
def roundX (w0 : World) (T : List Ent) (J : List Ent → Prop) (K : Code → List Ent → Prop) : Exit → Act → World → Prop
  | .normal, _, W => ∃ Hs, Mem w0 W (Hs ++ T) ∧ J Hs
  | .ret, _, W => ∃ Hs, Mem w0 W (Hs ++ T) ∧ K .ret Hs
  | .exit id, _, W => ∃ Hs, Mem w0 W (Hs ++ T) ∧ K (.exit id) Hs
  | .goto t, _, W => ∃ Hs, Mem w0 W (Hs ++ T) ∧ K (.goto t) Hs
  | _, _, _ => False
theorem Mem.tailK {B : Ent} {Hs E : List Ent} (M : Mem w0 w (Hs ++ B :: E)) : Mem w0 w (B :: (Hs ++ E)) := M.perm List.perm_middle
theorem Mem.backK {B : Ent} {Hs E : List Ent} (M : Mem w0 w (B :: (Hs ++ E))) : Mem w0 w (Hs ++ B :: E) := M.perm List.perm_middle.symm
theorem Mem.turn {B : Ent} {Hs E : List Ent} (M : Mem w0 w (E ++ B :: Hs)) : Mem w0 w (Hs ++ B :: E) := (M.perm List.perm_append_comm).perm List.perm_middle.symm
theorem Mem.turnB {B : Ent} {Hs E : List Ent} (M : Mem w0 w (Hs ++ B :: E)) : Mem w0 w (E ++ B :: Hs) := (M.perm List.perm_append_comm).perm List.perm_middle.symm
/-! ### a drawn region whose last operations come in order, in a round or where yield is called -/
end Go.Proofs.YtndabhdepjnbcaaGreat

namespace Go.Proofs.YtndabhdepjnbcaaGreat
open Go.RowKit Go.Sort
variable {ds : List Deferred}
variable {P : Program} {ops : Array Oper} {Q : Exit → Act → World → Prop} {md : Region.Mode} {rest : List Oper} {n d : Nat} {a : Act} {L : List (Nat × Value)} {w w0 : World} {v : Value} {o : Oper} {H : List Ent} {r : Option Nat}
/-- the function gf, with what it has caught, gives these, one behind the other, until it is told to stop; what it gives is made in each round (E: what the generator owns meanwhile); C: what it reads -/
def GenV {α : Type} (P : Program) (gf : FuncId) (lb : List Value) (V : α → List Value → List Ent → Prop) (xs : List α) (C : World → Prop) : Prop :=
  ∀ (l : Nat) (w0 : World) (I X : List α → List Ent → Prop) (w : World) (Hs : List Ent), (∀ pre Hs W, I pre Hs → Mem w0 W Hs → C W) →
    (∀ pre x t E vs Hs W, xs = pre ++ x :: t → V x vs E → I pre Hs → Mem w0 W (E ++ Hs) → Yld P l vs W fun e W' => ∃ Hs', Mem w0 W' (E ++ Hs') ∧ ((e = .returned (.bool true) ∧ I (pre ++ [x]) Hs') ∨ (e = .returned (.bool false) ∧ X (pre ++ [x]) Hs'))) →
    I [] Hs → Mem w0 w Hs →
    CallsIn (Fnc none) 0 P gf ((.func (.yield l) #[] #[] :: lb).toArray) w fun e W => (∃ v, e = .returned v) ∧ ∃ Hs', Mem w0 W Hs' ∧ (I xs Hs' ∨ ∃ pre x t, xs = pre ++ x :: t ∧ X (pre ++ [x]) Hs')
theorem wp_rangeV {α : Type} {g : Operand} {ps : List Tmp} {assign body : Code} {gf : FuncId} {lb : List Value} {V : α → List Value → List Ent → Prop} {xs : List α} {C : World → Prop}
    (S : SeesD ds n a L) (M : Mem w0 w H) (hg : val L g = some (.func (.func gf) #[] lb.toArray)) (hE : Enters P gf) (G : GenV P gf lb V xs C) (hps : ∀ x vs E, V x vs E → vs.length = ps.length) (hpn : (ps.all fun p => Nat.blt p n) = true)
    (I : List α → List Ent → Prop) (X : Code → List α → List Ent → Prop) (h0 : I [] H) (hC : ∀ pre Hs W T, I pre Hs → Mem w0 W (Hs ++ T) → C W)
    (hround : ∀ (l : Nat) (pre : List α) (x : α) (t : List α) (Hs E : List Ent) (vs : List Value) (W : World) (B : Ent) (a' : Act), xs = pre ++ x :: t → V x vs E → I pre Hs → Mem w0 W (Hs ++ B :: E) → Sees n a' (putsL ps vs L) →
      assign.wpIn (Fnc (some l)) 0 P (Exit.then (fun a1 W1 => ∃ Hs1, Mem w0 W1 (Hs1 ++ B :: E) ∧ ∀ (W2 : World) (B2 : Ent), Mem w0 W2 (Hs1 ++ B2 :: E) → body.wpIn (Fnc (some l)) 0 P (roundX w0 (B2 :: E) (I (pre ++ [x])) (fun c => X c (pre ++ [x]))) a1 W2) (fun _ _ _ => False)) a' W)
    (hdone : ∀ (D : Nat) (W : World) (Hs : List Ent) (a' : Act), I xs Hs → Mem w0 W (markE D :: Hs) → SeesD (markD D :: ds) n a' L → Q .normal a' W)
    (hstop : ∀ (D : Nat) (W : World) (Hs : List Ent) (a' : Act) (c : Code) (pre : List α) (x : α) (t : List α), xs = pre ++ x :: t → X c (pre ++ [x]) Hs → Mem w0 W (markE D :: Hs) → SeesD (markD D :: ds) n a' L → c.wp P Q a' W) :
    (Code.rangeFunc g ps.toArray assign body).wp P Q a w := by
  refine (wpIn_wide (n := 0)).1 (wpIn_rangeFunc fun fn _ => ?_)
  obtain ⟨rec, hrec⟩ : ∃ rec : LoopState → Option Code → Loop, rec = fun st pe => { state := st, pending := pe, fn, tmps := a.tmps, params := ps.toArray, assign, body, defers := w.heap.size } := ⟨_, rfl⟩
  obtain ⟨W1, hW1⟩ : ∃ W1, (w.alloc (.deferred (some []))).alloc (.loop (rec .ready none)) = W1 := ⟨_, rfl⟩
  have M1 : Mem w0 W1 (kE w.heap.size (rec .ready none) :: H) := by
    rw [← hW1]
    refine M.push (ext_alloc (ext_alloc (ext_refl _) _) _) _ (fun W' hs => ⟨?_, ?_⟩) (Nat.le_refl _) (by simp [Ent.hi])
    · rw [hs w.heap.size (Nat.le_refl _) (by omega)]; exact (Below.heap_alloc _ _ _ (by simp)).trans (World.alloc_heap_new w _)
    · rw [hs (w.heap.size + 1) (by omega) (by omega)]
      have := World.alloc_heap_new (w.alloc (.deferred (some []))) (.loop (rec .ready none))
      rwa [World.size_alloc] at this
  have hev : a.eval g = .func (.func gf) #[] lb.toArray := S.eval hg
  have fin : ∀ (R R' : Loop) (Hs : List Ent) (W : World), Mem w0 W (kE w.heap.size R :: Hs) → Mem w0 (W.putObj (w.heap.size + 1) (.loop R')) (markE w.heap.size :: Hs) := fun R R' Hs W M2 => by
    have M3 := (M2.keep (R' := R')).2
    have h := M3.own 0 rfl
    refine M3.change (e' := markE w.heap.size) 0 rfl rfl rfl (fun W' hs => ?_) rfl rfl rfl rfl fun _ _ => rfl
    show W'.heap[w.heap.size]? = _
    rw [hs w.heap.size (Nat.le_refl _) (by omega)]; exact h.1
  refine ⟨w.heap.size + 1, [markD w.heap.size], W1, { target := .fn (.func gf) lb.toArray, args := #[.func (.yield (w.heap.size + 1)) #[] #[]] }, W1, gf, (.func (.yield (w.heap.size + 1)) #[] #[] :: lb).toArray, W1, ?_, ?_, fun _ _ => trivial, ?_, fun h => (by cases h), ?_⟩
  · rw [← hW1, hrec]; exact run_enterLoop_outer _ _ _ _ _
  · simp only [resolve, hev]
    simp [go_sem]
  · have := hE ((.func (.yield (w.heap.size + 1)) #[] #[] :: lb).toArray) W1
    simpa [invoke, go_sem] using this
  · refine CallsIn.mono (G (w.heap.size + 1) w0 (fun pre Hs => ∃ H1, Hs = kE w.heap.size (rec .ready none) :: H1 ∧ I pre H1) (fun pre Hs => ∃ c H1, Hs = kE w.heap.size (rec .done (some c)) :: H1 ∧ X c pre H1) W1 _ ?_ ?_ ⟨H, rfl, h0⟩ M1) ?_
    · rintro pre Hs W ⟨H1, rfl, hI⟩ M2
      exact hC pre H1 W [kE w.heap.size (rec .ready none)] hI (Mem.turn (E := []) M2)
    · rintro pre x t E vs Hs W hx hV ⟨H1, rfl, hI⟩ MW
      have MW2 := MW.turn
      have hl := (Mem.keep (R' := rec .ready none) MW2.tailK).1
      have hy := run_yield (P := P) (args := vs.toArray) hl (by rw [hrec]; simp [hps x vs E hV])
      rw [hrec] at hy
      refine ⟨fn, _, assign, body, hy, roundIn_of_wpIn trivial ?_⟩
      have hS : Sees n { tmps := (ps.toArray.zip (vs).toArray).foldl (fun t (p, v) => t.setIfInBounds p v) a.tmps, defers := [] } (putsL ps (vs) L) := by
        have h1 := sees_puts ps (vs) hpn S
        have e : (ps.toArray.zip (vs).toArray).foldl (fun t (p, v) => t.setIfInBounds p v) a.tmps = (ps.zip (vs)).foldl (fun t (q : Nat × Value) => t.setIfInBounds q.1 q.2) a.tmps := by
          rw [List.zip_toArray, List.foldl_toArray]
        rw [e]
        exact ⟨h1.size, rfl, h1.at_, h1.lt⟩
      refine wpIn_mono (hround (w.heap.size + 1) pre x t H1 E vs W (kE w.heap.size (rec .ready none)) _ hx hV hI MW2 hS) fun e a1 W2 h => ?_
      cases e with
      | normal =>
        obtain ⟨Hs1, M2, hb⟩ := h
        obtain ⟨hl2, M3⟩ := Mem.keep (R' := { rec .ready none with state := .busy }) M2.tailK
        refine ⟨_, run_beginRound hl2 (by rw [hrec]), ?_⟩
        refine wpIn_mono (hb _ _ M3.backK) fun e a3 W3 h3 => ?_
        have ends : ∀ (jump : Option Code) (Hs3 : List Ent), Mem w0 W3 (Hs3 ++ kE w.heap.size { rec .ready none with state := .busy } :: E) → ∃ W', (Instr.endRound (w.heap.size + 1) jump).run P W3 = .ok (.bool jump.isNone) W' ∧ Mem w0 W' (E ++ kE w.heap.size (rec (if jump.isNone then .ready else .done) jump) :: Hs3) := fun jump Hs3 M4 => by
          obtain ⟨hl4, M5⟩ := Mem.keep (R' := rec (if jump.isNone then .ready else .done) jump) M4.tailK
          have he := run_endRound (P := P) jump hl4
          have e2 : ({ ({ rec .ready none with state := LoopState.busy } : Loop) with state := if jump.isNone then LoopState.ready else LoopState.done, pending := jump } : Loop) = rec (if jump.isNone then .ready else .done) jump := by rw [hrec]
          rw [e2] at he
          exact ⟨_, he, M5.backK.turnB⟩
        cases e with
        | normal =>
          obtain ⟨Hs3, M4, h4⟩ := h3
          obtain ⟨W', he, M5⟩ := ends none Hs3 M4
          exact ⟨_, _, he, _, M5, .inl ⟨rfl, Hs3, rfl, h4⟩⟩
        | ret =>
          obtain ⟨Hs3, M4, h4⟩ := h3
          obtain ⟨W', he, M5⟩ := ends (some .ret) Hs3 M4
          exact ⟨_, _, he, _, M5, .inr ⟨rfl, _, Hs3, rfl, h4⟩⟩
        | exit id =>
          obtain ⟨Hs3, M4, h4⟩ := h3
          obtain ⟨W', he, M5⟩ := ends (some (.exit id)) Hs3 M4
          exact ⟨_, _, he, _, M5, .inr ⟨rfl, _, Hs3, rfl, h4⟩⟩
        | goto t =>
          obtain ⟨Hs3, M4, h4⟩ := h3
          obtain ⟨W', he, M5⟩ := ends (some (.goto t)) Hs3 M4
          exact ⟨_, _, he, _, M5, .inr ⟨rfl, _, Hs3, rfl, h4⟩⟩
        | panic ch => exact h3.elim
        | outgrown => exact h3.elim
      | exit id => exact h.elim
      | goto t => exact h.elim
      | ret => exact h.elim
      | panic ch => exact h.elim
      | outgrown => exact h.elim
    · rintro e W2 ⟨⟨v, rfl⟩, Hs, M2, hI⟩
      rcases hI with ⟨H1, rfl, hI⟩ | ⟨pre, x, t, hx, c, H1, rfl, hX⟩
      · obtain ⟨hl, -⟩ := Mem.keep (R' := rec .ready none) M2
        have he := run_endLoop (P := P) hl (by rw [hrec]; simp)
        have he' : (Instr.endLoop (w.heap.size + 1)).run P W2 = .ok none (W2.putObj (w.heap.size + 1) (.loop { rec .ready none with state := .exhausted })) := he.trans (by rw [hrec])
        exact ⟨none, _, he', hdone w.heap.size _ H1 _ hI (fin _ _ _ _ M2) ⟨S.size, by rw [← S.defers]; rfl, S.at_, S.lt⟩⟩
      · obtain ⟨hl, -⟩ := Mem.keep (R' := rec .ready none) M2
        have he := run_endLoop (P := P) hl (by rw [hrec]; simp)
        have he' : (Instr.endLoop (w.heap.size + 1)).run P W2 = .ok (some c) (W2.putObj (w.heap.size + 1) (.loop { rec .done (some c) with state := .exhausted })) := he.trans (by rw [hrec])
        exact ⟨some c, _, he', (wpIn_wide (n := 0)).2 (hstop w.heap.size _ H1 _ c pre x t hx hX (fin _ _ _ _ M2) ⟨S.size, by rw [← S.defers]; rfl, S.at_, S.lt⟩)⟩
end Go.Proofs.YtndabhdepjnbcaaGreat

namespace Go.Proofs.YtndabhdepjnbcaaGreat
open Go.RowKit Go.Sort
def isF : Value → Bool
  | .nilFunc | .func .. => true
  | _ => false
def isNilF : Value → Bool
  | .nilFunc => true
  | _ => false
theorem equalF {P : Program} {v : Value} {xt : TypeId} {ps rs : Array TypeId} {va : Bool} (d : Nat) (hU : P.underlying xt = some (.func ps rs va)) (hv : isF v = true) (w : World) : (Op.equalIn (d + 1) xt v .nilFunc).run P w = .ok (isNilF v) w := by
  match v, hv with
  | .nilFunc, _ => simp only [Op.equalIn, Sem.run_bind, run_underlying hU, Result.andThen_ok, Sem.run_pure, isNilF]
  | .func f fi ca, _ => simp only [Op.equalIn, Sem.run_bind, run_underlying hU, Result.andThen_ok, Sem.run_pure, isNilF]
theorem y_eqlF {P : Program} {n : Nat} {a : Act} {L : List (Nat × Value)} {w : World} {x : Operand} {v : Value} {xt : TypeId} {ps rs : Array TypeId} {va : Bool} (hU : P.underlying xt = some (.func ps rs va)) (hG : P.eqGuardType P.depth xt = false) (S : Sees n a L) (hx : val L x = some v) (hv : isF v = true)
    {d : Option Tmp} {yt t : TypeId} {p : String} {e : Array Edge} {g : Option (Nat × Bool)} : Yields P a ⟨d, .binOp .eql xt x (.const .nilFunc) yt, t, p, e, g⟩ w (.bool (isNilF v)) := by
  have h : (Op.equalIn (9999 + 1) xt v .nilFunc).run P w = .ok (isNilF v) w := equalF 9999 hU hv w
  unfold Yields execOp
  have hc : a.eval (.const .nilFunc) = .nilFunc := rfl
  have hb : (binOp .eql xt v .nilFunc).run P w = .ok (.bool (isNilF v)) w := by
    have e : binOp .eql xt v .nilFunc = (do pure (.bool (← Op.equalIn (9999 + 1) xt v .nilFunc))) := match v, hv with
      | .nilFunc, _ => rfl
      | .func _ _ _, _ => rfl
    rw [e, Sem.run_bind, h]; rfl
  simp only [S.eval hx, hc, eqGuard, Sem.run_bind]
  simp [hG, hb, go_sem]
theorem fillL_one {pl : Nat → Option (Nat × Nat)} {l us : List Value} {i off sz : Nat} {v : Value} (hp : pl i = some (off, sz)) (hu : v.cells.toList = us) (hsz : us.length = sz) (hle : off + sz ≤ l.length) : fillL pl l [(i, v)] = some (putL l off us) := by
  subst hu
  simp only [fillL, hp]
  have h1 : Nat.beq v.cells.toList.length sz = true := by rw [hsz]; exact Nat.beq_refl sz
  have h2 : Nat.ble (off + sz) l.length = true := Nat.ble_eq_true_of_le hle
  rw [h1, h2]; rfl
end Go.Proofs.YtndabhdepjnbcaaGreat

namespace Go.Proofs.YtndabhdepjnbcaaGreat
open Go.RowKit Go.Sort
/-- the disk b holds S, in this world -/
def DkW (b : Nat) (S : DS) (W : World) : Prop := ∃ wc A E, DkE b S E ∧ Mem wc W (A ++ E)
structure SecC (b bf bd : Nat) (tail : Int) (S : DS) (W : World) : Prop where
  disk : DkW b S W
  f : Blk W bf #[.int .i64 tail] 3
  d : Blk W bd #[.pointer (some ⟨b, 0, none⟩)] 38
/-- the sectors from a tail on, once around -/
def secAt (S : DS) (tail : Int) (i : Nat) : List UInt8 := S.get (2 + (tail + i) % 24).toNat
def secsOf (S : DS) (tail : Int) : List (List UInt8) := (List.range 24).map (secAt S tail)
/-- how many sectors a scan may read: no sequence is greater than 2^40 -/
def secN (tail : Int) : Nat := min 24 (1099511627777 - tail).toNat
def secsG (S : DS) (tail : Int) : List (List UInt8) := (List.range (secN tail)).map (secAt S tail)
theorem secsG_eq (S : DS) {tail : Int} (h : tail ≤ 4294967296) : secsG S tail = secsOf S tail := by
  unfold secsG secsOf
  rw [show secN tail = 24 by unfold secN; omega]
theorem secsG_len (S : DS) (tail : Int) : (secsG S tail).length = secN tail := by simp [secsG]
def secV (x : List UInt8) (vs : List Value) (E : List Ent) : Prop := ∃ v lo hi, vs = [v, .int .i64 0] ∧ E = [rowE lo hi 5 1 v x.length (bcells x)] ∧ x.length = 64
theorem range_at {α : Type} (f : Nat → α) {k n : Nat} (h : k < n) : ∃ t, (List.range n).map f = (List.range k).map f ++ f k :: t := by
  refine ⟨((List.range n).map f).drop (k + 1), ?_⟩
  have hl : ((List.range n).map f).length = n := by simp
  have ht : ((List.range n).map f).take k = (List.range k).map f := by
    rw [← List.map_take, List.take_range, Nat.min_eq_left (by omega)]
  conv => lhs; rw [← List.take_append_drop k ((List.range n).map f), List.drop_eq_getElem_cons (by omega), ht]
  congr 2
  simp
theorem range_snoc {α : Type} (f : Nat → α) (k : Nat) : (List.range (k + 1)).map f = (List.range k).map f ++ [f k] := by simp [List.range_succ]
set_option maxHeartbeats 2000000 in
theorem sectors1_gen (b bf bd : Nat) (tail : Int) (S0 : DS) (hup : S0.down = false) (hw : ∀ k, (S0.cache k).length ≤ 1000000) (ht : 1 ≤ tail ∧ tail ≤ 1099511627776) : GenV Tryz.prog 153 [.pointer (some ⟨bf, 0, none⟩), .pointer (some ⟨bd, 0, none⟩)] secV (secsG S0 tail) (SecC b bf bd tail S0) := by
  intro ll w0 I X w Hs0 hC hY h0 M
  refine calls_enterG Tryz.func153 rfl 36 rfl rfl ?_; intro a S
  refine wpIn_seq ?_
  refine wpI_region (by kernel_rfl) (by rintro _ _ ⟨⟨_, h⟩, -⟩; cases h) ?_
  refine st_go [1] S rfl (by kernel_rfl) ?_; clear S a; intro a S
  refine nxC ?_
  refine wpIn_block ?_
  refine wpI_loop_g (fun m a w' => ∃ (i : Nat) (Hs : List Ent), i ≤ secN tail ∧ m = 24 - i ∧ I ((List.range i).map (secAt S0 tail)) Hs ∧ Sees 36 a [(0, .func (.yield ll) #[] #[]), (1, .pointer (some ⟨bf, 0, none⟩)), (2, .pointer (some ⟨bd, 0, none⟩)), (8, .int .i64 (i : Int))] ∧ Mem w0 w' Hs) (24) ?_ ?_
  · skip
    exact ⟨0, Hs0, Nat.zero_le _, rfl, h0, S.sub _ rfl, M⟩
  clear S M a; intro m a wl
  rintro ⟨i, Hs, hi', rfl, hI, S, M⟩
  refine wpIn_seq ?_
  refine wpI_region (by kernel_rfl) (by rintro _ _ ⟨⟨_, h⟩, -⟩; cases h) ?_
  refine st_go [1] S rfl (by kernel_rfl) ?_; clear S a; intro a S
  refine nxC ?_
  refine wpIn_seq ?_
  refine st_fi (t := 9) S rfl ?_ ?_
  · clear S; intro h9 S
    refine stI_condF S rfl ?_
    refine wpIn_exit ?_
    refine then_exit ?_
    refine then_exit ?_
    refine block_hit ?_
    refine end_noneN S rfl ?_
    obtain rfl : i = secN tail := by
      unfold secN at hi' ⊢
      omega
    exact ⟨⟨_, rfl⟩, Hs, M, .inl hI⟩
  clear S; intro h9 S
  refine stI_condT S rfl ?_
  refine wpIn_skip ?_
  refine then_normal ?_
  refine wpIn_seq ?_
  refine wpIn_block ?_
  refine wpIn_seq ?_
  have hlt : i < 24 := by omega
  refine wpI_region (by kernel_rfl) (by rintro _ _ ⟨⟨_, h⟩, -⟩; cases h) ?_
  refine st_go [1, 1] S rfl (by kernel_rfl) ?_; clear S a; intro a S
  refine nxC ?_
  refine wpIn_seq ?_
  refine wpI_region (by kernel_rfl) (by rintro _ _ ⟨⟨_, h⟩, -⟩; cases h) ?_
  refine st_y S rfl rfl rfl (y_load S (by kernel_rfl) rfl (((hC _ _ _ hI M).f).cells 0)) ?_; clear S a; intro a S
  refine st_go [1] S rfl (by kernel_rfl) ?_; clear S a; intro a S
  (first | refine st_y S rfl rfl rfl (y_addN S rfl rfl (by omega)) ?_ | refine st_y S rfl rfl rfl (y_int S rfl rfl rfl) ?_); clear S a; intro a S
  refine st_call (xs := [(Operand.tmp 14)]) S (enters_of Tryz.func108 (by decide) rfl) rfl rfl rfl (PlaceJ (tail + (i : Int)) _) ?_
  rintro _ w1 ⟨rfl, hK⟩; refine ⟨_, rfl, ?_⟩; clear S a; intro a S; replace M := M.grow hK
  refine st_go [1, 1, 1, 1, 1] S rfl (by kernel_rfl) ?_; clear S a; intro a S
  refine nxC ?_
  refine wpIn_seq ?_
  refine wpIn_seq ?_
  refine wpI_region (by kernel_rfl) (by rintro _ _ ⟨⟨_, h⟩, -⟩; cases h) ?_
  refine st_go [1, 1] S rfl (by kernel_rfl) ?_; clear S a; intro a S
  refine nxC ?_
  refine st_if (t := 19) S rfl ?_ ?_
  · clear S; intro h19 S
    refine stI_condT S rfl ?_
    refine wpIn_ret ?_
    refine then_ret ?_
    refine block_ret ?_
    refine then_ret ?_
    refine then_ret ?_
    refine block_ret ?_
    refine end_none S rfl ?_
    obtain rfl : i = secN tail := by
      have hgt : ¬ (1 ≤ tail + (i : Int) ∧ tail + (i : Int) ≤ 1099511627776) := fun h => h19 (by unfold plE; rw [if_pos h])
      unfold secN at hi' ⊢
      omega
    exact ⟨⟨_, rfl⟩, Hs, M, .inl hI⟩
  clear S; intro h19 S
  refine stI_condF S rfl ?_
  refine wpIn_skip ?_
  refine then_normal ?_
  refine wpIn_seq ?_
  have hin : 1 ≤ tail + (i : Int) ∧ tail + (i : Int) ≤ 1099511627776 := by
    by_cases h : 1 ≤ tail + (i : Int) ∧ tail + (i : Int) ≤ 1099511627776
    · exact h
    · unfold plE at h19; rw [if_neg h] at h19; omega
  have hpe : plE (tail + (i : Int)) = 0 := by unfold plE; rw [if_pos hin]
  have hpv : plV (tail + (i : Int)) = (((2 + (tail + (i : Int)) % 24).toNat : Nat) : Int) := by unfold plV; rw [if_pos hin]; omega
  rw [hpe, hpv] at S
  have hlt2 : i < secN tail := by unfold secN; omega
  obtain ⟨tx, hx⟩ := range_at (secAt S0 tail) hlt2
  refine wpI_region (by kernel_rfl) (by rintro _ _ ⟨⟨_, h⟩, -⟩; cases h) ?_
  refine st_y S rfl rfl rfl (y_load S (by kernel_rfl) rfl (((hC _ _ _ hI M).d).cells 0)) ?_; clear S a; intro a S
  refine st_go [1] S rfl (by kernel_rfl) ?_; clear S a; intro a S
  refine st_call (xs := [(Operand.tmp 21), (Operand.tmp 22)]) S (enters_of Tryz.func43 (by decide) rfl) rfl rfl rfl ((by obtain ⟨wc, A, E, hE, MM⟩ := (hC _ _ _ hI M).disk; exact dread_any hE MM hup (by omega) (hw _))) ?_
  rintro _ w2 ⟨v', rfl, hF, h64⟩; refine ⟨_, rfl, ?_⟩; clear S a; intro a S
  obtain ⟨lo, hi, -, M2⟩ := M.pushFresh hF; clear M; have M := M2; clear M2
  refine st_go [1, 1, 1, 1, 1] S rfl (by kernel_rfl) ?_; clear S a; intro a S
  replace S := S.sub [(0, _), (1, _), (2, _), (8, _), (9, _), (4, _), (5, _), (19, _), (7, _), (6, _)] rfl
  refine nxC ?_
  refine wpIn_seq ?_
  refine wpI_preK 3 (by kernel_rfl) (by rintro _ _ ⟨⟨_, h⟩, -⟩; cases h) ?_; simp only [List.take_succ_cons, List.take_zero, List.drop_succ_cons, List.drop_zero]
  refine st_go [1, 1, 1] S rfl (by kernel_rfl) ?_; clear S a; intro a S
  refine wpList_nil ?_; refine then_normal ?_
  refine stI_yield (xs := [(Operand.tmp 27), (Operand.tmp 28)]) S rfl (by kernel_rfl) rfl rfl (hY ((List.range i).map (secAt S0 tail)) (secAt S0 tail i) tx [_] [v', .int .i64 0] Hs _ hx ⟨v', lo, hi, rfl, rfl, h64⟩ hI M) ?_
  rintro e w3 ⟨Hs2, M2, hh⟩
  obtain ⟨bb, rfl, hb⟩ : ∃ bb, e = .returned (.bool bb) ∧ ((bb = true ∧ I ((List.range i).map (secAt S0 tail) ++ [secAt S0 tail i]) Hs2) ∨ (bb = false ∧ X ((List.range i).map (secAt S0 tail) ++ [secAt S0 tail i]) Hs2)) := by
    rcases hh with ⟨rfl, h⟩ | ⟨rfl, h⟩
    · exact ⟨true, rfl, .inl ⟨rfl, h⟩⟩
    · exact ⟨false, rfl, .inr ⟨rfl, h⟩⟩
  refine ⟨_, rfl, ?_⟩; clear S M a; intro a S; have M := M2; clear M2
  simp only [List.cons_append, List.nil_append] at M
  refine list_in (by kernel_rfl) (by rintro _ _ ⟨⟨_, h⟩, -⟩; cases h) ?_
  refine st_go [1, 1] S rfl (by kernel_rfl) ?_; clear S a; intro a S
  refine st_split (t := 31) S rfl ?_ ?_
  · clear S; intro h31 S
    refine st_go [0, 0, 1] S rfl (by kernel_rfl) ?_; clear S a; intro a S
    refine nxC ?_
    refine stI_condT S rfl ?_
    refine wpIn_ret ?_
    refine block_ret ?_
    refine then_ret ?_
    refine then_ret ?_
    refine block_ret ?_
    refine end_none S rfl ?_
    refine ⟨⟨_, rfl⟩, Hs2, M.drop 0, .inr ⟨_, _, _, hx, ?_⟩⟩
    rcases hb with ⟨rfl, -⟩ | ⟨-, h⟩
    · first | (cases h31; done) | (cases h34; done) | (simp at h31; done) | (simp at h34; done)
    · exact h
  clear S; intro h31 S
  refine st_go [1, 1, 1] S rfl (by kernel_rfl) ?_; clear S a; intro a S
  refine nxC ?_
  refine st_split (t := 34) S rfl ?_ ?_
  · clear S; intro h34 S
    refine stI_condT S rfl ?_
    refine wpIn_ret ?_
    refine block_ret ?_
    refine then_ret ?_
    refine then_ret ?_
    refine block_ret ?_
    refine end_none S rfl ?_
    refine ⟨⟨_, rfl⟩, Hs2, M.drop 0, .inr ⟨_, _, _, hx, ?_⟩⟩
    rcases hb with ⟨rfl, -⟩ | ⟨-, h⟩
    · first | (cases h31; done) | (cases h34; done) | (simp at h31; done) | (simp at h34; done)
    · exact h
  clear S; intro h34 S
  refine stI_condF S rfl ?_
  refine wpIn_skip ?_
  refine block_normal ?_
  refine then_normal ?_
  refine wpI_region (by kernel_rfl) (by rintro _ _ ⟨⟨_, h⟩, -⟩; cases h) ?_
  (first | refine st_y S rfl rfl rfl (y_addN S rfl rfl (by omega)) ?_ | refine st_y S rfl rfl rfl (y_int S rfl rfl rfl) ?_); clear S a; intro a S
  refine st_go [1] S rfl (by kernel_rfl) ?_; clear S a; intro a S
  refine nxC ?_
  skip
  replace M := M.drop 0
  simp only [List.eraseIdx_cons_succ, List.eraseIdx_cons_zero] at M
  have hI2 : I ((List.range (i + 1)).map (secAt S0 tail)) Hs2 := by
    rw [range_snoc]
    rcases hb with ⟨-, h⟩ | ⟨rfl, -⟩
    · exact h
    · first | (cases h31; done) | (cases h34; done) | (simp at h31; done) | (simp at h34; done)
  exact ⟨24 - (i + 1), by omega, i + 1, Hs2, hlt2, rfl, hI2, S.sub _ rfl, M⟩
theorem sectors_any (b : Nat) (tail : Int) (w : World) : Calls Tryz.prog 111 #[.pointer (some ⟨b, 0, none⟩), .int .i64 tail] w fun e w' => ∃ bf bd, e = .returned (.func (.func 153) #[] #[.pointer (some ⟨bf, 0, none⟩), .pointer (some ⟨bd, 0, none⟩)]) ∧ Mem w w' [.blk bf #[.int .i64 tail] 3, .blk bd #[.pointer (some ⟨b, 0, none⟩)] 38] := by
  have M := Mem.start w
  refine calls_enter Tryz.func111 rfl 6 rfl rfl ?_; intro a S
  refine nxD ?_
  refine st_box S M rfl rfl rfl #[_] rfl ?_; clear S M a; intro a w1 bD S M hB
  refine st_box S M rfl rfl rfl #[_] rfl ?_; clear S M a; intro a w2 bF S M hB
  refine st_go [1] S rfl (by kernel_rfl) ?_; clear S a; intro a S
  refine nxA ?_
  refine st_y S rfl rfl rfl (y_makeFunc (fs := []) (cs := [(Operand.tmp 3), (Operand.tmp 2)]) S rfl rfl) ?_; clear S a; intro a S
  refine st_go [1] S rfl (by kernel_rfl) ?_; clear S a; intro a S
  refine nxC ?_
  refine wp_ret ?_
  refine end_one S rfl (res_tmp rfl) ?_
  exact ⟨bF, bD, rfl, M⟩
def DS.new : DS := ⟨fun k => durAt (List.replicate 2176 0) k, fun _ => [], false⟩
def zDisk : List Value := bcells (List.replicate 2176 0) ++ [.map none, .bool false]
theorem zDisk_len : zDisk.length = 2178 := by unfold zDisk; rw [List.length_append, bcells_length, List.length_replicate]; rfl
theorem zDisk_put (m : Nat) : putL zDisk 2176 [.map (some m)] = dcells (List.replicate 2176 0) m false := by
  have e := putL_mid (A := bcells (List.replicate 2176 0)) (B := [Value.map none]) (C := [Value.bool false]) (us := [Value.map (some m)]) rfl
  rw [show (bcells (List.replicate 2176 0)).length = 2176 by rw [bcells_length, List.length_replicate]] at e
  unfold zDisk dcells
  simp only [List.cons_append, List.nil_append] at e
  exact e
set_option maxRecDepth 100000 in
theorem new_any (w : World) : Calls Tryz.prog 10 #[] w fun e w' => ∃ b E, e = .returned (.pointer (some ⟨b, 0, none⟩)) ∧ DkE b DS.new E ∧ Mem w w' E := by
  have M := Mem.start w
  refine calls_enter Tryz.func10 rfl 4 rfl rfl ?_; intro a S
  refine nxD ?_
  refine st_go [1] S rfl (by kernel_rfl) ?_; clear S a; intro a S
  refine nxA ?_
  refine st_makeMap (κ := Int) S M rfl rfl ?_; clear S M a; intro a w1 bM0 S M hB
  refine st_y S rfl rfl rfl (y_build (ps := [(1, (Operand.tmp 1))]) (pl := [(0, 2176), (2176, 1), (2177, 1)]) (z := zDisk) (cs := putL zDisk 2176 [.map (some bM0)]) S (by kernel_rfl) rfl (fillL_one rfl rfl rfl (by rw [zDisk_len]; decide))) ?_; clear S a; intro a S
  refine st_box S M rfl rfl rfl _ rfl ?_; clear S M a; intro a w2 bD S M hB
  refine st_go [1] S rfl (by kernel_rfl) ?_; clear S a; intro a S
  refine nxC ?_
  refine wp_ret ?_
  refine end_one S rfl (res_tmp rfl) ?_
  rw [zDisk_put] at M
  exact ⟨bD, _, rfl, ⟨⟨bD, bM0, 0, [], List.replicate 2176 0, false, []⟩, rfl, ⟨by rw [List.length_replicate], good_nil _, .nil, fun _ => rfl, fun s hs => (by cases hs)⟩, rfl, rfl⟩, M⟩
end Go.Proofs.YtndabhdepjnbcaaGreat

