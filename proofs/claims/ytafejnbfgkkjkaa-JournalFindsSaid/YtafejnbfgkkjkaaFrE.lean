/-
  Package frame: number, Bytes.
-/
import Derived.Test.YtafejnbfgkkjkaaFrC
import Derived.Test.YtafejnbfgkkjkaaPack
import Derived.Test.YtafejnbfgkkjkaaGS
namespace Go.Proofs.Ytafejnbfgkkjkaa
open Go.RowKit Go.Sort

theorem number_any (v : Value) (bs : List UInt8) (at_ k : Int) (w : World) (hv : Bs 0 w.heap.size w v bs) (hk : -9223372036854775808 ≤ k) : Calls Try.prog 56 #[v, .int .i64 at_, .int .i64 k] w fun e w' => e = .returned (.int .i64 (getN bs at_ k)) ∧ Below w.heap.size w w' := by
  have M := Mem.start w
  refine calls_enter Try.func56 rfl 17 rfl rfl ?_; intro a S
  refine nxD ?_
  refine st_go [1] S rfl (by kernel_rfl) ?_; clear S a; intro a S
  refine nxA ?_
  refine st_go [1, 1, 1] S rfl (by kernel_rfl) ?_; clear S a; intro a S
  refine st_call (xs := [(Operand.tmp 10), (Operand.tmp 11), (Operand.tmp 12)]) S (enters_of Try.func63 (by decide) rfl) rfl rfl rfl (get_any v bs at_ k _ (M.argW hv) hk) ?_
  rintro _ w1 ⟨rfl, hK⟩; refine ⟨_, rfl, ?_⟩; clear S a; intro a S; replace M := M.grow hK
  refine st_go [1, 1, 1, 1, 1] S rfl (by kernel_rfl) ?_; clear S a; intro a S
  refine nxA ?_
  refine st_go [1, 1] S rfl (by kernel_rfl) ?_; clear S a; intro a S
  refine nxC ?_
  refine wp_ret ?_
  refine end_one S rfl (res_tmp rfl) ?_
  exact ⟨rfl, M.below⟩

/-- the five numbers of a frame, and how many bytes each takes -/
def fiveN (f : Fr) (l : Nat) : List (Int × Nat) := [(f.seq, 6), (f.inc, 3), (16 * f.part + f.of, 1), ((l : Int), 1), ((f.mark.toNat : Int), 4)]
def five (f : Fr) (l : Nat) (k : Nat) : List UInt8 := ((fiveN f l).take k).flatMap fun x => leB x.1 x.2
/-- a frame's load, filled up -/
def padL (ld : List UInt8) : List UInt8 := ld ++ List.replicate (45 - ld.length) 0
/-- a frame's sector -/
def bytesF (f : Fr) (ld : List UInt8) : List UInt8 := sealB (five f ld.length 5 ++ padL ld)
def arr5 (f : Fr) (l : Nat) : List Value := [.int .i64 f.seq, .int .i64 6, .int .i64 f.inc, .int .i64 3, .int .i64 (16 * f.part + f.of), .int .i64 1, .int .i64 (l : Int), .int .i64 1, .int .i64 (f.mark.toNat : Int), .int .i64 4]

def BytesPost (f : Fr) (ld : List UInt8) (w : World) (e : Ending) (w' : World) : Prop :=
  ∃ v', e = .returned (.tuple #[v', .int .i64 (if f.may ld.length then 0 else 2)]) ∧ Below w.heap.size w w' ∧ (f.may ld.length = true → Fresh w w' 5 1 v' (bytesF f ld).length (bcells (bytesF f ld))) ∧ (f.may ld.length = false → v' = .slice none 0 0)

theorem pad_cells (ld : List UInt8) : (List.replicate 45 (Value.int .u8 0)).take 0 ++ bcells ld ++ (List.replicate 45 (Value.int .u8 0)).drop (0 + ld.length) = bcells (padL ld) := by
  rw [List.take_zero, List.nil_append, Nat.zero_add, List.drop_replicate, padL, bcells_append]
  congr 1
  unfold bcells; rw [List.map_replicate]; rfl
theorem padL_length {ld : List UInt8} (h : ld.length ≤ 45) : (padL ld).length = 45 := by rw [padL, List.length_append, List.length_replicate]; omega
theorem five_elem (f : Fr) (l k : Nat) (h : k < 5) : ∃ x, (fiveN f l)[k]? = some x ∧ cutL (arr5 f l) (k * 2) 2 = some [.int .i64 x.1, .int .i64 (x.2 : Int)] := by
  match k, h with
  | 0, _ => exact ⟨_, rfl, rfl⟩
  | 1, _ => exact ⟨_, rfl, rfl⟩
  | 2, _ => exact ⟨_, rfl, rfl⟩
  | 3, _ => exact ⟨_, rfl, rfl⟩
  | 4, _ => exact ⟨_, rfl, rfl⟩
theorem five_fits {f : Fr} {l k : Nat} {x : Int × Nat} (hm : f.may l = true) (h : (fiveN f l)[k]? = some x) : fitsP x.1 (x.2 : Int) := by
  simp only [Fr.may, decide_eq_true_eq] at hm
  have hmk := f.mark.isLt
  match k, h with
  | 0, h => simp [fiveN] at h; subst h; simp [fitsP]; omega
  | 1, h => simp [fiveN] at h; subst h; simp [fitsP]; omega
  | 2, h => simp [fiveN] at h; subst h; simp [fitsP]; omega
  | 3, h => simp [fiveN] at h; subst h; simp [fitsP]; omega
  | 4, h => simp [fiveN] at h; subst h; simp [fitsP]; omega
  | k + 5, h => simp [fiveN] at h
theorem five_succ {f : Fr} {l k : Nat} {x : Int × Nat} (h : (fiveN f l)[k]? = some x) : five f l (k + 1) = five f l k ++ leB x.1 x.2 := by
  obtain ⟨hlt, he⟩ := List.getElem?_eq_some_iff.1 h
  unfold five
  rw [List.take_succ_eq_append_getElem hlt, List.flatMap_append, he]; simp
theorem five_len (f : Fr) (l k : Nat) : (five f l k).length ≤ 15 := by
  unfold five
  match k with
  | 0 => simp
  | 1 => simp [fiveN, leB_length]
  | 2 => simp [fiveN, leB_length]
  | 3 => simp [fiveN, leB_length]
  | 4 => simp [fiveN, leB_length]
  | k + 5 => simp [fiveN, leB_length]

set_option maxHeartbeats 1000000 in
theorem bytes_any (f : Fr) (lv : Value) (ld : List UInt8) (w : World) (hv : Bs 0 w.heap.size w lv ld) : Calls Try.prog 36 #[.agg (f.cells lv).toArray] w (BytesPost f ld w) := by
  obtain ⟨ad, cap, rfl, -, -⟩ := hv.form
  have M := Mem.start w
  refine calls_enter Try.func36 rfl 59 rfl rfl ?_; intro a S
  refine nxD ?_
  refine st_box S M rfl rfl rfl #[_, _, _, _, _, _] rfl ?_; clear S M a; intro a w1 b1 S M hB
  refine st_go [1, 1] S rfl (by kernel_rfl) ?_; clear S a; intro a S
  refine nxC ?_
  refine wp_seq ?_
  refine nxD ?_
  refine st_y S rfl rfl rfl (y_loadAgg (cs := [_, _, _, _, _, _]) S (by kernel_rfl) rfl rfl (M.cellsAt (k := 6) 0 rfl rfl)) ?_; clear S a; intro a S
  refine st_call (xs := [(Operand.tmp 11)]) S (enters_of Try.func49 (by decide) rfl) rfl rfl rfl (mayF_any f ad ld.length cap _) ?_
  rintro _ w2 ⟨rfl, hK⟩; refine ⟨_, rfl, ?_⟩; clear S a; intro a S; replace M := M.grow hK
  refine st_go [1] S rfl (by kernel_rfl) ?_; clear S a; intro a S
  refine nxC ?_
  refine st_split (t := 13) S rfl ?_ ?_
  · clear S; intro h13 S
    refine st_condT S rfl ?_
    refine nxD ?_
    refine st_go [1, 1] S rfl (by kernel_rfl) ?_; clear S a; intro a S
    refine nxC ?_
    refine wp_ret ?_
    refine then_ret ?_
    refine end_two S rfl (res_tmp rfl) (res_tmp rfl) ?_
    have hm : f.may ld.length = false := by simpa using h13
    exact ⟨_, by rw [hm]; rfl, M.below, fun h => absurd h (by simp [hm]), fun _ => rfl⟩
  clear S; intro h13 S
  refine st_condF S rfl ?_
  refine wp_skip ?_
  refine nxE ?_
  have hm : f.may ld.length = true := by simpa using h13
  have hm' := hm
  simp only [Fr.may, decide_eq_true_eq] at hm'
  refine st_alloc S M rfl rfl #[.int .u8 0, .int .u8 0, .int .u8 0, .int .u8 0, .int .u8 0, .int .u8 0, .int .u8 0, .int .u8 0, .int .u8 0, .int .u8 0, .int .u8 0, .int .u8 0, .int .u8 0, .int .u8 0, .int .u8 0, .int .u8 0, .int .u8 0, .int .u8 0, .int .u8 0, .int .u8 0, .int .u8 0, .int .u8 0, .int .u8 0, .int .u8 0, .int .u8 0, .int .u8 0, .int .u8 0, .int .u8 0, .int .u8 0, .int .u8 0, .int .u8 0, .int .u8 0, .int .u8 0, .int .u8 0, .int .u8 0, .int .u8 0, .int .u8 0, .int .u8 0, .int .u8 0, .int .u8 0, .int .u8 0, .int .u8 0, .int .u8 0, .int .u8 0, .int .u8 0] (by kernel_rfl) ?_; clear S M a; intro a w3 b2 S M hB
  refine nxC ?_
  refine wp_seq ?_
  refine wp_regionK [3] #[false, false, false, false, false] rfl M (by kernel_rfl) ?_; clear M; intro w4 M
  refine k_pure (listed' := #[true, false, false, false, false]) 0 S rfl rfl rfl rfl (by kernel_rfl) rfl (fun _ d _ _ _ h => by cases d <;> exact h) (fun w => y_sliceA (m := 45) (sz := 1) S (by kernel_rfl) rfl) ?_; clear S a; intro a S
  refine k_pure (listed' := #[true, true, false, false, false]) 1 S rfl rfl rfl rfl (by kernel_rfl) rfl (fun _ d _ _ _ h => by cases d <;> exact h) (fun w => y_fieldAddr (k := 5) S (by kernel_rfl) rfl) ?_; clear S a; intro a S
  refine k_read (listed' := #[true, true, true, false, false]) 2 S rfl rfl rfl rfl (by kernel_rfl) rfl (fun _ d _ _ _ h => by cases d <;> exact h) (fun w hW => have M := M.grow hW; y_load S (by kernel_rfl) rfl (M.cell 1 rfl rfl)) ?_; clear S a; intro a S
  refine k_one (listed' := #[true, true, true, true, false]) 3 rfl (by kernel_rfl) rfl ?_
  refine st_copy (e := 5) (us := bcells ld) S M 0 rfl rfl (by kernel_rfl) rfl rfl rfl (M.arg hv) (List.take_of_length_le (by simp [bcells]; omega)) (allOne_bcells _) (by simp [bcells]; omega) ?_; clear S M a; intro a w5 S M
  simp only [List.set_cons_zero, List.set_cons_succ] at M
  refine wpList_nil ?_; refine then_normal ?_; refine ⟨fun h => absurd h (by decide), ?_⟩
  refine k_pure (listed' := #[true, true, true, true, true]) 4 S rfl rfl rfl rfl (by kernel_rfl) rfl (fun _ d _ _ _ h => by cases d <;> exact h) (fun w => y_assign S rfl) ?_; clear S a; intro a S
  refine k_end (by kernel_rfl) ?_
  refine nxE ?_
  rw [bcells_length] at S M
  have M0 := M
  replace M : Mem w w5 [.blk b2 (bcells (padL ld)).toArray 101, .blk b1 (f.cells (.slice ad ld.length cap)).toArray 59] := by rw [← pad_cells]; exact M0
  clear M0
  refine st_make (e := 5) (sz := 1) (by_ := 1) (zc := [.int .u8 0]) S M rfl rfl (by kernel_rfl) rfl rfl (by omega) (by omega) (by omega) (by omega) ?_; clear S M a; intro a w6 b3 S M hB
  try simp only [Int.toNat_natCast, Int.reduceToNat, Nat.reduceMul] at S M
  refine st_go [1] S rfl (by kernel_rfl) ?_; clear S a; intro a S
  refine nxC ?_
  refine wp_seq ?_
  refine nxD ?_
  replace M := M.toRow (sz := 1) (m := 0) (cap := 60) (xs := []) 0 rfl rfl (by omega) (by unfold maxLen; omega) (by simp [madeL_length]) (by simp)
  have hmk := f.mark.isLt
  refine st_y S rfl rfl rfl (y_fieldAddr (k := 0) S (by kernel_rfl) rfl) ?_; clear S a; intro a S
  refine st_run [3] S M rfl (by kernel_rfl) ?_; clear S a; intro a S
  refine st_y S rfl rfl rfl (y_build (ps := [(0, (Operand.tmp 20)), (1, (Operand.const (Value.int IntKind.i64 6)))]) (pl := [(0, 1), (1, 1)]) (z := [.int .i64 0, .int .i64 0]) (cs := [_, _]) S (by kernel_rfl) rfl (rfl)) ?_; clear S a; intro a S
  refine st_run [2, 3] S M rfl (by kernel_rfl) ?_; clear S a; intro a S
  refine st_y S rfl rfl rfl (y_build (ps := [(0, (Operand.tmp 23)), (1, (Operand.const (Value.int IntKind.i64 3)))]) (pl := [(0, 1), (1, 1)]) (z := [.int .i64 0, .int .i64 0]) (cs := [_, _]) S (by kernel_rfl) rfl (rfl)) ?_; clear S a; intro a S
  refine st_run [3, 3] S M rfl (by kernel_rfl) ?_; clear S a; intro a S
  (first | refine st_y S rfl rfl rfl (y_mulN S rfl rfl (by omega)) ?_ | refine st_y S rfl rfl rfl (y_int S rfl rfl rfl) ?_); clear S a; intro a S
  refine st_run [4, 3] S M rfl (by kernel_rfl) ?_; clear S a; intro a S
  (first | refine st_y S rfl rfl rfl (y_addN S rfl rfl (by omega)) ?_ | refine st_y S rfl rfl rfl (y_int S rfl rfl rfl) ?_); clear S a; intro a S
  refine st_y S rfl rfl rfl (y_build (ps := [(0, (Operand.tmp 30)), (1, (Operand.const (Value.int IntKind.i64 1)))]) (pl := [(0, 1), (1, 1)]) (z := [.int .i64 0, .int .i64 0]) (cs := [_, _]) S (by kernel_rfl) rfl (rfl)) ?_; clear S a; intro a S
  refine st_go [1] S rfl (by kernel_rfl) ?_; clear S a; intro a S
  refine st_y S rfl rfl rfl (y_build (ps := [(0, (Operand.tmp 32)), (1, (Operand.const (Value.int IntKind.i64 1)))]) (pl := [(0, 1), (1, 1)]) (z := [.int .i64 0, .int .i64 0]) (cs := [_, _]) S (by kernel_rfl) rfl (rfl)) ?_; clear S a; intro a S
  refine st_run [5, 3] S M rfl (by kernel_rfl) ?_; clear S a; intro a S
  (first | refine st_y S rfl rfl rfl (y_to64 S rfl (by kernel_rfl) (by kernel_rfl) (by omega)) ?_ | refine st_y S rfl rfl rfl (y_conv (k' := .i64) S rfl (by kernel_rfl) (by kernel_rfl)) ?_); clear S a; intro a S
  refine st_y S rfl rfl rfl (y_build (ps := [(0, (Operand.tmp 36)), (1, (Operand.const (Value.int IntKind.i64 4)))]) (pl := [(0, 1), (1, 1)]) (z := [.int .i64 0, .int .i64 0]) (cs := [_, _]) S (by kernel_rfl) rfl (rfl)) ?_; clear S a; intro a S
  refine st_y S rfl rfl rfl (y_buildA (ps := [(0, (Operand.tmp 21)), (1, (Operand.tmp 24)), (2, (Operand.tmp 31)), (3, (Operand.tmp 33)), (4, (Operand.tmp 37))]) (sz := 2) (z := [.int .i64 0, .int .i64 0, .int .i64 0, .int .i64 0, .int .i64 0, .int .i64 0, .int .i64 0, .int .i64 0, .int .i64 0, .int .i64 0]) (cs := [_, _, _, _, _, _, _, _, _, _]) S (by kernel_rfl) rfl rfl) ?_; clear S a; intro a S
  refine st_go [1] S rfl (by kernel_rfl) ?_; clear S a; intro a S
  replace S := S.sub [(0, _), (1, _), (2, _), (3, _), (13, _), (4, _), (5, _), (6, _), (38, _), (39, _)] rfl
  refine nxC ?_
  refine wp_block ?_
  refine wp_loop_g (fun m a w' => ∃ (k lo hi : Nat) (v' : Value), k ≤ 5 ∧ m = 5 - k ∧ Sees 59 a [(4, .pointer (some ⟨b2, 0, none⟩)), (6, v'), (38, .agg (arr5 f ld.length).toArray), (39, .int .i64 (k : Int))] ∧ Mem w w' [rowE lo hi 5 1 v' (five f ld.length k).length (bcells (five f ld.length k)), .blk b2 (bcells (padL ld)).toArray 101]) (5) ?_ ?_
  · skip
    exact ⟨0, _, _, _, Nat.zero_le _, rfl, S.sub _ rfl, M.drop 2⟩
  clear S M a; intro m a wl
  rintro ⟨k, lo, hi, v', hk, rfl, S, M⟩
  refine nxD ?_
  refine st_go [1] S rfl (by kernel_rfl) ?_; clear S a; intro a S
  refine nxC ?_
  refine wp_seq ?_
  refine st_fi (t := 40) S rfl ?_ ?_
  · clear S; intro h40 S
    refine st_condF S rfl ?_
    refine wp_exit ?_
    refine then_exit ?_
    refine then_exit ?_
    refine block_hit ?_
    refine nxE ?_
    obtain rfl : k = 5 := by omega
    have hlen15 := five_len f ld.length 5
    refine st_y S rfl rfl rfl (y_move S rfl) ?_; clear S a; intro a S
    refine st_y S rfl rfl rfl (y_sliceA (m := 45) (sz := 1) S (by kernel_rfl) rfl) ?_; clear S a; intro a S
    have hp : Rd b2 (b2 + 1) wl 1 (.slice (some ⟨b2, 0, none⟩) 45 45) (padL ld).length (bcells (padL ld)) := by
      rw [padL_length (by omega)]
      exact Rd.of_blk (M.blk 1 rfl) (by rw [bcells_length, padL_length (by omega)]) (Nat.le_refl _) (by unfold maxLen; omega) (List.take_of_length_le (by simp [bcells_length, padL_length (show ld.length ≤ 45 by omega)]))
    have hpl := padL_length (show ld.length ≤ 45 by omega)
    refine st_append (e := 5) (sz := 1) (by_ := 1) (zc := [.int .u8 0]) S M 0 rfl rfl (by kernel_rfl) rfl (by decide) rfl rfl rfl (hp) (allOne_bcells _) (by omega) (by unfold maxLen; omega) ?_; clear S M a; intro a w10 vA loA hiA S M
    refine st_call (xs := [(Operand.tmp 57)]) S (enters_of Try.func51 (by decide) rfl) rfl rfl rfl (seal_any vA (five f ld.length 5 ++ padL ld) _ (by have := (M.readRow 0 rfl (by unfold maxLen; omega)).wide (Nat.zero_le _) (M.fits _ (List.mem_of_getElem? (show _[0]? = _ from rfl))).2; unfold Bs; rw [bcells_append, List.length_append]; exact this) (by rw [List.length_append]; omega)) ?_
    rintro _ w11 ⟨v3, rfl, hF⟩; refine ⟨_, rfl, ?_⟩; clear S a; intro a S
    obtain ⟨lo3, hi3, -, M⟩ := M.pushFresh hF
    refine st_go [1, 1] S rfl (by kernel_rfl) ?_; clear S a; intro a S
    refine nxC ?_
    refine wp_ret ?_
    refine end_two S rfl (res_tmp rfl) (res_tmp rfl) ?_
    exact ⟨_, by rw [hm]; rfl, M.below, fun _ => M.fresh 0 rfl, fun h => absurd hm (by simp [h])⟩
  clear S; intro h40 S
  refine st_condT S rfl ?_
  refine wp_skip ?_
  refine then_normal ?_
  refine wp_seq ?_
  refine wp_block ?_
  refine nxD ?_
  have hk5 : k < 5 := by omega
  obtain ⟨⟨xn, xk⟩, hx, hxc⟩ := five_elem f ld.length k hk5
  have hfit := five_fits hm hx
  have hlen15 := five_len f ld.length k
  refine st_y S rfl rfl rfl (y_indexV (m := 5) (sz := 2) (k := 2) (es := [_, _]) S (by kernel_rfl) (fun e he => by cases he.symm.trans (show _ = some (.array 5 102) by kernel_rfl); kernel_rfl) rfl rfl (by first | omega | (simp; done) | (simp; omega)) (hxc)) ?_; clear S a; intro a S
  refine st_alloc S M rfl rfl #[.int .i64 0, .int .i64 0] (by kernel_rfl) ?_; clear S M a; intro a w7 b4 S M hB
  refine st_store (sz := 2) (us := [_, _]) S M 0 rfl (by kernel_rfl) rfl rfl rfl rfl rfl rfl (by first | decide | (simp; done) | (simp; omega)) ?_; clear M; intro w8 M
  simp only [putL, List.set_cons_zero, List.set_cons_succ, Nat.reduceAdd] at M
  refine nxA ?_
  refine st_run [1, 1, 1, 2, 1] S M rfl (by kernel_rfl) ?_; clear S a; intro a S
  refine st_call (xs := [(Operand.tmp 43), (Operand.tmp 45), (Operand.tmp 47)]) S (enters_of Try.func50 (by decide) rfl) rfl rfl rfl (put_any v' (five f ld.length k) xn (xk : Int) _ ((M.readRow 1 rfl (by unfold maxLen; omega)).wide (Nat.zero_le _) (M.fits _ (List.mem_of_getElem? (show _[1]? = _ from rfl))).2) (by omega)) ?_
  rintro _ w9 ⟨v2, rfl, hK, hF, -⟩; refine ⟨_, rfl, ?_⟩; clear S a; intro a S
  replace hF := hF hfit
  obtain ⟨lo2, hi2, -, M⟩ := M.pushFresh hF
  rw [show putE xn (xk : Int) = 0 from by unfold putE; rw [if_pos hfit]] at S
  refine st_go [1, 1, 1, 1, 1] S rfl (by kernel_rfl) ?_; clear S a; intro a S
  refine nxC ?_
  refine wp_seq ?_
  refine nxD ?_
  refine st_go [1, 1] S rfl (by kernel_rfl) ?_; clear S a; intro a S
  refine nxC ?_
  refine st_if (t := 52) S rfl ?_ ?_
  · clear S; intro h52 S
    exact absurd rfl h52
  clear S; intro h52 S
  refine st_condF S rfl ?_
  refine wp_skip ?_
  refine nxF ?_
  refine st_go [1, 1] S rfl (by kernel_rfl) ?_; clear S a; intro a S
  refine wpList_nil ?_
  refine block_normal ?_
  refine nxF ?_
  (first | refine st_y S rfl rfl rfl (y_addN S rfl rfl (by omega)) ?_ | refine st_y S rfl rfl rfl (y_int S rfl rfl rfl) ?_); clear S a; intro a S
  refine st_go [1] S rfl (by kernel_rfl) ?_; clear S a; intro a S
  replace S := S.sub [(4, _), (38, _), (40, _), (8, _), (9, _), (10, _), (52, _), (6, _), (39, _)] rfl
  refine nxC ?_
  replace M := M.drop 1
  simp only [List.eraseIdx_cons_succ, List.eraseIdx_cons_zero] at M
  replace M := M.drop 1
  simp only [List.eraseIdx_cons_succ, List.eraseIdx_cons_zero] at M
  refine ⟨5 - (k + 1), by omega, k + 1, lo2, hi2, v2, by omega, rfl, S.sub _ rfl, ?_⟩
  rw [five_succ hx]
  rw [Int.toNat_natCast] at M
  exact M

end Go.Proofs.Ytafejnbfgkkjkaa
