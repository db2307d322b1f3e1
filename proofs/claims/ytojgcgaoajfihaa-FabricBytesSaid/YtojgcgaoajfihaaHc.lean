/-
  Package fabric: Bytes.
-/
import Derived.Test.YtojgcgaoajfihaaHb
import Derived.Test.YtojgcgaoajfihaaPack
namespace Go.Proofs.Ytojgcgaoajfihaa
open Go.RowKit Go.Sort

theorem mlB_len {l : Ml} (h : l.all = true) : (mlB l).length ≤ l.length * 60002 := by
  induction l with
  | nil => simp [mlB]
  | cons q l ih =>
    have hq := msB_len (Ml.all_cons.1 h).1
    have := ih (Ml.all_cons.1 h).2
    rw [mlB_cons]; simp only [List.length_append, leB_length, List.length_cons]; omega
theorem Ml.all_part {l : Ml} (h : l.all = true) (k : Nat) : Ml.all (l.take k) = true := by
  unfold Ml.all at *; rw [List.all_eq_true] at *; exact fun q hq => h q (List.mem_of_mem_take hq)
theorem mlB_take {l : Ml} {k : Nat} {q : Msg × List Wr} (h : l[k]? = some q) : mlB (l.take (k + 1)) = mlB (l.take k) ++ leB (msB q).length 2 ++ msB q := by
  rw [take_snoc h, mlB_snoc, List.append_assoc]
theorem bytesM_msB (q : Msg × List Wr) (va : Option Addr) (vc : Nat) (w : World) (hv : Ws 0 w.heap.size w (.slice va q.2.length vc) q.2) (hm : q.1.may q.2 = true) :
    Calls Try.prog 19 #[.agg (q.1.cells (.slice va q.2.length vc))] w fun e w' => ∃ v', e = .returned (.tuple #[v', .int .i64 0]) ∧ Fresh w w' 5 1 v' (msB q).length (bcells (msB q)) := by
  refine (bytesM_any q.1 va _ vc q.2 w hv (by have := may_x8 hm; omega)).mono ?_
  rintro e w' ⟨v', rfl, hF⟩
  rw [if_pos hm]
  rw [ifL_pos hm] at hF
  exact ⟨v', rfl, hF⟩
/-- a fabric's bytes come back, or nil and a code -/
def BytesF (ms : Ml) (w : World) (e : Ending) (w' : World) : Prop :=
  ∃ v', e = .returned (.tuple #[v', .int .i64 (if ms.ok = true then 0 else 2)]) ∧ Fresh w w' 5 1 v' (ifL (ms.ok = true) (mlB ms)).length (bcells (ifL (ms.ok = true) (mlB ms)))
theorem fits2 {n : Nat} (h : n < 65536) : fitsP (n : Int) 2 := ⟨by omega, by omega, by omega, by simp; omega⟩
theorem put2_any (v : Value) (bs : List UInt8) (n : Nat) (hn : n < 65536) (w : World) (hv : Bs 0 w.heap.size w v bs) (hb : bs.length ≤ 70000000000000) :
    Calls Try.prog 20 #[v, .int .i64 (n : Int), .int .i64 2] w fun e w' => ∃ v', e = .returned (.tuple #[v', .int .i64 0]) ∧ Fresh w w' 5 1 v' (bs ++ leB n 2).length (bcells (bs ++ leB n 2)) := by
  refine (put_any v bs n 2 w hv hb).mono ?_
  rintro e w' ⟨v', rfl, hK, h1, -⟩
  exact ⟨v', by unfold putE; rw [if_pos (fits2 hn)], h1 (fits2 hn)⟩

set_option maxHeartbeats 1000000 in
theorem bytes16_any (v : Value) (cs : List Value) (ms : Ml) (w : World) (hv : MsC cs 0 w.heap.size w v ms) : Calls Try.prog 7 #[.agg #[v]] w (BytesF ms w) := by
  have M := Mem.start w
  obtain ⟨c, hc⟩ : ∃ c, (if ms.ok = true then (0 : Int) else 2) = c := ⟨_, rfl⟩
  have hc' := okC hc
  refine calls_enter Try.func7 rfl 40 rfl rfl ?_; intro a S
  refine nxD ?_
  refine st_box S M rfl rfl rfl #[_] rfl ?_; clear S M a; intro a w1 bF S M hB
  refine st_go [1, 1] S rfl (by kernel_rfl) ?_; clear S a; intro a S
  refine nxC ?_
  refine wp_seq ?_
  refine nxD ?_
  refine st_y S rfl rfl rfl (y_loadAgg (cs := [_]) S (by kernel_rfl) rfl rfl (M.cellsAt (k := 1) 0 rfl rfl)) ?_; clear S a; intro a S
  refine st_call (xs := [(Operand.tmp 9)]) S (enters_of Try.func13 (by decide) rfl) rfl rfl rfl (check16_c _ cs ms c hc _ (M.msW hv)) ?_
  rintro _ w2 ⟨rfl, hK⟩; refine ⟨_, rfl, ?_⟩; clear S a; intro a S; replace M := M.grow hK
  refine st_go [1] S rfl (by kernel_rfl) ?_; clear S a; intro a S
  refine nxC ?_
  refine st_if (t := 11) S rfl ?_ ?_
  · clear S; intro h11 S
    refine st_condT S rfl ?_
    refine nxD ?_
    refine st_go [1, 1] S rfl (by kernel_rfl) ?_; clear S a; intro a S
    refine nxC ?_
    refine wp_ret ?_
    refine then_ret ?_
    refine end_two S rfl (res_tmp rfl) (res_tmp rfl) ?_
    rcases hc' with ⟨h1, h2⟩ | ⟨h1, h2⟩
    · exact absurd h2 (by simpa using h11)
    · exact ⟨_, by rw [if_neg (by simp [h1])], by rw [ifL_neg (by simp [h1])]; exact M.freshNil _ _⟩
  clear S; intro h11 S
  refine st_condF S rfl ?_
  refine wp_skip ?_
  refine then_normal ?_
  refine wp_seq ?_
  have hok : ms.ok = true := by
    rcases hc' with ⟨h1, h2⟩ | ⟨h1, h2⟩
    · exact h1
    · exfalso; simp [h2] at h11
  obtain ⟨hlen, hall⟩ := Ml.ok_iff.1 hok
  refine wp_region_lit ?_
  refine st_go [1] S rfl (by kernel_rfl) ?_; clear S a; intro a S
  refine nxC ?_
  refine wp_seq ?_
  refine nxD ?_
  refine st_run [1, 1] S M rfl (by kernel_rfl) ?_; clear S a; intro a S
  refine st_y S rfl rfl rfl (y_lenR (E := 42) S rfl ((M.ms hv).1) (by kernel_rfl)) ?_; clear S a; intro a S
  refine st_go [1] S rfl (by kernel_rfl) ?_; clear S a; intro a S
  refine nxC ?_
  refine wp_block ?_
  refine wp_loop_g (fun m a w' => ∃ (k : Nat), k ≤ ms.length ∧ m = ms.length - k ∧ ∃ u lo hi, Sees 40 a [(4, u), (13, v), (14, .int .i64 (ms.length : Int)), (15, .int .i64 (k : Int))] ∧ Mem w w' [rowE lo hi 5 1 u (mlB (ms.take k)).length (bcells (mlB (ms.take k)))]) (ms.length) ?_ ?_
  · skip
    replace M := (M.drop 0).rowNil 5 1
    exact ⟨0, Nat.zero_le _, rfl, _, _, _, S.sub _ rfl, M⟩
  clear S M a; intro m a wl
  rintro ⟨k, hk, rfl, u, lo, hi, S, M⟩
  have hbl := mlB_len (Ml.all_part hall k)
  rw [List.length_take, Nat.min_eq_left hk] at hbl
  refine nxD ?_
  refine st_go [1] S rfl (by kernel_rfl) ?_; clear S a; intro a S
  refine nxC ?_
  refine wp_seq ?_
  refine st_fi (t := 16) S rfl ?_ ?_
  · clear S; intro h16 S
    refine st_condF S rfl ?_
    refine wp_exit ?_
    refine then_exit ?_
    refine then_exit ?_
    refine block_hit ?_
    refine nxE ?_
    refine st_go [1, 1, 1] S rfl (by kernel_rfl) ?_; clear S a; intro a S
    refine nxC ?_
    refine wp_ret ?_
    refine end_two S rfl (res_tmp rfl) (res_tmp rfl) ?_
    obtain rfl : k = ms.length := by omega
    rw [List.take_length] at M
    exact ⟨_, by rw [if_pos hok], by rw [ifL_pos hok]; exact M.fresh 0 rfl⟩
  clear S; intro h16 S
  refine st_condT S rfl ?_
  refine wp_skip ?_
  refine then_normal ?_
  refine wp_seq ?_
  refine wp_block ?_
  refine nxD ?_
  obtain ⟨q, hq⟩ : ∃ q, ms[k]? = some q := ⟨_, List.getElem?_eq_getElem (by omega)⟩
  obtain ⟨ad, cp, hrow, hws⟩ := hv.sl hq
  have hm := Ml.all_get hall hq
  have hql := msB_len hm
  refine st_y S rfl rfl rfl (y_indexR (e := 42) (sz := 24) S (by kernel_rfl) rfl ((M.ms hv).1) rfl (by first | omega | (simp; done) | (simp; omega))) ?_; clear S a; intro a S
  try simp only [Int.toNat_natCast, Nat.mul_one, Nat.zero_add] at S
  refine st_y S rfl rfl rfl (y_loadAgg S (by kernel_rfl) rfl rfl ((M.ms hv).1.at_.row (i := k) hrow rfl)) ?_; clear S a; intro a S
  refine st_alloc S M rfl rfl #[.int .i8 0, .int .i64 0, .int .i64 0, .int .i64 0, .int .i64 0, .int .i64 0, .int .i64 0, .int .i64 0, .int .i64 0, .int .i8 0, .int .i64 0, .int .u8 0, .int .u8 0, .int .u8 0, .int .u8 0, .int .u8 0, .int .u8 0, .int .u8 0, .int .u8 0, .int .i64 0, .bool false, .int .i64 0, .int .i64 0, .slice none 0 0] (by kernel_rfl) ?_; clear S M a; intro a w3 bB S M hB
  refine st_store (sz := 24) (us := [_, _, _, _, _, _, _, _, _, _, _, _, _, _, _, _, _, _, _, _, _, _, _, _]) S M 0 rfl (by kernel_rfl) rfl rfl rfl rfl rfl rfl (by first | decide | (simp; done) | (simp; omega)) ?_; clear M; intro w4 M
  simp only [putL, List.set_cons_zero, List.set_cons_succ, Nat.reduceAdd] at M
  refine nxA ?_
  refine st_y S rfl rfl rfl (y_loadAgg (cs := [_, _, _, _, _, _, _, _, _, _, _, _, _, _, _, _, _, _, _, _, _, _, _, _]) S (by kernel_rfl) rfl rfl (M.cellsAt (k := 24) 0 rfl rfl)) ?_; clear S a; intro a S
  refine st_call (xs := [(Operand.tmp 20)]) S (enters_of Try.func19 (by decide) rfl) rfl rfl rfl (bytesM_msB q ad cp _ (M.argW hws) hm) ?_
  rintro _ w5 ⟨v1, rfl, hF⟩; refine ⟨_, rfl, ?_⟩; clear S a; intro a S
  obtain ⟨lo1, hi1, -, M⟩ := M.pushFresh hF
  refine st_go [1, 1, 1, 1, 1] S rfl (by kernel_rfl) ?_; clear S a; intro a S
  refine nxC ?_
  refine wp_seq ?_
  refine nxD ?_
  refine st_go [1, 1] S rfl (by kernel_rfl) ?_; clear S a; intro a S
  refine nxC ?_
  refine st_if (t := 25) S rfl ?_ ?_
  · clear S; intro h25 S
    simp at h25
  clear S; intro h25 S
  refine st_condF S rfl ?_
  refine wp_skip ?_
  refine then_normal ?_
  refine wp_seq ?_
  refine nxD ?_
  refine st_go [1, 1] S rfl (by kernel_rfl) ?_; clear S a; intro a S
  refine st_y S rfl rfl rfl (y_lenR (E := 5) S rfl (M.readAll 0 rfl (by unfold maxLen; omega)) (by kernel_rfl)) ?_; clear S a; intro a S
  refine st_call (xs := [(Operand.tmp 27), (Operand.tmp 29), (Operand.const (Value.int IntKind.i64 2))]) S (enters_of Try.func20 (by decide) rfl) rfl rfl rfl (put2_any _ _ (msB q).length (by omega) _ (M.readAll 2 rfl (by unfold maxLen; omega)) (by omega)) ?_
  rintro _ w6 ⟨v2, rfl, hF⟩; refine ⟨_, rfl, ?_⟩; clear S a; intro a S
  obtain ⟨lo2, hi2, -, M⟩ := M.pushFresh hF
  refine st_go [1, 1, 1, 1, 1] S rfl (by kernel_rfl) ?_; clear S a; intro a S
  replace S := S.sub [(13, _), (14, _), (15, _), (16, _), (6, _), (7, _), (25, _), (4, _), (8, _)] rfl
  refine nxA ?_
  refine st_go [1, 1] S rfl (by kernel_rfl) ?_; clear S a; intro a S
  refine nxC ?_
  refine st_if (t := 34) S rfl ?_ ?_
  · clear S; intro h34 S
    simp at h34
  clear S; intro h34 S
  refine st_condF S rfl ?_
  refine wp_skip ?_
  refine nxF ?_
  refine st_go [1, 1] S rfl (by kernel_rfl) ?_; clear S a; intro a S
  refine st_append (e := 5) (sz := 1) (by_ := 1) (zc := [.int .u8 0]) S M 0 rfl rfl (by kernel_rfl) rfl (by decide) rfl rfl rfl (M.readAll 1 rfl (by unfold maxLen; omega)) (allOne_bcells _) (by (try simp only [List.length_append, leB_length] at *); omega) (by unfold maxLen; (try simp only [List.length_append, leB_length] at *); omega) ?_; clear S M a; intro a w7 vA loA hiA S M
  refine st_go [1] S rfl (by kernel_rfl) ?_; clear S a; intro a S
  refine wpList_nil ?_
  refine block_normal ?_
  refine nxF ?_
  (first | refine st_y S rfl rfl rfl (y_addN S rfl rfl (by (try simp only [List.length_append, leB_length] at *); omega)) ?_ | refine st_y S rfl rfl rfl (y_int S rfl rfl rfl) ?_); clear S a; intro a S
  refine st_go [1] S rfl (by kernel_rfl) ?_; clear S a; intro a S
  refine nxC ?_
  replace M := M.drop 1
  simp only [List.eraseIdx_cons_succ, List.eraseIdx_cons_zero] at M
  replace M := M.drop 1
  simp only [List.eraseIdx_cons_succ, List.eraseIdx_cons_zero] at M
  replace M := M.drop 1
  simp only [List.eraseIdx_cons_succ, List.eraseIdx_cons_zero] at M
  refine ⟨ms.length - (k + 1), by omega, k + 1, by omega, rfl, _, loA, hiA, S.sub _ rfl, ?_⟩
  rw [mlB_take hq, bcells_append, List.length_append (bs := msB q)]; exact M

end Go.Proofs.Ytojgcgaoajfihaa
