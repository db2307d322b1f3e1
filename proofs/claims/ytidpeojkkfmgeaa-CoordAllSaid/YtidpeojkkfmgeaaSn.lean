/-
  The document's layer 7: names, writes, stripes that may be.
-/
import Derived.Test.YtidpeojkkfmgeaaRa
namespace Go.Proofs.Ytidpeojkkfmgeaa
open Go.RowKit Go.Sort

theorem rNamed_any (n : Nm) (w : World) : Calls Try.prog 30 #[.agg n.cells] w fun e w' => e = .returned (.bool n.named) ∧ Below w.heap.size w w' := by
  have M := Mem.start w
  refine calls_enter Try.func30 rfl 31 rfl rfl ?_; intro a S
  refine nxD ?_
  refine st_box S M rfl rfl rfl #[_, _, _] rfl ?_; clear S M a; intro a w1 b1 S M hB
  refine st_go [1] S rfl (by kernel_rfl) ?_; clear S a; intro a S
  refine nxA ?_
  refine st_run [1, 1, 1, 1] S M rfl (by kernel_rfl) ?_; clear S a; intro a S
  refine st_fi (t := 6) S rfl ?_ ?_
  · clear S; intro h6 S
    refine st_go [0, 0, 0, 1, 1, 0, 0, 0, 1, 1, 0, 0, 0, 1, 1, 0, 0, 0, 1, 1, 0, 0, 0, 1, 1] S rfl (by kernel_rfl) ?_; clear S a; intro a S
    replace S := S.sub [(0, _), (1, _), (2, _)] rfl
    refine nxC ?_
    refine wp_ret ?_
    refine end_one S rfl (res_tmp rfl) ?_
    refine ⟨ret_bool ?_, M.below⟩; clear S M; rw [Bool.eq_iff_iff, named_iff]; (first | (simp; done) | (simp; omega) | omega)
  clear S; intro h6 S
  refine st_run [1, 1, 1, 1, 1] S M rfl (by kernel_rfl) ?_; clear S a; intro a S
  refine st_fi (t := 11) S rfl ?_ ?_
  · clear S; intro h11 S
    refine st_go [0, 0, 0, 1, 1, 0, 0, 0, 1, 1, 0, 0, 0, 1, 1, 0, 0, 0, 1, 1] S rfl (by kernel_rfl) ?_; clear S a; intro a S
    replace S := S.sub [(0, _), (1, _), (2, _)] rfl
    refine nxC ?_
    refine wp_ret ?_
    refine end_one S rfl (res_tmp rfl) ?_
    refine ⟨ret_bool ?_, M.below⟩; clear S M; rw [Bool.eq_iff_iff, named_iff]; (first | (simp; done) | (simp; omega) | omega)
  clear S; intro h11 S
  refine st_run [2, 1, 1, 1, 1] S M rfl (by kernel_rfl) ?_; clear S a; intro a S
  refine st_fi (t := 16) S rfl ?_ ?_
  · clear S; intro h16 S
    refine st_go [0, 0, 0, 1, 1, 0, 0, 0, 1, 1, 0, 0, 0, 1, 1] S rfl (by kernel_rfl) ?_; clear S a; intro a S
    replace S := S.sub [(0, _), (1, _), (2, _)] rfl
    refine nxC ?_
    refine wp_ret ?_
    refine end_one S rfl (res_tmp rfl) ?_
    refine ⟨ret_bool ?_, M.below⟩; clear S M; rw [Bool.eq_iff_iff, named_iff]; (first | (simp; done) | (simp; omega) | omega)
  clear S; intro h16 S
  refine st_run [2, 1, 1, 1, 1] S M rfl (by kernel_rfl) ?_; clear S a; intro a S
  refine st_fi (t := 21) S rfl ?_ ?_
  · clear S; intro h21 S
    refine st_go [0, 0, 0, 1, 1, 0, 0, 0, 1, 1] S rfl (by kernel_rfl) ?_; clear S a; intro a S
    replace S := S.sub [(0, _), (1, _), (2, _)] rfl
    refine nxC ?_
    refine wp_ret ?_
    refine end_one S rfl (res_tmp rfl) ?_
    refine ⟨ret_bool ?_, M.below⟩; clear S M; rw [Bool.eq_iff_iff, named_iff]; (first | (simp; done) | (simp; omega) | omega)
  clear S; intro h21 S
  refine st_run [3, 1, 1, 1, 1] S M rfl (by kernel_rfl) ?_; clear S a; intro a S
  refine st_fi (t := 26) S rfl ?_ ?_
  · clear S; intro h26 S
    refine st_go [0, 0, 0, 1, 1] S rfl (by kernel_rfl) ?_; clear S a; intro a S
    replace S := S.sub [(0, _), (1, _), (2, _)] rfl
    refine nxC ?_
    refine wp_ret ?_
    refine end_one S rfl (res_tmp rfl) ?_
    refine ⟨ret_bool ?_, M.below⟩; clear S M; rw [Bool.eq_iff_iff, named_iff]; (first | (simp; done) | (simp; omega) | omega)
  clear S; intro h26 S
  refine st_run [3, 1, 1, 1, 1] S M rfl (by kernel_rfl) ?_; clear S a; intro a S
  replace S := S.sub [(0, _), (1, _), (2, _)] rfl
  refine nxC ?_
  refine wp_ret ?_
  refine end_one S rfl (res_tmp rfl) ?_
  refine ⟨ret_bool ?_, M.below⟩; clear S M; rw [Bool.eq_iff_iff, named_iff]; (first | (simp; done) | (simp; omega) | omega)
def lastB (x : List Wr) (k : Nat) : Int := match k with
  | 0 => -1
  | k + 1 => ((x[k]?).map Wr.block).getD 0
theorem wcells_block {x : List Wr} {k : Nat} {p : Wr} {lo hi : Nat} {w : World} {v : Value} (h : Ws lo hi w v x) (hp : x[k]? = some p) : w.cell? ⟨(adr v).block, (adr v).off + k * 9, none⟩ = some (.int .i64 p.block) := by
  have := (h.at_.row (i := k) (wcells_get hp) rfl) 0 (by simp)
  simpa using this
theorem rWritten_any (v : Value) (x : List Wr) (w : World) (hx : Ws 0 w.heap.size w v x) : Calls Try.prog 32 #[v] w fun e w' => e = .returned (.bool (writtenB x)) ∧ Below w.heap.size w w' := by
  have M := Mem.start w
  refine calls_enter Try.func32 rfl 45 rfl rfl ?_; intro a S
  refine nxD ?_
  refine st_go [1] S rfl (by kernel_rfl) ?_; clear S a; intro a S
  refine nxC ?_
  refine wp_seq ?_
  refine nxD ?_
  refine st_go [1] S rfl (by kernel_rfl) ?_; clear S a; intro a S
  refine st_y S rfl rfl rfl (y_lenR (E := 80) S rfl (M.arg hx) (by kernel_rfl)) ?_; clear S a; intro a S
  refine st_go [1] S rfl (by kernel_rfl) ?_; clear S a; intro a S
  refine nxC ?_
  refine st_if (t := 6) S rfl ?_ ?_
  · clear S; intro h6 S
    refine st_condT S rfl ?_
    refine nxD ?_
    refine st_go [1] S rfl (by kernel_rfl) ?_; clear S a; intro a S
    refine nxC ?_
    refine wp_ret ?_
    refine then_ret ?_
    refine end_one S rfl (res_tmp rfl) ?_
    refine ⟨ret_bool ?_, M.below⟩; unfold writtenB; rw [decide_eq_false (by omega)]; rfl
  clear S; intro h6 S
  refine st_condF S rfl ?_
  refine wp_skip ?_
  refine then_normal ?_
  refine wp_seq ?_
  refine nxD ?_
  refine st_go [1] S rfl (by kernel_rfl) ?_; clear S a; intro a S
  refine nxC ?_
  refine wp_block ?_
  refine wp_loop_g (fun m a w' => ∃ (k : Nat), k ≤ x.length ∧ m = x.length - k ∧ Sees 45 a [(0, v), (3, .int .i64 (k : Int))] ∧ Mem w w' [] ∧ risingB (-1) x = risingB (lastB x k) (x.drop k) ∧ -1 ≤ lastB x k) (x.length) ?_ ?_
  · skip
    exact ⟨0, Nat.zero_le _, rfl, S.sub _ rfl, M, rfl, by simp [lastB]⟩
  clear S M a; intro m a wl
  rintro ⟨k, hk, rfl, S, M, hpre, hlast⟩
  refine wp_seq ?_
  refine nxD ?_
  refine st_go [1, 1] S rfl (by kernel_rfl) ?_; clear S a; intro a S
  refine st_y S rfl rfl rfl (y_lenR (E := 80) S rfl ((M.arg hx)) (by kernel_rfl)) ?_; clear S a; intro a S
  refine st_go [1] S rfl (by kernel_rfl) ?_; clear S a; intro a S
  refine nxC ?_
  refine st_fi (t := 10) S rfl ?_ ?_
  · clear S; intro h10 S
    refine st_condF S rfl ?_
    refine wp_exit ?_
    refine then_exit ?_
    refine then_exit ?_
    refine block_hit ?_
    refine nxE ?_
    refine st_go [1] S rfl (by kernel_rfl) ?_; clear S a; intro a S
    refine nxC ?_
    refine wp_ret ?_
    refine end_one S rfl (res_tmp rfl) ?_
    obtain rfl : k = x.length := by omega
    refine ⟨ret_bool ?_, M.below⟩; unfold writtenB; rw [decide_eq_true (by omega), hpre, List.drop_length]; rfl
  clear S; intro h10 S
  refine st_condT S rfl ?_
  refine wp_skip ?_
  refine then_normal ?_
  refine wp_seq ?_
  refine wp_block ?_
  refine wp_seq ?_
  obtain ⟨p, hp⟩ : ∃ p, x[k]? = some p := ⟨_, List.getElem?_eq_getElem (by omega)⟩
  have hlp : lastB x (k + 1) = p.block := by simp [lastB, hp]
  rw [drop_get hp] at hpre
  obtain ⟨q, hqq⟩ : ∃ q : Wr, 0 < k → x[((k : Int) - 1).toNat]? = some q ∧ lastB x k = q.block := by
    cases k with
    | zero => exact ⟨p, fun h => absurd h (by omega)⟩
    | succ k =>
      obtain ⟨q, hq⟩ : ∃ q, x[k]? = some q := ⟨_, List.getElem?_eq_getElem (by omega)⟩
      exact ⟨q, fun _ => ⟨by rw [show (((k + 1 : Nat) : Int) - 1).toNat = k by omega]; exact hq, by simp [lastB, hq]⟩⟩
  refine wp_quiet M (by kernel_rfl) (by kernel_rfl) ?_
  refine qt_y S rfl rfl rfl (fun w M => y_move S rfl) ?_; clear S a; intro a S
  refine qt_y S rfl rfl rfl (fun w M => y_move S rfl) ?_; clear S a; intro a S
  refine qt_y S rfl rfl rfl (fun w M => y_indexR (e := 80) (sz := 9) S (by kernel_rfl) rfl ((M.arg hx)) rfl (by first | omega | (simp; done) | (simp; omega))) ?_; clear S a; intro a S
  try simp only [Int.toNat_natCast, Nat.mul_one, Nat.zero_add] at S
  refine qt_y S rfl rfl rfl (fun w M => y_fieldAddr (k := 0) S (by kernel_rfl) rfl) ?_; clear S a; intro a S
  refine qt_y S rfl rfl rfl (fun w M => y_load S (by kernel_rfl) rfl (wcells_block (M.arg hx) hp)) ?_; clear S a; intro a S
  refine qt_y S rfl rfl rfl (fun w M => y_int S rfl rfl rfl) ?_; clear S a; intro a S
  refine qt_y S rfl rfl rfl (fun w M => y_move S rfl) ?_; clear S a; intro a S
  refine st_if (t := 19) S rfl ?_ ?_
  · clear S; intro h19 S
    refine qt_skip 6 S rfl ?_; clear S a; intro a S
    refine qt_y S rfl rfl rfl (fun w M => y_pickT S rfl rfl) ?_; clear S a; intro a S
    refine qt_y S rfl rfl rfl (fun w M => y_move S rfl) ?_; clear S a; intro a S
    refine qt_skip 2 S rfl ?_; clear S a; intro a S
    refine qt_no S rfl rfl rfl ?_; clear S a; intro a S
    refine qt_skip 13 S rfl ?_; clear S a; intro a S
    refine qt_y S rfl rfl rfl (fun w M => y_pickT S rfl rfl) ?_; clear S a; intro a S
    refine wpQuiet_nil ?_; clear M; intro w1 M
    refine then_normal ?_
    refine st_condT S rfl ?_
    refine nxD ?_
    refine st_go [1] S rfl (by kernel_rfl) ?_; clear S a; intro a S
    refine nxC ?_
    refine wp_ret ?_
    refine block_ret ?_
    refine then_ret ?_
    refine then_ret ?_
    refine block_ret ?_
    refine then_ret ?_
    refine end_one S rfl (res_tmp rfl) ?_
    refine ⟨ret_bool ?_, M.below⟩; clear S M; unfold writtenB; rw [hpre]; unfold risingB
    have hno : ¬ (lastB x k < p.block ∧ p.block < 32) := by first | omega | (have := (hqq (by omega)).2; omega)
    rw [decide_eq_false hno]; simp
  clear S; intro h19 S
  refine qt_y S rfl rfl rfl (fun w M => y_move S rfl) ?_; clear S a; intro a S
  refine qt_y S rfl rfl rfl (fun w M => y_move S rfl) ?_; clear S a; intro a S
  refine qt_y S rfl rfl rfl (fun w M => y_indexR (e := 80) (sz := 9) S (by kernel_rfl) rfl ((M.arg hx)) rfl (by first | omega | (simp; done) | (simp; omega))) ?_; clear S a; intro a S
  try simp only [Int.toNat_natCast, Nat.mul_one, Nat.zero_add] at S
  refine qt_y S rfl rfl rfl (fun w M => y_fieldAddr (k := 0) S (by kernel_rfl) rfl) ?_; clear S a; intro a S
  refine qt_y S rfl rfl rfl (fun w M => y_load S (by kernel_rfl) rfl (wcells_block (M.arg hx) hp)) ?_; clear S a; intro a S
  refine qt_y S rfl rfl rfl (fun w M => y_int S rfl rfl rfl) ?_; clear S a; intro a S
  refine qt_y S rfl rfl rfl (fun w M => y_pickF S rfl rfl) ?_; clear S a; intro a S
  refine qt_y S rfl rfl rfl (fun w M => y_move S rfl) ?_; clear S a; intro a S
  refine st_if (t := 27) S rfl ?_ ?_
  · clear S; intro h27 S
    refine qt_skip 2 S rfl ?_; clear S a; intro a S
    refine qt_no S rfl rfl rfl ?_; clear S a; intro a S
    refine qt_skip 13 S rfl ?_; clear S a; intro a S
    refine qt_y S rfl rfl rfl (fun w M => y_pickT S rfl rfl) ?_; clear S a; intro a S
    refine wpQuiet_nil ?_; clear M; intro w2 M
    replace S := S.sub [(0, _), (3, _), (10, _), (44, _)] rfl
    refine then_normal ?_
    refine st_condT S rfl ?_
    refine nxD ?_
    refine st_go [1] S rfl (by kernel_rfl) ?_; clear S a; intro a S
    refine nxC ?_
    refine wp_ret ?_
    refine block_ret ?_
    refine then_ret ?_
    refine then_ret ?_
    refine block_ret ?_
    refine then_ret ?_
    refine end_one S rfl (res_tmp rfl) ?_
    refine ⟨ret_bool ?_, M.below⟩; clear S M; unfold writtenB; rw [hpre]; unfold risingB
    have hno : ¬ (lastB x k < p.block ∧ p.block < 32) := by first | omega | (have := (hqq (by omega)).2; omega)
    rw [decide_eq_false hno]; simp
  clear S; intro h27 S
  refine qt_y S rfl rfl rfl (fun w M => y_move S rfl) ?_; clear S a; intro a S
  refine qt_y S rfl rfl rfl (fun w M => y_int S rfl rfl rfl) ?_; clear S a; intro a S
  refine qt_y S rfl rfl rfl (fun w M => y_move S rfl) ?_; clear S a; intro a S
  refine st_fi (t := 30) S rfl ?_ ?_
  · clear S; intro h30 S
    refine qt_skip 12 S rfl ?_; clear S a; intro a S
    refine qt_y S rfl rfl rfl (fun w M => y_pickF S rfl rfl) ?_; clear S a; intro a S
    refine qt_y S rfl rfl rfl (fun w M => y_pickF S rfl rfl) ?_; clear S a; intro a S
    refine wpQuiet_nil ?_; clear M; intro w4 M
    replace S := S.sub [(0, _), (3, _), (10, _), (44, _)] rfl
    refine then_normal ?_
    refine st_condF S rfl ?_
    refine wp_skip ?_
    refine block_normal ?_
    refine nxF ?_
    refine st_go [1] S rfl (by kernel_rfl) ?_; clear S a; intro a S
    (first | refine st_y S rfl rfl rfl (y_addN S rfl rfl (by omega)) ?_ | refine st_y S rfl rfl rfl (y_int S rfl rfl rfl) ?_); clear S a; intro a S
    refine st_go [1] S rfl (by kernel_rfl) ?_; clear S a; intro a S
    refine nxC ?_
    refine ⟨x.length - (k + 1), by omega, k + 1, by omega, rfl, S.sub _ rfl, M, ?_, by rw [hlp]; omega⟩
    have hyes : lastB x k < p.block ∧ p.block < 32 := by
      rcases Nat.eq_zero_or_pos k with h0 | h0
      · subst h0; simp [lastB]; omega
      · have := (hqq h0).2; omega
    rw [hpre, hlp]; unfold risingB; rw [decide_eq_true hyes]; cases hd : x.drop (k + 1) <;> simp [risingB]
  clear S; intro h30 S
  refine qt_y S rfl rfl rfl (fun w M => y_move S rfl) ?_; clear S a; intro a S
  refine qt_y S rfl rfl rfl (fun w M => y_move S rfl) ?_; clear S a; intro a S
  refine qt_y S rfl rfl rfl (fun w M => y_indexR (e := 80) (sz := 9) S (by kernel_rfl) rfl ((M.arg hx)) rfl (by first | omega | (simp; done) | (simp; omega))) ?_; clear S a; intro a S
  try simp only [Int.toNat_natCast, Nat.mul_one, Nat.zero_add] at S
  refine qt_y S rfl rfl rfl (fun w M => y_fieldAddr (k := 0) S (by kernel_rfl) rfl) ?_; clear S a; intro a S
  refine qt_y S rfl rfl rfl (fun w M => y_load S (by kernel_rfl) rfl (wcells_block (M.arg hx) hp)) ?_; clear S a; intro a S
  refine qt_y S rfl rfl rfl (fun w M => y_move S rfl) ?_; clear S a; intro a S
  refine qt_y S rfl rfl rfl (fun w M => y_move S rfl) ?_; clear S a; intro a S
  (first | refine qt_y S rfl rfl rfl (fun w M => y_subN S rfl rfl (by omega)) ?_ | refine qt_y S rfl rfl rfl (fun w M => y_int S rfl rfl rfl) ?_); clear S a; intro a S
  refine qt_y S rfl rfl rfl (fun w M => y_indexR (e := 80) (sz := 9) S (by kernel_rfl) rfl ((M.arg hx)) rfl (by first | omega | (simp; done) | (simp; omega))) ?_; clear S a; intro a S
  try simp only [Int.toNat_natCast, Nat.mul_one, Nat.zero_add] at S
  refine qt_y S rfl rfl rfl (fun w M => y_fieldAddr (k := 0) S (by kernel_rfl) rfl) ?_; clear S a; intro a S
  refine qt_y S rfl rfl rfl (fun w M => y_load S (by kernel_rfl) rfl (wcells_block (M.arg hx) (hqq (by omega)).1)) ?_; clear S a; intro a S
  refine qt_y S rfl rfl rfl (fun w M => y_int S rfl rfl rfl) ?_; clear S a; intro a S
  refine qt_y S rfl rfl rfl (fun w M => y_pickT S rfl rfl) ?_; clear S a; intro a S
  refine qt_y S rfl rfl rfl (fun w M => y_pickF S rfl rfl) ?_; clear S a; intro a S
  refine wpQuiet_nil ?_; clear M; intro w3 M
  replace S := S.sub [(0, _), (3, _), (10, _), (44, _)] rfl
  refine then_normal ?_
  refine st_if (t := 44) S rfl ?_ ?_
  · clear S; intro h44 S
    refine st_condT S rfl ?_
    refine nxD ?_
    refine st_go [1] S rfl (by kernel_rfl) ?_; clear S a; intro a S
    refine nxC ?_
    refine wp_ret ?_
    refine block_ret ?_
    refine then_ret ?_
    refine then_ret ?_
    refine block_ret ?_
    refine then_ret ?_
    refine end_one S rfl (res_tmp rfl) ?_
    refine ⟨ret_bool ?_, M.below⟩; clear S M; unfold writtenB; rw [hpre]; unfold risingB
    have hno : ¬ (lastB x k < p.block ∧ p.block < 32) := by first | omega | (have := (hqq (by omega)).2; omega)
    rw [decide_eq_false hno]; simp
  clear S; intro h44 S
  refine st_condF S rfl ?_
  refine wp_skip ?_
  refine block_normal ?_
  refine nxF ?_
  refine st_go [1] S rfl (by kernel_rfl) ?_; clear S a; intro a S
  (first | refine st_y S rfl rfl rfl (y_addN S rfl rfl (by omega)) ?_ | refine st_y S rfl rfl rfl (y_int S rfl rfl rfl) ?_); clear S a; intro a S
  refine st_go [1] S rfl (by kernel_rfl) ?_; clear S a; intro a S
  refine nxC ?_
  refine ⟨x.length - (k + 1), by omega, k + 1, by omega, rfl, S.sub _ rfl, M, ?_, by rw [hlp]; omega⟩
  have hyes : lastB x k < p.block ∧ p.block < 32 := by
    rcases Nat.eq_zero_or_pos k with h0 | h0
    · subst h0; simp [lastB]; omega
    · have := (hqq h0).2; omega
  rw [hpre, hlp]; unfold risingB; rw [decide_eq_true hyes]; cases hd : x.drop (k + 1) <;> simp [risingB]
theorem sameWrites_any (va vb : Value) (x y : List Wr) (w : World) (hx : Ws 0 w.heap.size w va x) (hy : Ws 0 w.heap.size w vb y) :
    Calls Try.prog 59 #[va, vb] w fun e w' => e = .returned (.bool (eqWs x y)) ∧ Below w.heap.size w w' := by
  have M := Mem.start w
  have hl := hx.2.1
  unfold maxLen at hl
  have hne : x.length ≠ y.length → eqWs x y = false := fun h => by
    cases e : eqWs x y with
    | false => rfl
    | true => exact absurd (by rw [eqWs_iff.1 e]) h
  refine calls_enter Try.func59 rfl 26 rfl rfl ?_; intro a S
  refine nxD ?_
  refine st_go [1] S rfl (by kernel_rfl) ?_; clear S a; intro a S
  refine nxC ?_
  refine wp_seq ?_
  refine nxD ?_
  refine st_go [1] S rfl (by kernel_rfl) ?_; clear S a; intro a S
  refine st_y S rfl rfl rfl (y_lenR (E := 80) S rfl (M.arg hx) (by kernel_rfl)) ?_; clear S a; intro a S
  refine st_go [1] S rfl (by kernel_rfl) ?_; clear S a; intro a S
  refine st_y S rfl rfl rfl (y_lenR (E := 80) S rfl (M.arg hy) (by kernel_rfl)) ?_; clear S a; intro a S
  refine st_go [1] S rfl (by kernel_rfl) ?_; clear S a; intro a S
  refine nxC ?_
  refine st_if (t := 10) S rfl ?_ ?_
  · clear S; intro h10 S
    refine st_condT S rfl ?_
    refine nxD ?_
    refine st_go [1] S rfl (by kernel_rfl) ?_; clear S a; intro a S
    refine nxC ?_
    refine wp_ret ?_
    refine then_ret ?_
    refine end_one S rfl (res_tmp rfl) ?_
    exact ⟨ret_bool (hne (by omega)).symm, M.below⟩
  clear S; intro h10 S
  refine st_condF S rfl ?_
  refine wp_skip ?_
  refine then_normal ?_
  refine wp_seq ?_
  refine nxD ?_
  refine st_go [1] S rfl (by kernel_rfl) ?_; clear S a; intro a S
  refine nxC ?_
  refine wp_block ?_
  refine wp_loop_g (fun m a w' => ∃ (k : Nat), k ≤ x.length ∧ m = x.length - k ∧ Sees 26 a [(0, va), (1, vb), (5, .int .i64 (k : Int))] ∧ Mem w w' [] ∧ ∀ j, j < k → x[j]? = y[j]?) (x.length) ?_ ?_
  · skip
    exact ⟨0, Nat.zero_le _, rfl, S.sub _ rfl, M, fun j h => by omega⟩
  clear S M a; intro m a wl
  rintro ⟨k, hk, rfl, S, M, hpre⟩
  refine wp_seq ?_
  refine nxD ?_
  refine st_go [1, 1] S rfl (by kernel_rfl) ?_; clear S a; intro a S
  refine st_y S rfl rfl rfl (y_lenR (E := 80) S rfl ((M.arg hx)) (by kernel_rfl)) ?_; clear S a; intro a S
  refine st_go [1] S rfl (by kernel_rfl) ?_; clear S a; intro a S
  refine nxC ?_
  refine st_fi (t := 14) S rfl ?_ ?_
  · clear S; intro h14 S
    refine st_condF S rfl ?_
    refine wp_exit ?_
    refine then_exit ?_
    refine then_exit ?_
    refine block_hit ?_
    refine nxE ?_
    refine st_go [1] S rfl (by kernel_rfl) ?_; clear S a; intro a S
    refine nxC ?_
    refine wp_ret ?_
    refine end_one S rfl (res_tmp rfl) ?_
    obtain rfl : k = x.length := by omega
    refine ⟨ret_bool (eqWs_iff.2 (List.ext_getElem? fun j => ?_)).symm, M.below⟩
    by_cases hj : j < x.length
    · exact hpre j hj
    · rw [List.getElem?_eq_none (by omega), List.getElem?_eq_none (by omega)]
  clear S; intro h14 S
  refine st_condT S rfl ?_
  refine wp_skip ?_
  refine then_normal ?_
  refine wp_seq ?_
  refine wp_block ?_
  refine wp_seq ?_
  obtain ⟨p, hp⟩ : ∃ p, x[k]? = some p := ⟨_, List.getElem?_eq_getElem (by omega)⟩
  obtain ⟨q, hq⟩ : ∃ q, y[k]? = some q := ⟨_, List.getElem?_eq_getElem (by omega)⟩
  refine wp_quiet M (by kernel_rfl) (by kernel_rfl) ?_
  refine qt_y S rfl rfl rfl (fun w M => y_move S rfl) ?_; clear S a; intro a S
  refine qt_y S rfl rfl rfl (fun w M => y_move S rfl) ?_; clear S a; intro a S
  refine qt_y S rfl rfl rfl (fun w M => y_indexR (e := 80) (sz := 9) S (by kernel_rfl) rfl ((M.arg hx)) rfl (by first | omega | (simp; done) | (simp; omega))) ?_; clear S a; intro a S
  try simp only [Int.toNat_natCast, Nat.mul_one, Nat.zero_add] at S
  refine qt_y S rfl rfl rfl (fun w M => y_loadAgg S (by kernel_rfl) rfl rfl ((M.arg hx).at_.row (i := k) (wcells_get hp) rfl)) ?_; clear S a; intro a S
  refine qt_y S rfl rfl rfl (fun w M => y_move S rfl) ?_; clear S a; intro a S
  refine qt_y S rfl rfl rfl (fun w M => y_move S rfl) ?_; clear S a; intro a S
  refine qt_y S rfl rfl rfl (fun w M => y_indexR (e := 80) (sz := 9) S (by kernel_rfl) rfl ((M.arg hy)) rfl (by first | omega | (simp; done) | (simp; omega))) ?_; clear S a; intro a S
  try simp only [Int.toNat_natCast, Nat.mul_one, Nat.zero_add] at S
  refine qt_y S rfl rfl rfl (fun w M => y_loadAgg S (by kernel_rfl) rfl rfl ((M.arg hy).at_.row (i := k) (wcells_get hq) rfl)) ?_; clear S a; intro a S
  refine qt_y S rfl rfl rfl (fun w M => y_neqG (by kernel_rfl) S rfl rfl (fun w => equalWr 9997 p q w)) ?_; clear S a; intro a S
  refine wpQuiet_nil ?_; clear M; intro w1 M
  refine then_normal ?_
  refine st_split (t := 25) S rfl ?_ ?_
  · clear S; intro h25 S
    refine st_condT S rfl ?_
    refine nxD ?_
    refine st_go [1] S rfl (by kernel_rfl) ?_; clear S a; intro a S
    refine nxC ?_
    refine wp_ret ?_
    refine block_ret ?_
    refine then_ret ?_
    refine then_ret ?_
    refine block_ret ?_
    refine then_ret ?_
    refine end_one S rfl (res_tmp rfl) ?_
    refine ⟨ret_bool ?_, M.below⟩
    cases e : eqWs x y with
    | false => rfl
    | true =>
      rw [eqWs_iff.1 e, hq] at hp
      cases hp
      rw [Wr.eqb_iff.2 rfl] at h25
      cases h25
  clear S; intro h25 S
  refine st_condF S rfl ?_
  refine wp_skip ?_
  refine block_normal ?_
  refine nxF ?_
  refine st_go [1] S rfl (by kernel_rfl) ?_; clear S a; intro a S
  (first | refine st_y S rfl rfl rfl (y_addN S rfl rfl (by omega)) ?_ | refine st_y S rfl rfl rfl (y_int S rfl rfl rfl) ?_); clear S a; intro a S
  refine st_go [1] S rfl (by kernel_rfl) ?_; clear S a; intro a S
  replace S := S.sub [(0, _), (1, _), (14, _), (25, _), (5, _)] rfl
  refine nxC ?_
  refine ⟨x.length - (k + 1), by omega, k + 1, by omega, rfl, S.sub _ rfl, M, fun j hj => ?_⟩
  rcases Nat.lt_or_ge j k with h | h
  · exact hpre j h
  · obtain rfl : j = k := by omega
    rw [hp, hq, (Wr.eqb_iff (a := p) (b := q)).1 (by simpa using h25)]
def givenB (g t : Int) : Bool := bitsB g && bitsB t && (andV g t == 0)
theorem given_any (g t : Int) (w : World) : Calls Try.prog 31 #[.int .i64 g, .int .i64 t] w fun e w' => e = .returned (.bool (givenB g t)) ∧ Below w.heap.size w w' := by
  have M := Mem.start w
  refine calls_enter Try.func31 rfl 25 rfl rfl ?_; intro a S
  refine nxD ?_
  refine st_go [1] S rfl (by kernel_rfl) ?_; clear S a; intro a S
  refine nxA ?_
  refine st_go [1, 1, 1] S rfl (by kernel_rfl) ?_; clear S a; intro a S
  refine st_fi (t := 7) S rfl ?_ ?_
  · clear S; intro h7 S
    refine st_go [0, 0, 1, 1, 0, 0, 1, 1, 0, 0, 1, 1, 0, 0, 0, 0, 1, 1] S rfl (by kernel_rfl) ?_; clear S a; intro a S
    replace S := S.sub [(0, _), (1, _), (4, _)] rfl
    refine nxC ?_
    refine wp_ret ?_
    refine end_one S rfl (res_tmp rfl) ?_
    refine ⟨ret_bool ?_, M.below⟩; clear S M; unfold givenB bitsB
    first
      | (rw [decide_eq_true (p := 0 ≤ g ∧ g < 256) (by omega), decide_eq_true (p := 0 ≤ t ∧ t < 256) (by omega)]; rfl)
      | (rw [decide_eq_false (p := 0 ≤ g ∧ g < 256) (by omega)]; rfl)
      | (rw [decide_eq_false (p := 0 ≤ t ∧ t < 256) (by omega)]; simp)
  clear S; intro h7 S
  refine st_go [1, 1, 1, 1] S rfl (by kernel_rfl) ?_; clear S a; intro a S
  refine st_fi (t := 11) S rfl ?_ ?_
  · clear S; intro h11 S
    refine st_go [0, 0, 1, 1, 0, 0, 1, 1, 0, 0, 0, 0, 1, 1] S rfl (by kernel_rfl) ?_; clear S a; intro a S
    replace S := S.sub [(0, _), (1, _), (4, _)] rfl
    refine nxC ?_
    refine wp_ret ?_
    refine end_one S rfl (res_tmp rfl) ?_
    refine ⟨ret_bool ?_, M.below⟩; clear S M; unfold givenB bitsB
    first
      | (rw [decide_eq_true (p := 0 ≤ g ∧ g < 256) (by omega), decide_eq_true (p := 0 ≤ t ∧ t < 256) (by omega)]; rfl)
      | (rw [decide_eq_false (p := 0 ≤ g ∧ g < 256) (by omega)]; rfl)
      | (rw [decide_eq_false (p := 0 ≤ t ∧ t < 256) (by omega)]; simp)
  clear S; intro h11 S
  refine st_go [1, 1, 1, 1] S rfl (by kernel_rfl) ?_; clear S a; intro a S
  refine st_fi (t := 15) S rfl ?_ ?_
  · clear S; intro h15 S
    refine st_go [0, 0, 1, 1, 0, 0, 0, 0, 1, 1] S rfl (by kernel_rfl) ?_; clear S a; intro a S
    replace S := S.sub [(0, _), (1, _), (4, _)] rfl
    refine nxC ?_
    refine wp_ret ?_
    refine end_one S rfl (res_tmp rfl) ?_
    refine ⟨ret_bool ?_, M.below⟩; clear S M; unfold givenB bitsB
    first
      | (rw [decide_eq_true (p := 0 ≤ g ∧ g < 256) (by omega), decide_eq_true (p := 0 ≤ t ∧ t < 256) (by omega)]; rfl)
      | (rw [decide_eq_false (p := 0 ≤ g ∧ g < 256) (by omega)]; rfl)
      | (rw [decide_eq_false (p := 0 ≤ t ∧ t < 256) (by omega)]; simp)
  clear S; intro h15 S
  refine st_go [1, 1, 1, 1] S rfl (by kernel_rfl) ?_; clear S a; intro a S
  refine st_fi (t := 19) S rfl ?_ ?_
  · clear S; intro h19 S
    refine st_go [0, 0, 0, 0, 1, 1] S rfl (by kernel_rfl) ?_; clear S a; intro a S
    replace S := S.sub [(0, _), (1, _), (4, _)] rfl
    refine nxC ?_
    refine wp_ret ?_
    refine end_one S rfl (res_tmp rfl) ?_
    refine ⟨ret_bool ?_, M.below⟩; clear S M; unfold givenB bitsB
    first
      | (rw [decide_eq_true (p := 0 ≤ g ∧ g < 256) (by omega), decide_eq_true (p := 0 ≤ t ∧ t < 256) (by omega)]; rfl)
      | (rw [decide_eq_false (p := 0 ≤ g ∧ g < 256) (by omega)]; rfl)
      | (rw [decide_eq_false (p := 0 ≤ t ∧ t < 256) (by omega)]; simp)
  clear S; intro h19 S
  refine st_go [1, 1] S rfl (by kernel_rfl) ?_; clear S a; intro a S
  refine st_y S rfl rfl rfl (y_int S rfl rfl rfl) ?_; clear S a; intro a S
  refine st_go [1, 1, 1] S rfl (by kernel_rfl) ?_; clear S a; intro a S
  replace S := S.sub [(0, _), (1, _), (4, _)] rfl
  refine nxC ?_
  refine wp_ret ?_
  refine end_one S rfl (res_tmp rfl) ?_
  refine ⟨ret_bool ?_, M.below⟩; clear S M; unfold givenB bitsB
  first
    | (rw [decide_eq_true (p := 0 ≤ g ∧ g < 256) (by omega), decide_eq_true (p := 0 ≤ t ∧ t < 256) (by omega)]; rfl)
    | (rw [decide_eq_false (p := 0 ≤ g ∧ g < 256) (by omega)]; rfl)
    | (rw [decide_eq_false (p := 0 ≤ t ∧ t < 256) (by omega)]; simp)

end Go.Proofs.Ytidpeojkkfmgeaa
