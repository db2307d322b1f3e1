/-
  Package journal: Wants; what a nil disk answers; Each of none; ref06.Wants, Rows.
-/
import Derived.Test.YtafejnbfgkkjkaaJg
import Derived.Test.YtafejnbfgkkjkaaJq
import Derived.Test.YtafejnbfgkkjkaaCv
namespace Go.Proofs.Ytafejnbfgkkjkaa
open Go.RowKit Go.Sort

def wantsP (n : Int) : Int := if n < 1 ∨ 90 < n then 0 else (n + 44) / 45
theorem wants_any (n : Int) (w : World) : Calls Try.prog 15 #[.int .i64 n] w fun e w' => e = .returned (.int .i64 (wantsP n)) ∧ Below w.heap.size w w' := by
  have M := Mem.start w
  refine calls_enter Try.func15 rfl 13 rfl rfl ?_; intro a S
  refine nxD ?_
  refine st_go [1] S rfl (by kernel_rfl) ?_; clear S a; intro a S
  refine nxC ?_
  refine wp_seq ?_
  refine nxD ?_
  refine st_go [1, 1, 1] S rfl (by kernel_rfl) ?_; clear S a; intro a S
  refine st_if (t := 5) S rfl ?_ ?_
  · clear S; intro h5 S
    refine st_go [0, 0, 1] S rfl (by kernel_rfl) ?_; clear S a; intro a S
    refine nxC ?_
    refine st_condT S rfl ?_
    refine nxD ?_
    refine st_go [1] S rfl (by kernel_rfl) ?_; clear S a; intro a S
    refine nxC ?_
    refine wp_ret ?_
    refine then_ret ?_
    refine end_one S rfl (res_tmp rfl) ?_
    exact ⟨by unfold wantsP; rw [if_pos (by omega)], M.below⟩
  clear S; intro h5 S
  refine st_go [1, 1, 1] S rfl (by kernel_rfl) ?_; clear S a; intro a S
  refine nxC ?_
  refine st_if (t := 8) S rfl ?_ ?_
  · clear S; intro h8 S
    refine st_condT S rfl ?_
    refine nxD ?_
    refine st_go [1] S rfl (by kernel_rfl) ?_; clear S a; intro a S
    refine nxC ?_
    refine wp_ret ?_
    refine then_ret ?_
    refine end_one S rfl (res_tmp rfl) ?_
    exact ⟨by unfold wantsP; rw [if_pos (by omega)], M.below⟩
  clear S; intro h8 S
  refine st_condF S rfl ?_
  refine wp_skip ?_
  refine nxE ?_
  refine st_go [1] S rfl (by kernel_rfl) ?_; clear S a; intro a S
  (first | refine st_y S rfl rfl rfl (y_addN S rfl rfl (by omega)) ?_ | refine st_y S rfl rfl rfl (y_int S rfl rfl rfl) ?_); clear S a; intro a S
  (first | refine st_y S rfl rfl rfl (y_subN S rfl rfl (by omega)) ?_ | refine st_y S rfl rfl rfl (y_int S rfl rfl rfl) ?_); clear S a; intro a S
  refine st_y S rfl rfl rfl (y_quoN S rfl rfl (by omega)) ?_; clear S a; intro a S
  refine st_go [1] S rfl (by kernel_rfl) ?_; clear S a; intro a S
  refine nxC ?_
  refine wp_ret ?_
  refine end_one S rfl (res_tmp rfl) ?_
  exact ⟨by unfold wantsP; rw [if_neg (by omega), show n + 45 - 1 = n + 44 by omega], M.below⟩
theorem wants4_any (n : Int) (w : World) : Calls Try.prog 25 #[.int .i64 n] w fun e w' => e = .returned (.int .i64 (wantsP n)) ∧ Below w.heap.size w w' := by
  have M := Mem.start w
  refine calls_enter Try.func25 rfl 13 rfl rfl ?_; intro a S
  refine nxD ?_
  refine st_go [1] S rfl (by kernel_rfl) ?_; clear S a; intro a S
  refine nxC ?_
  refine wp_seq ?_
  refine nxD ?_
  refine st_go [1, 1, 1] S rfl (by kernel_rfl) ?_; clear S a; intro a S
  refine st_if (t := 5) S rfl ?_ ?_
  · clear S; intro h5 S
    refine st_go [0, 0, 1] S rfl (by kernel_rfl) ?_; clear S a; intro a S
    refine nxC ?_
    refine st_condT S rfl ?_
    refine nxD ?_
    refine st_go [1] S rfl (by kernel_rfl) ?_; clear S a; intro a S
    refine nxC ?_
    refine wp_ret ?_
    refine then_ret ?_
    refine end_one S rfl (res_tmp rfl) ?_
    exact ⟨by unfold wantsP; rw [if_pos (by omega)], M.below⟩
  clear S; intro h5 S
  refine st_go [1, 1, 1] S rfl (by kernel_rfl) ?_; clear S a; intro a S
  refine nxC ?_
  refine st_if (t := 8) S rfl ?_ ?_
  · clear S; intro h8 S
    refine st_condT S rfl ?_
    refine nxD ?_
    refine st_go [1] S rfl (by kernel_rfl) ?_; clear S a; intro a S
    refine nxC ?_
    refine wp_ret ?_
    refine then_ret ?_
    refine end_one S rfl (res_tmp rfl) ?_
    exact ⟨by unfold wantsP; rw [if_pos (by omega)], M.below⟩
  clear S; intro h8 S
  refine st_condF S rfl ?_
  refine wp_skip ?_
  refine nxE ?_
  refine st_go [1] S rfl (by kernel_rfl) ?_; clear S a; intro a S
  (first | refine st_y S rfl rfl rfl (y_addN S rfl rfl (by omega)) ?_ | refine st_y S rfl rfl rfl (y_int S rfl rfl rfl) ?_); clear S a; intro a S
  (first | refine st_y S rfl rfl rfl (y_subN S rfl rfl (by omega)) ?_ | refine st_y S rfl rfl rfl (y_int S rfl rfl rfl) ?_); clear S a; intro a S
  refine st_y S rfl rfl rfl (y_quoN S rfl rfl (by omega)) ?_; clear S a; intro a S
  refine st_go [1] S rfl (by kernel_rfl) ?_; clear S a; intro a S
  refine nxC ?_
  refine wp_ret ?_
  refine end_one S rfl (res_tmp rfl) ?_
  exact ⟨by unfold wantsP; rw [if_neg (by omega), show n + 45 - 1 = n + 44 by omega], M.below⟩
theorem wants6_any (n : Int) (w : World) : Calls Try.prog 16 #[.int .i64 n] w fun e w' => e = .returned (.int .i64 (wantsP n)) ∧ Below w.heap.size w w' := by
  have M := Mem.start w
  refine calls_enter Try.func16 rfl 5 rfl rfl ?_; intro a S
  refine nxD ?_
  refine st_go [1] S rfl (by kernel_rfl) ?_; clear S a; intro a S
  refine nxA ?_
  refine st_go [1] S rfl (by kernel_rfl) ?_; clear S a; intro a S
  refine st_call (xs := [(Operand.tmp 3)]) S (enters_of Try.func25 (by decide) rfl) rfl rfl rfl (wants4_any _ _) ?_
  rintro _ w1 ⟨rfl, hK⟩; refine ⟨_, rfl, ?_⟩; clear S a; intro a S; replace M := M.grow hK
  refine st_go [1] S rfl (by kernel_rfl) ?_; clear S a; intro a S
  refine nxC ?_
  refine wp_ret ?_
  refine end_one S rfl (res_tmp rfl) ?_
  exact ⟨rfl, M.below⟩
theorem append_nil (t n inc : Int) (v : Value) (w : World) : Calls Try.prog 9 #[.pointer none, .agg #[.int .i64 t, .int .i64 n], .int .i64 inc, v] w fun e w' => e = .returned (.tuple #[.agg #[.int .i64 t, .int .i64 n], .int .i64 1]) ∧ Below w.heap.size w w' := by
  have M := Mem.start w
  refine calls_enter Try.func9 rfl 63 rfl rfl ?_; intro a S
  refine nxD ?_
  refine st_box S M rfl rfl rfl #[_, _] rfl ?_; clear S M a; intro a w1 b1 S M hB
  refine st_alloc S M rfl rfl #[.int .i64 0, .int .i64 0] (by kernel_rfl) ?_; clear S M a; intro a w2 b2 S M hB
  refine st_go [1] S rfl (by kernel_rfl) ?_; clear S a; intro a S
  refine nxC ?_
  refine wp_seq ?_
  refine nxD ?_
  refine st_go [1] S rfl (by kernel_rfl) ?_; clear S a; intro a S
  refine st_y S rfl rfl rfl (y_eqlPN (by kernel_rfl) S rfl) ?_; clear S a; intro a S
  refine nxC ?_
  refine st_condT S rfl ?_
  refine nxD ?_
  refine st_y S rfl rfl rfl (y_loadAgg (cs := [_, _]) S (by kernel_rfl) rfl rfl (M.cellsAt (k := 2) 1 rfl rfl)) ?_; clear S a; intro a S
  refine st_store (sz := 2) (us := [_, _]) S M 0 rfl (by kernel_rfl) rfl rfl rfl rfl rfl rfl (by first | decide | (simp; done) | (simp; omega)) ?_; clear M; intro w3 M
  simp only [putL, List.set_cons_zero, List.set_cons_succ, Nat.reduceAdd] at M
  refine st_go [1] S rfl (by kernel_rfl) ?_; clear S a; intro a S
  refine nxC ?_
  refine wp_ret ?_
  refine then_ret ?_
  refine end_two S rfl (res_agg (cs := [_, _]) (by kernel_rfl) rfl rfl (M.cellsAt (k := 2) 0 rfl rfl)) (res_tmp rfl) ?_
  exact ⟨rfl, M.below⟩
theorem scan_nil (tail : Int) (w : World) : Calls Try.prog 23 #[.pointer none, .int .i64 tail] w fun e w' => e = .returned (.tuple #[.agg #[.int .i64 0, .int .i64 0, .slice none 0 0, .slice none 0 0, .int .i64 0], .int .i64 1]) ∧ Below w.heap.size w w' := by
  have M := Mem.start w
  refine calls_enterM Try.func23 rfl 60 rfl rfl ?_; intro a S
  refine nxD ?_
  refine st_alloc S M rfl rfl #[.int .i64 0, .int .i64 0, .slice none 0 0, .slice none 0 0, .int .i64 0] (by kernel_rfl) ?_; clear S M a; intro a w1 b1 S M hB
  refine st_alloc S M rfl rfl #[.int .i64 0] (by kernel_rfl) ?_; clear S M a; intro a w2 b2 S M hB
  refine nxC ?_
  refine wp_scope_straight ?_
  refine wp_seq ?_
  refine nxD ?_
  refine st_go [1] S rfl (by kernel_rfl) ?_; clear S a; intro a S
  refine st_y S rfl rfl rfl (y_eqlPN (by kernel_rfl) S rfl) ?_; clear S a; intro a S
  refine nxC ?_
  refine st_condT S rfl ?_
  refine nxD ?_
  refine st_y S rfl rfl rfl (y_build (ps := []) (pl := [(0, 1), (1, 1), (2, 1), (3, 1), (4, 1)]) (z := [.int .i64 0, .int .i64 0, .slice none 0 0, .slice none 0 0, .int .i64 0]) (cs := [_, _, _, _, _]) S (by kernel_rfl) rfl (rfl)) ?_; clear S a; intro a S
  refine st_store (sz := 5) (us := [_, _, _, _, _]) S M 1 rfl (by kernel_rfl) rfl rfl rfl rfl rfl rfl (by first | decide | (simp; done) | (simp; omega)) ?_; clear M; intro w3 M
  simp only [putL, List.set_cons_zero, List.set_cons_succ, Nat.reduceAdd] at M
  refine st_store (sz := 1) (us := [_]) S M 0 rfl (by kernel_rfl) rfl rfl rfl rfl rfl rfl (by first | decide | (simp; done) | (simp; omega)) ?_; clear M; intro w4 M
  simp only [putL, List.set_cons_zero, List.set_cons_succ, Nat.reduceAdd] at M
  refine nxC ?_
  refine wp_ret ?_
  refine then_ret ?_
  refine sc_ret ?_
  refine end_plain ?_
  refine end_two S rfl (res_agg (cs := [_, _, _, _, _]) (by kernel_rfl) rfl rfl (M.cellsAt (k := 5) 1 rfl rfl)) (res_cell (by kernel_rfl) rfl (M.cell 0 rfl rfl)) ?_
  exact ⟨rfl, M.below⟩
theorem Scan_nil (tail : Int) (w : World) : Calls Try.prog 10 #[.pointer none, .int .i64 tail] w fun e w' => e = .returned (.tuple #[.slice none 0 0, .agg #[.int .i64 0, .int .i64 0], .int .i64 1]) ∧ Below w.heap.size w w' := by
  have M := Mem.start w
  refine calls_enter Try.func10 rfl 38 rfl rfl ?_; intro a S
  refine nxD ?_
  refine st_go [1] S rfl (by kernel_rfl) ?_; clear S a; intro a S
  refine st_alloc S M rfl rfl #[.int .i64 0, .int .i64 0] (by kernel_rfl) ?_; clear S M a; intro a w1 b1 S M hB
  refine st_go [1] S rfl (by kernel_rfl) ?_; clear S a; intro a S
  refine nxA ?_
  refine st_go [1, 1] S rfl (by kernel_rfl) ?_; clear S a; intro a S
  refine st_call (xs := [(Operand.tmp 11), (Operand.tmp 12)]) S (enters_of Try.func23 (by decide) rfl) rfl rfl rfl (scan_nil tail _) ?_
  rintro _ w2 ⟨rfl, hK⟩; refine ⟨_, rfl, ?_⟩; clear S a; intro a S; replace M := M.grow hK
  refine st_go [1, 1, 1] S rfl (by kernel_rfl) ?_; clear S a; intro a S
  refine st_alloc S M rfl rfl #[.int .i64 0, .int .i64 0, .slice none 0 0, .slice none 0 0, .int .i64 0] (by kernel_rfl) ?_; clear S M a; intro a w3 b2 S M hB
  refine st_store (sz := 5) (us := [_, _, _, _, _]) S M 0 rfl (by kernel_rfl) rfl rfl rfl rfl rfl rfl (by first | decide | (simp; done) | (simp; omega)) ?_; clear M; intro w4 M
  simp only [putL, List.set_cons_zero, List.set_cons_succ, Nat.reduceAdd] at M
  refine st_go [1] S rfl (by kernel_rfl) ?_; clear S a; intro a S
  refine nxC ?_
  refine wp_seq ?_
  refine nxD ?_
  refine st_go [1, 1] S rfl (by kernel_rfl) ?_; clear S a; intro a S
  refine nxC ?_
  refine st_fi (t := 17) S rfl ?_ ?_
  · clear S; intro h17 S
    exact absurd h17 (by decide)
  clear S; intro h17 S
  refine st_condT S rfl ?_
  refine nxD ?_
  refine st_y S rfl rfl rfl (y_build (ps := []) (pl := [(0, 1), (1, 1)]) (z := [.int .i64 0, .int .i64 0]) (cs := [_, _]) S (by kernel_rfl) rfl (rfl)) ?_; clear S a; intro a S
  refine st_go [1, 1] S rfl (by kernel_rfl) ?_; clear S a; intro a S
  refine st_store (sz := 2) (us := [_, _]) S M 1 rfl (by kernel_rfl) rfl rfl rfl rfl rfl rfl (by first | decide | (simp; done) | (simp; omega)) ?_; clear M; intro w5 M
  simp only [putL, List.set_cons_zero, List.set_cons_succ, Nat.reduceAdd] at M
  refine st_go [1] S rfl (by kernel_rfl) ?_; clear S a; intro a S
  refine nxC ?_
  refine wp_ret ?_
  refine then_ret ?_
  refine end_three S rfl (res_tmp rfl) (res_agg (cs := [_, _]) (by kernel_rfl) rfl rfl (M.cellsAt (k := 2) 1 rfl rfl)) (res_tmp rfl) ?_
  exact ⟨rfl, M.below⟩
theorem dflush_nil (w : World) : Calls Try.prog 18 #[.pointer none] w fun e w' => e = .returned (.int .i64 1) ∧ Below w.heap.size w w' := by
  have M := Mem.start w
  refine calls_enter Try.func18 rfl 38 rfl rfl ?_; intro a S
  refine nxD ?_
  refine st_go [1] S rfl (by kernel_rfl) ?_; clear S a; intro a S
  refine nxC ?_
  refine wp_seq ?_
  refine nxD ?_
  refine st_go [1] S rfl (by kernel_rfl) ?_; clear S a; intro a S
  refine st_y S rfl rfl rfl (y_eqlPN (by kernel_rfl) S rfl) ?_; clear S a; intro a S
  refine nxC ?_
  refine st_condT S rfl ?_
  refine nxD ?_
  refine st_go [1] S rfl (by kernel_rfl) ?_; clear S a; intro a S
  refine nxC ?_
  refine wp_ret ?_
  refine then_ret ?_
  refine end_one S rfl (res_tmp rfl) ?_
  exact ⟨rfl, M.below⟩
theorem flush_nil (w : World) : Calls Try.prog 14 #[.pointer none] w fun e w' => e = .returned (.int .i64 1) ∧ Below w.heap.size w w' := by
  have M := Mem.start w
  refine calls_enter Try.func14 rfl 5 rfl rfl ?_; intro a S
  refine nxD ?_
  refine st_go [1] S rfl (by kernel_rfl) ?_; clear S a; intro a S
  refine nxA ?_
  refine st_go [1] S rfl (by kernel_rfl) ?_; clear S a; intro a S
  refine st_call (xs := [(Operand.tmp 3)]) S (enters_of Try.func18 (by decide) rfl) rfl rfl rfl (dflush_nil _) ?_
  rintro _ w1 ⟨rfl, hK⟩; refine ⟨_, rfl, ?_⟩; clear S a; intro a S; replace M := M.grow hK
  refine st_go [1] S rfl (by kernel_rfl) ?_; clear S a; intro a S
  refine nxC ?_
  refine wp_ret ?_
  refine end_one S rfl (res_tmp rfl) ?_
  exact ⟨rfl, M.below⟩
theorem jflush_any {wc w : World} {A E : List Ent} {b : Nat} {S0 : DS} (hE : DkE b S0 E) (M : Mem wc w (A ++ E)) (hup : S0.down = false) (hw : ∀ k, (S0.cache k).length ≤ 1000000) :
    Calls Try.prog 14 #[.pointer (some ⟨b, 0, none⟩)] w fun e w' => e = .returned (.int .i64 0) ∧ ∃ E', DkE b S0.flush E' ∧ Mem wc w' (A ++ E') := by
  refine calls_enter Try.func14 rfl 5 rfl rfl ?_; intro a S
  refine nxD ?_
  refine st_go [1] S rfl (by kernel_rfl) ?_; clear S a; intro a S
  refine nxA ?_
  refine st_go [1] S rfl (by kernel_rfl) ?_; clear S a; intro a S
  refine st_call (xs := [(Operand.tmp 3)]) S (enters_of Try.func18 (by decide) rfl) rfl rfl rfl (flush_any hE M hup hw) ?_
  rintro _ w1 ⟨rfl, E', hE', M2⟩; refine ⟨_, rfl, ?_⟩; clear S M a; intro a S; have M := M2; clear M2
  refine st_go [1] S rfl (by kernel_rfl) ?_; clear S a; intro a S
  refine nxC ?_
  refine wp_ret ?_
  refine end_one S rfl (res_tmp rfl) ?_
  exact ⟨rfl, E', hE', M⟩
/-- the slice v reads as these rows of bytes -/
def BRows (W : World) (v : Value) (bss : List (List UInt8)) : Prop := ∃ vs, Rd 0 W.heap.size W 1 v bss.length vs ∧ ∀ (i : Nat) x bs, vs[i]? = some x → bss[i]? = some bs → Bs 0 W.heap.size W x bs
theorem BRows.rd {W : World} {v : Value} {bss : List (List UInt8)} (h : BRows W v bss) : ∃ vs, Rd 0 W.heap.size W 1 v bss.length vs := ⟨h.choose, h.choose_spec.1⟩
set_option maxHeartbeats 1000000 in
theorem rows_any (v u : Value) (xs ys : List (List UInt8)) (w : World) (hv : BRows w v xs) (hu : BRows w u ys) : Calls Try.prog 11 #[v, u] w fun e w' => e = .returned (.bool (decide (xs = ys))) ∧ Below w.heap.size w w' := by
  have M := Mem.start w
  obtain ⟨vs, hv1, hv2⟩ := hv
  obtain ⟨us, hu1, hu2⟩ := hu
  have hvl := hv1.1
  have hul := hu1.1
  have hvm := hv1.2.1
  have hum := hu1.2.1
  unfold maxLen at hvm hum
  refine calls_enter Try.func11 rfl 28 rfl rfl ?_; intro a S
  refine nxD ?_
  refine st_go [1] S rfl (by kernel_rfl) ?_; clear S a; intro a S
  refine nxC ?_
  refine wp_seq ?_
  refine nxD ?_
  refine st_go [1] S rfl (by kernel_rfl) ?_; clear S a; intro a S
  refine st_y S rfl rfl rfl (y_lenR (E := 32) S rfl (M.arg hv1) (by kernel_rfl)) ?_; clear S a; intro a S
  refine st_go [1] S rfl (by kernel_rfl) ?_; clear S a; intro a S
  refine st_y S rfl rfl rfl (y_lenR (E := 32) S rfl (M.arg hu1) (by kernel_rfl)) ?_; clear S a; intro a S
  refine st_go [1] S rfl (by kernel_rfl) ?_; clear S a; intro a S
  refine nxC ?_
  refine st_if (t := 10) S rfl ?_ ?_
  · clear S; intro h10 S
    refine st_condT S rfl ?_
    refine nxD ?_
    refine st_go [1] S rfl (by kernel_rfl) ?_; clear S a; intro a S
    refine nxC ?_
    refine wp_ret ?_
    refine then_ret ?_
    refine end_one S rfl (res_tmp rfl) ?_
    exact ⟨by rw [decide_eq_false (fun e => by subst e; omega)], M.below⟩
  clear S; intro h10 S
  refine st_condF S rfl ?_
  refine wp_skip ?_
  refine then_normal ?_
  refine wp_seq ?_
  refine nxD ?_
  refine st_go [1] S rfl (by kernel_rfl) ?_; clear S a; intro a S
  refine nxC ?_
  refine wp_block ?_
  refine wp_loop_g (fun m a w' => ∃ (i : Nat), i ≤ xs.length ∧ m = xs.length - i ∧ (∀ j, j < i → xs[j]? = ys[j]?) ∧ Sees 28 a [(0, v), (1, u), (5, .int .i64 (i : Int))] ∧ Mem w w' []) (xs.length) ?_ ?_
  · skip
    exact ⟨0, Nat.zero_le _, rfl, fun j h => by omega, S.sub _ rfl, M⟩
  clear S M a; intro m a wl
  rintro ⟨i, hi', rfl, hsame, S, M⟩
  refine wp_seq ?_
  refine nxD ?_
  refine st_go [1, 1] S rfl (by kernel_rfl) ?_; clear S a; intro a S
  refine st_y S rfl rfl rfl (y_lenR (E := 32) S rfl (M.arg hv1) (by kernel_rfl)) ?_; clear S a; intro a S
  refine st_go [1] S rfl (by kernel_rfl) ?_; clear S a; intro a S
  refine nxC ?_
  refine st_fi (t := 14) S rfl ?_ ?_
  · clear S; intro h14 S
    refine st_condF S rfl ?_
    refine wp_exit ?_
    refine then_exit ?_
    refine then_exit ?_
    refine block_hit ?_
    refine nxE ?_
    refine st_go [1] S rfl (by kernel_rfl) ?_; clear S a; intro a S
    refine nxC ?_
    refine wp_ret ?_
    refine end_one S rfl (res_tmp rfl) ?_
    refine ⟨?_, M.below⟩
    rw [decide_eq_true]
    refine List.ext_getElem? fun j => ?_
    rcases Nat.lt_or_ge j i with h | h
    · exact hsame j h
    · rw [List.getElem?_eq_none (by omega), List.getElem?_eq_none (by omega)]
  clear S; intro h14 S
  refine st_condT S rfl ?_
  refine wp_skip ?_
  refine then_normal ?_
  refine wp_seq ?_
  refine wp_block ?_
  refine wp_seq ?_
  have hlt : i < xs.length := by omega
  obtain ⟨p, hp⟩ : ∃ p, vs[i]? = some p := ⟨_, List.getElem?_eq_getElem (by omega)⟩
  obtain ⟨q, hq⟩ : ∃ q, us[i]? = some q := ⟨_, List.getElem?_eq_getElem (by omega)⟩
  obtain ⟨bp, hbp⟩ : ∃ bp, xs[i]? = some bp := ⟨_, List.getElem?_eq_getElem (by omega)⟩
  obtain ⟨bq, hbq⟩ : ∃ bq, ys[i]? = some bq := ⟨_, List.getElem?_eq_getElem (by omega)⟩
  refine wp_quiet M (by kernel_rfl) (by kernel_rfl) ?_
  refine qt_y S rfl rfl rfl (fun w M => y_move S rfl) ?_; clear S a; intro a S
  refine qt_y S rfl rfl rfl (fun w M => y_move S rfl) ?_; clear S a; intro a S
  refine qt_y S rfl rfl rfl (fun w M => y_indexR (e := 32) (sz := 1) S (by kernel_rfl) rfl (M.arg hv1) rfl (by first | omega | (simp; done) | (simp; omega))) ?_; clear S a; intro a S
  try simp only [Int.toNat_natCast, Nat.mul_one, Nat.zero_add] at S
  refine qt_y S rfl rfl rfl (fun w M => y_load S (by kernel_rfl) rfl ((M.arg hv1).at_.one i hp)) ?_; clear S a; intro a S
  refine qt_y S rfl rfl rfl (fun w M => y_bytesStr (e := 5) S rfl (by kernel_rfl) (by kernel_rfl) (by kernel_rfl) (M.arg (hv2 i p bp hp hbp))) ?_; clear S a; intro a S
  refine qt_y S rfl rfl rfl (fun w M => y_move S rfl) ?_; clear S a; intro a S
  refine qt_y S rfl rfl rfl (fun w M => y_move S rfl) ?_; clear S a; intro a S
  refine qt_y S rfl rfl rfl (fun w M => y_indexR (e := 32) (sz := 1) S (by kernel_rfl) rfl (M.arg hu1) rfl (by first | omega | (simp; done) | (simp; omega))) ?_; clear S a; intro a S
  try simp only [Int.toNat_natCast, Nat.mul_one, Nat.zero_add] at S
  refine qt_y S rfl rfl rfl (fun w M => y_load S (by kernel_rfl) rfl ((M.arg hu1).at_.one i hq)) ?_; clear S a; intro a S
  refine qt_y S rfl rfl rfl (fun w M => y_bytesStr (e := 5) S rfl (by kernel_rfl) (by kernel_rfl) (by kernel_rfl) (M.arg (hu2 i q bq hq hbq))) ?_; clear S a; intro a S
  refine qt_y S rfl rfl rfl (fun w M => y_neqStr S rfl rfl) ?_; clear S a; intro a S
  refine wpQuiet_nil ?_; clear M; intro w1 M
  refine then_normal ?_
  refine st_split (t := 27) S rfl ?_ ?_
  · clear S; intro h27 S
    refine st_condT S rfl ?_
    refine nxD ?_
    refine st_go [1] S rfl (by kernel_rfl) ?_; clear S a; intro a S
    refine nxC ?_
    refine wp_ret ?_
    refine block_ret ?_
    refine then_ret ?_
    refine then_ret ?_
    refine block_ret ?_
    refine then_ret ?_
    refine end_one S rfl (res_tmp rfl) ?_
    refine ⟨?_, M.below⟩
    rw [decide_eq_false]
    intro e; subst e
    rw [hbp] at hbq; obtain rfl := Option.some.inj hbq
    rw [strEq] at h27; simp at h27
  clear S; intro h27 S
  refine st_condF S rfl ?_
  refine wp_skip ?_
  refine block_normal ?_
  refine nxF ?_
  refine st_go [1] S rfl (by kernel_rfl) ?_; clear S a; intro a S
  (first | refine st_y S rfl rfl rfl (y_addN S rfl rfl (by omega)) ?_ | refine st_y S rfl rfl rfl (y_int S rfl rfl rfl) ?_); clear S a; intro a S
  refine st_go [1] S rfl (by kernel_rfl) ?_; clear S a; intro a S
  replace S := S.sub [(0, _), (1, _), (14, _), (27, _), (5, _)] rfl
  refine nxC ?_
  refine ⟨xs.length - (i + 1), by omega, i + 1, by omega, rfl, fun j hj => ?_, S.sub _ rfl, M⟩
  rcases Nat.lt_or_ge j i with h | h
  · exact hsame j h
  · obtain rfl : j = i := by omega
    rw [strEq] at h27
    rw [hbp, hbq, show bp = bq by simpa using h27]

end Go.Proofs.Ytafejnbfgkkjkaa
