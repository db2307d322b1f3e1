/-
  Package coord: what a machine may be.
-/
import Derived.Test.YtidpeojkkfmgeaaCp
namespace Go.Proofs.Ytidpeojkkfmgeaa
open Go.RowKit Go.Sort

theorem andNot_sub {x m : BitVec 64} (h : x &&& ~~~m = 0#64) : x = x &&& m := by
  apply BitVec.eq_of_getLsbD_eq
  intro i hi
  have := congrArg (fun z => z.getLsbD i) h
  simp only [BitVec.getLsbD_and, BitVec.getLsbD_not, hi, decide_true, Bool.true_and, BitVec.getLsbD_zero] at this
  rw [BitVec.getLsbD_and]
  cases hx : x.getLsbD i <;> cases hm : m.getLsbD i <;> simp_all
theorem wrap_zero {x : BitVec 64} (h : IntKind.i64.wrap (x.toNat : Int) = 0) : x = 0#64 := by
  have hlt := x.isLt
  simp only [IntKind.wrap, IntKind.bits] at h
  apply BitVec.eq_of_toNat_eq
  revert h
  simp
  try (intro h; omega)
/-- what lies within bits of s, 0 to 31 -/
theorem sub_le {y s : Int} (hy : -9223372036854775808 ≤ y ∧ y ≤ 9223372036854775807) (hs : 0 ≤ s ∧ s ≤ 31) (h : andNotV y s = 0) : 0 ≤ y ∧ y ≤ s := by
  unfold andNotV at h
  have h1 := andNot_sub (wrap_zero h)
  simp only [IntKind.bits] at h1
  have h2 : (BitVec.ofInt 64 y).toNat ≤ (BitVec.ofInt 64 s).toNat := by
    rw [h1, BitVec.toNat_and]; exact Nat.and_le_right
  have e1 := BitVec.toNat_ofInt (n := 64) (i := y)
  have e2 := BitVec.toNat_ofInt (n := 64) (i := s)
  try omega
theorem group_iff {n : Int} (hn : n ≤ 9223372036854775807) : (decide (0 < n) && (andNotV n 30 == 0)) = shardsB n := by
  unfold shardsB
  by_cases h0 : 0 < n
  · rw [andNot30 h0 hn, Bool.eq_iff_iff]; simp; try omega
  · rw [decide_eq_false h0, Bool.false_and, eq_comm, decide_eq_false_iff_not]; omega
theorem group_any (n : Int) (hn : n ≤ 9223372036854775807) (w : World) : Calls Try.prog 21 #[.int .i64 n] w fun e w' => e = .returned (.bool (shardsB n)) ∧ Below w.heap.size w w' := by
  have M := Mem.start w
  have hg := group_iff hn
  unfold andNotV at hg
  refine calls_enter Try.func21 rfl 10 rfl rfl ?_; intro a S
  refine nxD ?_
  refine st_go [1] S rfl (by kernel_rfl) ?_; clear S a; intro a S
  refine nxA ?_
  refine st_go [1, 1, 1] S rfl (by kernel_rfl) ?_; clear S a; intro a S
  refine st_fi (t := 5) S rfl ?_ ?_
  · clear S; intro h5 S
    refine st_go [0, 0, 0, 1, 1] S rfl (by kernel_rfl) ?_; clear S a; intro a S
    refine nxC ?_
    refine wp_ret ?_
    refine end_one S rfl (res_tmp rfl) ?_
    refine ⟨ret_bool ?_, M.below⟩; clear S M
    first
      | (rw [decide_eq_false (by omega), Bool.false_and] at hg; exact hg)
      | (rw [decide_eq_true (by omega), Bool.true_and] at hg; exact hg)
  clear S; intro h5 S
  refine st_go [1] S rfl (by kernel_rfl) ?_; clear S a; intro a S
  refine st_y S rfl rfl rfl (y_andNot S rfl rfl) ?_; clear S a; intro a S
  refine st_go [1, 1, 1] S rfl (by kernel_rfl) ?_; clear S a; intro a S
  refine nxC ?_
  refine wp_ret ?_
  refine end_one S rfl (res_tmp rfl) ?_
  refine ⟨ret_bool ?_, M.below⟩; clear S M
  first
    | (rw [decide_eq_false (by omega), Bool.false_and] at hg; exact hg)
    | (rw [decide_eq_true (by omega), Bool.true_and] at hg; exact hg)
theorem changes_any (s t n : Int) (w : World) : Calls Try.prog 22 #[.agg #[.int .i64 s, .int .i64 t], .int .i64 n] w fun e w' => e = .returned (.bool (changesB s t n)) ∧ Below w.heap.size w w' := by
  have M := Mem.start w
  generalize hR : changesB s t n = R
  unfold changesB at hR
  refine calls_enter Try.func22 rfl 37 rfl rfl ?_; intro a S
  refine nxD ?_
  refine st_box S M rfl rfl rfl #[_, _] rfl ?_; clear S M a; intro a w1 b1 S M hB
  refine st_go [1] S rfl (by kernel_rfl) ?_; clear S a; intro a S
  refine nxC ?_
  refine wp_seq ?_
  refine nxD ?_
  refine st_run [1, 1, 1] S M rfl (by kernel_rfl) ?_; clear S a; intro a S
  refine nxC ?_
  refine st_if (t := 7) S rfl ?_ ?_
  · clear S; intro h7 S
    refine st_condT S rfl ?_
    refine nxD ?_
    refine st_run [2, 1, 1, 1] S M rfl (by kernel_rfl) ?_; clear S a; intro a S
    refine nxC ?_
    refine wp_ret ?_
    refine then_ret ?_
    refine end_one S rfl (res_tmp rfl) ?_
    refine ⟨ret_bool ?_, M.below⟩; rw [← hR, if_pos (by omega)]
  clear S; intro h7 S
  refine st_condF S rfl ?_
  refine wp_skip ?_
  refine nxE ?_
  refine st_run [1, 1, 1, 1] S M rfl (by kernel_rfl) ?_; clear S a; intro a S
  refine st_fi (t := 14) S rfl ?_ ?_
  · clear S; intro h14 S
    refine st_go [0, 0, 0, 1, 1, 0, 0, 0, 1, 1, 0, 0, 0, 1, 1, 0, 0, 0, 0, 0, 0, 1, 1] S rfl (by kernel_rfl) ?_; clear S a; intro a S
    replace S := S.sub [(0, _), (1, _), (2, _), (7, _), (4, _)] rfl
    refine nxC ?_
    refine wp_ret ?_
    refine end_one S rfl (res_tmp rfl) ?_
    refine ⟨ret_bool ?_, M.below⟩; rw [← hR, if_neg (by omega)]
    first
      | (rw [decide_eq_false (by omega)]; simp; done)
      | (rw [decide_eq_true (by omega)]; simp [bitK, andV]; done)
  clear S; intro h14 S
  refine st_run [1, 1, 1, 1, 1] S M rfl (by kernel_rfl) ?_; clear S a; intro a S
  refine st_fi (t := 19) S rfl ?_ ?_
  · clear S; intro h19 S
    refine st_go [0, 0, 0, 1, 1, 0, 0, 0, 1, 1, 0, 0, 0, 0, 0, 0, 1, 1] S rfl (by kernel_rfl) ?_; clear S a; intro a S
    replace S := S.sub [(0, _), (1, _), (2, _), (7, _), (4, _)] rfl
    refine nxC ?_
    refine wp_ret ?_
    refine end_one S rfl (res_tmp rfl) ?_
    refine ⟨ret_bool ?_, M.below⟩; rw [← hR, if_neg (by omega)]
    first
      | (rw [decide_eq_false (by omega)]; simp; done)
      | (rw [decide_eq_true (by omega)]; simp [bitK, andV]; done)
  clear S; intro h19 S
  refine st_run [2, 1, 1, 1, 1] S M rfl (by kernel_rfl) ?_; clear S a; intro a S
  refine st_fi (t := 24) S rfl ?_ ?_
  · clear S; intro h24 S
    refine st_go [0, 0, 0, 1, 1, 0, 0, 0, 0, 0, 0, 1, 1] S rfl (by kernel_rfl) ?_; clear S a; intro a S
    replace S := S.sub [(0, _), (1, _), (2, _), (7, _), (4, _)] rfl
    refine nxC ?_
    refine wp_ret ?_
    refine end_one S rfl (res_tmp rfl) ?_
    refine ⟨ret_bool ?_, M.below⟩; rw [← hR, if_neg (by omega)]
    first
      | (rw [decide_eq_false (by omega)]; simp; done)
      | (rw [decide_eq_true (by omega)]; simp [bitK, andV]; done)
  clear S; intro h24 S
  refine st_run [2, 1, 1, 1, 1] S M rfl (by kernel_rfl) ?_; clear S a; intro a S
  refine st_fi (t := 29) S rfl ?_ ?_
  · clear S; intro h29 S
    refine st_go [0, 0, 0, 0, 0, 0, 1, 1] S rfl (by kernel_rfl) ?_; clear S a; intro a S
    replace S := S.sub [(0, _), (1, _), (2, _), (7, _), (4, _)] rfl
    refine nxC ?_
    refine wp_ret ?_
    refine end_one S rfl (res_tmp rfl) ?_
    refine ⟨ret_bool ?_, M.below⟩; rw [← hR, if_neg (by omega)]
    first
      | (rw [decide_eq_false (by omega)]; simp; done)
      | (rw [decide_eq_true (by omega)]; simp [bitK, andV]; done)
  clear S; intro h29 S
  refine st_run [1, 2, 1] S M rfl (by kernel_rfl) ?_; clear S a; intro a S
  (first | refine st_y S rfl rfl rfl (y_shrN S rfl rfl (by omega)) ?_ | refine st_y S rfl rfl rfl (y_shr S rfl rfl (by omega)) ?_); clear S a; intro a S
  refine st_y S rfl rfl rfl (y_int S rfl rfl rfl) ?_; clear S a; intro a S
  refine st_go [1, 1, 1] S rfl (by kernel_rfl) ?_; clear S a; intro a S
  replace S := S.sub [(0, _), (1, _), (2, _), (7, _), (4, _)] rfl
  refine nxC ?_
  refine wp_ret ?_
  refine end_one S rfl (res_tmp rfl) ?_
  refine ⟨ret_bool ?_, M.below⟩; rw [← hR, if_neg (by omega)]
  first
    | (rw [decide_eq_false (by omega)]; simp; done)
    | (rw [decide_eq_true (by omega)]; simp [bitK, andV]; done)
theorem writesC_any (va : Option Addr) (vc : Nat) (x : List Wr) (s t : Int) (w : World) (hv : Ws 0 w.heap.size w (.slice va x.length vc) x) : Calls Try.prog 23 #[.slice va x.length vc, .agg #[.int .i64 s, .int .i64 t]] w fun e w' => e = .returned (.bool (writesB x s)) ∧ Below w.heap.size w w' := by
  have M := Mem.start w
  refine calls_enter Try.func23 rfl 17 rfl rfl ?_; intro a S
  refine nxD ?_
  refine st_box S M rfl rfl rfl #[_, _] rfl ?_; clear S M a; intro a w1 b1 S M hB
  refine st_go [1] S rfl (by kernel_rfl) ?_; clear S a; intro a S
  refine nxA ?_
  refine st_go [1] S rfl (by kernel_rfl) ?_; clear S a; intro a S
  refine st_call (xs := [(Operand.tmp 5)]) S (enters_of Try.func50 (by decide) rfl) rfl rfl rfl (written_any _ x _ (M.argW hv)) ?_
  rintro _ w2 ⟨rfl, hK⟩; refine ⟨_, rfl, ?_⟩; clear S a; intro a S; replace M := M.grow hK
  refine st_go [1] S rfl (by kernel_rfl) ?_; clear S a; intro a S
  refine st_tils (t := 7) S rfl ?_ ?_
  · clear S; intro h7 S
    refine st_go [0, 0, 0, 0, 0, 0, 0, 0, 1, 1] S rfl (by kernel_rfl) ?_; clear S a; intro a S
    refine nxC ?_
    refine wp_ret ?_
    refine end_one S rfl (res_tmp rfl) ?_
    refine ⟨ret_bool ?_, M.below⟩; clear S M; unfold writesB; (cases x <;> simp_all <;> omega)
  clear S; intro h7 S
  refine st_go [1] S rfl (by kernel_rfl) ?_; clear S a; intro a S
  refine st_y S rfl rfl rfl (y_lenS (E := 80) S rfl (by kernel_rfl)) ?_; clear S a; intro a S
  refine st_go [1, 1] S rfl (by kernel_rfl) ?_; clear S a; intro a S
  refine st_split (t := 11) S rfl ?_ ?_
  · clear S; intro h11 S
    refine st_go [0, 0, 0, 1, 1, 1] S rfl (by kernel_rfl) ?_; clear S a; intro a S
    refine nxC ?_
    refine wp_ret ?_
    refine end_one S rfl (res_tmp rfl) ?_
    refine ⟨ret_bool ?_, M.below⟩; clear S M; unfold writesB; (cases x <;> simp_all <;> omega)
  clear S; intro h11 S
  refine st_run [1, 1, 1, 1, 1, 1] S M rfl (by kernel_rfl) ?_; clear S a; intro a S
  refine nxC ?_
  refine wp_ret ?_
  refine end_one S rfl (res_tmp rfl) ?_
  refine ⟨ret_bool ?_, M.below⟩; clear S M; unfold writesB; (cases x <;> simp_all <;> omega)

/-- the slice v reads as these that are driven, each with its writes -/
def DrsC (cs : List Value) (lo hi : Nat) (w : World) (v : Value) (ds : Dl) : Prop :=
  Rd lo hi w 10 v ds.length cs ∧ ∀ (i : Nat) (q : Dr × List Wr), ds[i]? = some q → ∃ lv, (cs.drop (i * 10)).take 10 = (q.1.cells lv).toList ∧ Ws lo hi w lv q.2
theorem DrsC.same {cs : List Value} {lo hi : Nat} {w w' : World} {v : Value} {ds : Dl} (h : DrsC cs lo hi w v ds) (hs : SameOn lo hi w w') : DrsC cs lo hi w' v ds :=
  ⟨h.1.same hs, fun i q hi => let ⟨lv, e, hb⟩ := h.2 i q hi; ⟨lv, e, hb.same hs⟩⟩
theorem DrsC.wide {cs : List Value} {lo hi lo' hi' : Nat} {w : World} {v : Value} {ds : Dl} (h : DrsC cs lo hi w v ds) (h1 : lo' ≤ lo) (h2 : hi ≤ hi') : DrsC cs lo' hi' w v ds :=
  ⟨h.1.wide h1 h2, fun i q hi => let ⟨lv, e, hb⟩ := h.2 i q hi; ⟨lv, e, hb.wide h1 h2⟩⟩
theorem DrsC.nil (lo hi : Nat) (w : World) : DrsC [] lo hi w (.slice none 0 0) [] := ⟨Rd.nil _ _ _ _, fun i q hi => by simp at hi⟩
theorem Mem.drs {w0 w : World} {H : List Ent} {cs : List Value} {v : Value} {ds : Dl} (M : Mem w0 w H) (h : DrsC cs 0 w0.heap.size w0 v ds) : DrsC cs 0 w0.heap.size w v ds := h.same fun k _ h2 => M.below.block k h2
theorem Mem.drsW {w0 w : World} {H : List Ent} {cs : List Value} {v : Value} {ds : Dl} (M : Mem w0 w H) (h : DrsC cs 0 w0.heap.size w0 v ds) : DrsC cs 0 w.heap.size w v ds := (M.drs h).wide (Nat.le_refl _) M.below.size
theorem DrsC.sl {cs : List Value} {lo hi i : Nat} {w : World} {v : Value} {ds : Dl} {q : Dr × List Wr} (h : DrsC cs lo hi w v ds) (hi' : ds[i]? = some q) : ∃ ad cp, (cs.drop (i * 10)).take 10 = (q.1.cells (.slice ad q.2.length cp)).toList ∧ Ws lo hi w (.slice ad q.2.length cp) q.2 := by
  obtain ⟨lv, e, hb⟩ := h.2 i q hi'
  obtain ⟨ad, cp, rfl, -, -⟩ := hb.form
  exact ⟨ad, cp, e, hb⟩
theorem DrsC.at0 {cs : List Value} {lo hi i : Nat} {w : World} {v : Value} {ds : Dl} {q : Dr × List Wr} (h : DrsC cs lo hi w v ds) (hi' : ds[i]? = some q) : ∃ ad cp, CellsAt w (adr v).block ((adr v).off + i * 10) (q.1.cells (.slice ad q.2.length cp)).toList := by
  obtain ⟨ad, cp, e, -⟩ := h.sl hi'
  exact ⟨ad, cp, h.1.at_.row e rfl⟩
/-- what must hold of the k-th and those ahead of it -/
def drAt (ds : Dl) (k : Nat) : Prop := ∀ q, ds[k]? = some q → drOk q = true ∧ ∀ p, 0 < k → ds[k - 1]? = some p → p.1.name.less q.1.name = true
theorem mach_at {ds : Dl} (h : machB ds = true) (k : Nat) : drAt ds k := fun q hq => by
  obtain ⟨-, h2, h3⟩ := machB_iff.1 h
  refine ⟨h2 q (List.mem_of_getElem? hq), fun p hk hp => rises_iff.1 h3 (k - 1) p q hp (by rw [Nat.sub_add_cancel hk]; exact hq)⟩
theorem mach_of {ds : Dl} (hl : ds.length ≤ 8) (h : ∀ k, k < ds.length → drAt ds k) : machB ds = true := by
  refine machB_iff.2 ⟨hl, fun q hq => ?_, rises_iff.2 fun i p q hp hq => ?_⟩
  · obtain ⟨k, hk⟩ := List.getElem?_of_mem hq
    exact (h k (List.getElem?_eq_some_iff.1 hk).1 q hk).1
  · exact (h (i + 1) (List.getElem?_eq_some_iff.1 hq).1 q hq).2 p (by omega) hp
theorem drOk_iff {q : Dr × List Wr} : drOk q = true ↔ q.1.name.named = true ∧ (1 ≤ q.1.phase ∧ q.1.phase ≤ 3) ∧ shardsB q.1.shards = true ∧ andNotV q.1.yes q.1.shards = 0 ∧ andNotV q.1.acks q.1.shards = 0 ∧ (q.1.phase = 1 ∨ q.1.yes = q.1.shards) ∧ (q.1.phase = 3 ∨ q.1.acks = 0) ∧ changesB q.1.cs q.1.ct q.1.shards = true ∧ writesB q.2 q.1.cs = true := by
  unfold drOk subB; simp [and_assoc]
theorem CellsAt.take {w : World} {b o : Nat} {cs : List Value} (k : Nat) (h : CellsAt w b o cs) : CellsAt w b o (cs.take k) := fun j hj => by
  rw [List.length_take] at hj
  rw [h j (by omega), List.getElem?_take_of_lt (by omega)]
set_option maxHeartbeats 2000000 in
theorem check21_any (va : Option Addr) (vc : Nat) (cs : List Value) (ds : Dl) (w : World) (hv : DrsC cs 0 w.heap.size w (.slice va ds.length vc) ds) (hb : ∀ q ∈ ds, q.1.shards ≤ 9223372036854775807) :
    Calls Try.prog 7 #[.agg #[.slice va ds.length vc]] w fun e w' => e = .returned (.int .i64 (if machB ds = true then 0 else 2)) ∧ Below w.heap.size w w' := by
  have M := Mem.start w
  have hl := hv.1.2.1
  unfold maxLen at hl
  generalize hR : (if machB ds = true then (0 : Int) else 2) = R
  have hno : ∀ k, ¬ drAt ds k → R = 2 := fun k h => by rw [← hR, if_neg fun hm => h (mach_at hm k)]
  refine calls_enter Try.func7 rfl 106 rfl rfl ?_; intro a S
  refine nxD ?_
  refine st_box S M rfl rfl rfl #[_] rfl ?_; clear S M a; intro a w1 bF S M hB
  refine st_go [1] S rfl (by kernel_rfl) ?_; clear S a; intro a S
  refine nxC ?_
  refine wp_seq ?_
  refine nxD ?_
  refine st_run [1, 1] S M rfl (by kernel_rfl) ?_; clear S a; intro a S
  refine st_y S rfl rfl rfl (y_lenS (E := 59) S rfl (by kernel_rfl)) ?_; clear S a; intro a S
  refine st_go [1] S rfl (by kernel_rfl) ?_; clear S a; intro a S
  refine nxC ?_
  refine st_if (t := 8) S rfl ?_ ?_
  · clear S; intro h8 S
    refine st_condT S rfl ?_
    refine nxD ?_
    refine st_go [1] S rfl (by kernel_rfl) ?_; clear S a; intro a S
    refine nxC ?_
    refine wp_ret ?_
    refine then_ret ?_
    refine end_one S rfl (res_tmp rfl) ?_
    refine ⟨?_, M.below⟩
    rw [← hR, if_neg]
    intro hm; have := (machB_iff.1 hm).1; omega
  clear S; intro h8 S
  refine st_condF S rfl ?_
  refine wp_skip ?_
  refine then_normal ?_
  refine wp_seq ?_
  refine nxD ?_
  refine st_run [1, 1] S M rfl (by kernel_rfl) ?_; clear S a; intro a S
  refine st_y S rfl rfl rfl (y_lenS (E := 59) S rfl (by kernel_rfl)) ?_; clear S a; intro a S
  refine st_go [1] S rfl (by kernel_rfl) ?_; clear S a; intro a S
  refine nxC ?_
  refine wp_block ?_
  refine wp_loop_g (fun m a w' => ∃ (k : Nat), k ≤ ds.length ∧ m = ds.length - k ∧ Sees 106 a [(1, .pointer (some ⟨bF, 0, none⟩)), (10, .slice va ds.length vc), (11, .int .i64 (ds.length : Int)), (12, .int .i64 (k : Int))] ∧ Mem w w' [.blk bF #[.slice va ds.length vc] 24] ∧ ∀ i, i < k → drAt ds i) (ds.length) ?_ ?_
  · skip
    exact ⟨0, Nat.zero_le _, rfl, S.sub _ rfl, M, fun i h => absurd h (by omega)⟩
  clear S M a; intro m a wl
  rintro ⟨k, hk, rfl, S, M, hat⟩
  refine nxD ?_
  refine st_go [1] S rfl (by kernel_rfl) ?_; clear S a; intro a S
  refine nxC ?_
  refine wp_seq ?_
  refine st_fi (t := 13) S rfl ?_ ?_
  · clear S; intro h13 S
    refine st_condF S rfl ?_
    refine wp_exit ?_
    refine then_exit ?_
    refine then_exit ?_
    refine block_hit ?_
    refine nxE ?_
    refine st_go [1] S rfl (by kernel_rfl) ?_; clear S a; intro a S
    refine nxC ?_
    refine wp_ret ?_
    refine end_one S rfl (res_tmp rfl) ?_
    refine ⟨?_, M.below⟩
    rw [← hR, if_pos (mach_of (by omega) fun i hi => hat i (by omega))]
  clear S; intro h13 S
  refine st_condT S rfl ?_
  refine wp_skip ?_
  refine then_normal ?_
  refine wp_seq ?_
  refine wp_block ?_
  refine wp_seq ?_
  have hk' : k < ds.length := by omega
  obtain ⟨q, hq⟩ : ∃ q, ds[k]? = some q := ⟨_, List.getElem?_eq_getElem hk'⟩
  obtain ⟨p, hp⟩ : ∃ p, 0 < k → ds[((k : Int) - 1).toNat]? = some p := by
    rcases Nat.eq_zero_or_pos k with h | h
    · exact ⟨q, fun h' => absurd h' (by omega)⟩
    · exact ⟨ds[((k : Int) - 1).toNat]'(by omega), fun _ => List.getElem?_eq_getElem _⟩
  have hp' : 0 < k → ds[k - 1]? = some p := fun h => by rw [← hp h]; congr 1; omega
  obtain ⟨pa, pc, hrowp⟩ : ∃ pa pc, 0 < k → (cs.drop (((k : Int) - 1).toNat * 10)).take 10 = (p.1.cells (.slice pa p.2.length pc)).toList := by
    rcases Nat.eq_zero_or_pos k with h | h
    · exact ⟨none, 0, fun h' => absurd h' (by omega)⟩
    · obtain ⟨pa, pc, e, -⟩ := hv.sl (hp h); exact ⟨pa, pc, fun _ => e⟩
  obtain ⟨ad, cp, hrow, hws⟩ := hv.sl hq
  refine wp_region_lit ?_
  refine st_go [1] S rfl (by kernel_rfl) ?_; clear S a; intro a S
  refine st_y S rfl rfl rfl (y_indexR (e := 59) (sz := 10) S (by kernel_rfl) rfl ((M.drs hv).1) rfl (by first | omega | (simp; done) | (simp; omega))) ?_; clear S a; intro a S
  try simp only [Int.toNat_natCast, Nat.mul_one, Nat.zero_add] at S
  refine st_y S rfl rfl rfl (y_loadAgg S (by kernel_rfl) rfl rfl ((M.drs hv).1.at_.row (i := k) hrow rfl)) ?_; clear S a; intro a S
  refine st_alloc S M rfl rfl #[.int .i64 0, .int .i64 0, .int .i64 0, .int .i8 0, .int .i64 0, .int .i64 0, .int .i64 0, .int .i64 0, .int .i64 0, .slice none 0 0] (by kernel_rfl) ?_; clear S M a; intro a w2 bD S M hB
  refine st_go [1] S rfl (by kernel_rfl) ?_; clear S a; intro a S
  refine st_store (sz := 10) (us := [_, _, _, _, _, _, _, _, _, _]) S M 0 rfl (by kernel_rfl) rfl rfl rfl rfl rfl rfl (by first | decide | (simp; done) | (simp; omega)) ?_; clear M; intro w3 M
  simp only [putL, List.set_cons_zero, List.set_cons_succ, Nat.reduceAdd] at M
  refine nxC ?_
  refine wp_block ?_
  refine wp_seq ?_
  refine wp_regionK [] #[false, false, false, false, false, false, false, false, false, false, false, false, false, false, false, false, false, false, false, false, false, false] rfl M (by kernel_rfl) ?_; clear M; intro w4 M
  refine k_pure (listed' := #[true, false, false, false, false, false, false, false, false, false, false, false, false, false, false, false, false, false, false, false, false, false]) 0 S rfl rfl rfl rfl (by kernel_rfl) rfl (fun _ d _ _ _ h => by cases d <;> exact h) (fun w => y_fieldAddr (k := 0) S (by kernel_rfl) rfl) ?_; clear S a; intro a S
  refine k_read (listed' := #[true, true, false, false, false, false, false, false, false, false, false, false, false, false, false, false, false, false, false, false, false, false]) 1 S rfl rfl rfl rfl (by kernel_rfl) rfl (fun _ d _ _ _ h => by cases d <;> exact h) (fun w hW => have M := M.grow hW; y_loadAgg (cs := [_, _, _]) S (by kernel_rfl) rfl rfl (M.cellsAt (k := 3) 0 rfl rfl)) ?_; clear S a; intro a S
  refine k_one (listed' := #[true, true, true, false, false, false, false, false, false, false, false, false, false, false, false, false, false, false, false, false, false, false]) 2 rfl (by kernel_rfl) rfl ?_
  refine st_call (xs := [(Operand.tmp 19)]) S (enters_of Try.func19 (by decide) rfl) rfl rfl rfl (named_any q.1.name _) ?_
  rintro _ w5 ⟨rfl, hK⟩; refine ⟨_, rfl, ?_⟩; clear S a; intro a S; replace M := M.grow hK
  refine wpList_nil ?_; refine then_normal ?_; refine ⟨fun _ => hK, ?_⟩
  refine k_pure (listed' := #[true, true, true, true, false, false, false, false, false, false, false, false, false, false, false, false, false, false, false, false, false, false]) 3 S rfl rfl rfl rfl (by kernel_rfl) rfl (fun _ d _ _ _ h => by cases d <;> exact h) (fun w => y_not S rfl) ?_; clear S a; intro a S
  refine k_pure (listed' := #[true, true, true, true, true, false, false, false, false, false, false, false, false, false, false, false, false, false, false, false, false, false]) 4 S rfl rfl rfl rfl (by kernel_rfl) rfl (fun _ d _ _ _ h => by cases d <;> exact h) (fun w => y_move S rfl) ?_; clear S a; intro a S
  refine st_if (t := 22) S rfl ?_ ?_
  · clear S; intro h22 S
    refine k_no (listed' := #[true, true, true, true, true, true, false, false, false, false, false, false, false, false, false, false, false, false, false, false, false, false]) 5 S rfl rfl rfl rfl (by kernel_rfl) rfl (fun _ d _ _ _ h => by cases d <;> exact h) ?_; clear S a; intro a S
    refine k_no (listed' := #[true, true, true, true, true, true, true, false, false, false, false, false, false, false, false, false, false, false, false, false, false, false]) 6 S rfl rfl rfl rfl (by kernel_rfl) rfl (fun _ d _ _ _ h => by cases d <;> exact h) ?_; clear S a; intro a S
    refine k_no (listed' := #[true, true, true, true, true, true, true, true, false, false, false, false, false, false, false, false, false, false, false, false, false, false]) 7 S rfl rfl rfl rfl (by kernel_rfl) rfl (fun _ d _ _ _ h => by cases d <;> exact h) ?_; clear S a; intro a S
    refine k_no (listed' := #[true, true, true, true, true, true, true, true, true, false, false, false, false, false, false, false, false, false, false, false, false, false]) 8 S rfl rfl rfl rfl (by kernel_rfl) rfl (fun _ d _ _ _ h => by cases d <;> exact h) ?_; clear S a; intro a S
    refine k_no (listed' := #[true, true, true, true, true, true, true, true, true, true, false, false, false, false, false, false, false, false, false, false, false, false]) 9 S rfl rfl rfl rfl (by kernel_rfl) rfl (fun _ d _ _ _ h => by cases d <;> exact h) ?_; clear S a; intro a S
    refine k_no (listed' := #[true, true, true, true, true, true, true, true, true, true, true, false, false, false, false, false, false, false, false, false, false, false]) 10 S rfl rfl rfl rfl (by kernel_rfl) rfl (fun _ d _ _ _ h => by cases d <;> exact h) ?_; clear S a; intro a S
    refine k_no (listed' := #[true, true, true, true, true, true, true, true, true, true, true, true, false, false, false, false, false, false, false, false, false, false]) 11 S rfl rfl rfl rfl (by kernel_rfl) rfl (fun _ d _ _ _ h => by cases d <;> exact h) ?_; clear S a; intro a S
    refine k_no (listed' := #[true, true, true, true, true, true, true, true, true, true, true, true, true, false, false, false, false, false, false, false, false, false]) 12 S rfl rfl rfl rfl (by kernel_rfl) rfl (fun _ d _ _ _ h => by cases d <;> exact h) ?_; clear S a; intro a S
    refine k_no (listed' := #[true, true, true, true, true, true, true, true, true, true, true, true, true, true, false, false, false, false, false, false, false, false]) 13 S rfl rfl rfl rfl (by kernel_rfl) rfl (fun _ d _ _ _ h => by cases d <;> exact h) ?_; clear S a; intro a S
    refine k_no (listed' := #[true, true, true, true, true, true, true, true, true, true, true, true, true, true, true, false, false, false, false, false, false, false]) 14 S rfl rfl rfl rfl (by kernel_rfl) rfl (fun _ d _ _ _ h => by cases d <;> exact h) ?_; clear S a; intro a S
    refine k_no (listed' := #[true, true, true, true, true, true, true, true, true, true, true, true, true, true, true, true, false, false, false, false, false, false]) 15 S rfl rfl rfl rfl (by kernel_rfl) rfl (fun _ d _ _ _ h => by cases d <;> exact h) ?_; clear S a; intro a S
    refine k_no (listed' := #[true, true, true, true, true, true, true, true, true, true, true, true, true, true, true, true, true, false, false, false, false, false]) 16 S rfl rfl rfl rfl (by kernel_rfl) rfl (fun _ d _ _ _ h => by cases d <;> exact h) ?_; clear S a; intro a S
    refine k_no (listed' := #[true, true, true, true, true, true, true, true, true, true, true, true, true, true, true, true, true, true, false, false, false, false]) 17 S rfl rfl rfl rfl (by kernel_rfl) rfl (fun _ d _ _ _ h => by cases d <;> exact h) ?_; clear S a; intro a S
    refine k_no (listed' := #[true, true, true, true, true, true, true, true, true, true, true, true, true, true, true, true, true, true, true, false, false, false]) 18 S rfl rfl rfl rfl (by kernel_rfl) rfl (fun _ d _ _ _ h => by cases d <;> exact h) ?_; clear S a; intro a S
    refine k_no (listed' := #[true, true, true, true, true, true, true, true, true, true, true, true, true, true, true, true, true, true, true, true, false, false]) 19 S rfl rfl rfl rfl (by kernel_rfl) rfl (fun _ d _ _ _ h => by cases d <;> exact h) ?_; clear S a; intro a S
    refine k_pure (listed' := #[true, true, true, true, true, true, true, true, true, true, true, true, true, true, true, true, true, true, true, true, true, false]) 20 S rfl rfl rfl rfl (by kernel_rfl) rfl (fun _ d _ _ _ h => by cases d <;> exact h) (fun w => y_pickT S rfl rfl) ?_; clear S a; intro a S
    refine k_pure (listed' := #[true, true, true, true, true, true, true, true, true, true, true, true, true, true, true, true, true, true, true, true, true, true]) 21 S rfl rfl rfl rfl (by kernel_rfl) rfl (fun _ d _ _ _ h => by cases d <;> exact h) (fun w => y_assign S rfl) ?_; clear S a; intro a S
    refine k_end (by kernel_rfl) ?_
    replace S := S.sub [(1, _), (10, _), (11, _), (12, _), (13, _), (4, _), (3, _), (17, _)] rfl
    refine then_normal ?_
    refine st_condT S rfl ?_
    refine nxD ?_
    refine st_go [1] S rfl (by kernel_rfl) ?_; clear S a; intro a S
    refine nxC ?_
    refine wp_ret ?_
    refine block_ret ?_
    refine block_ret ?_
    refine then_ret ?_
    refine then_ret ?_
    refine block_ret ?_
    refine then_ret ?_
    refine end_one S rfl (res_tmp rfl) ?_
    refine ⟨?_, M.below⟩
    rw [hno k fun h => ?_]
    obtain ⟨hok, hls⟩ := h q hq
    obtain ⟨g1, g2, g3, g4, g5, g6, g7, g8, g9⟩ := drOk_iff.1 hok
    have gl : 0 < k → p.1.name.less q.1.name = true := fun h0 => hls p h0 (hp' h0)
    clear S M
    unfold andNotV at g4 g5
    first
      | omega
      | contradiction
      | (simp_all; done)
      | (have gl := gl (by omega); simp_all; done)
  clear S; intro h22 S
  refine k_pure (listed' := #[true, true, true, true, true, true, false, false, false, false, false, false, false, false, false, false, false, false, false, false, false, false]) 5 S rfl rfl rfl rfl (by kernel_rfl) rfl (fun _ d _ _ _ h => by cases d <;> exact h) (fun w => y_move S rfl) ?_; clear S a; intro a S
  refine k_pure (listed' := #[true, true, true, true, true, true, true, false, false, false, false, false, false, false, false, false, false, false, false, false, false, false]) 6 S rfl rfl rfl rfl (by kernel_rfl) rfl (fun _ d _ _ _ h => by cases d <;> exact h) (fun w => y_int S rfl rfl rfl) ?_; clear S a; intro a S
  refine k_pure (listed' := #[true, true, true, true, true, true, true, true, false, false, false, false, false, false, false, false, false, false, false, false, false, false]) 7 S rfl rfl rfl rfl (by kernel_rfl) rfl (fun _ d _ _ _ h => by cases d <;> exact h) (fun w => y_move S rfl) ?_; clear S a; intro a S
  refine st_fi (t := 25) S rfl ?_ ?_
  · clear S; intro h25 S
    refine k_no (listed' := #[true, true, true, true, true, true, true, true, true, false, false, false, false, false, false, false, false, false, false, false, false, false]) 8 S rfl rfl rfl rfl (by kernel_rfl) rfl (fun _ d _ _ _ h => by cases d <;> exact h) ?_; clear S a; intro a S
    refine k_no (listed' := #[true, true, true, true, true, true, true, true, true, true, false, false, false, false, false, false, false, false, false, false, false, false]) 9 S rfl rfl rfl rfl (by kernel_rfl) rfl (fun _ d _ _ _ h => by cases d <;> exact h) ?_; clear S a; intro a S
    refine k_no (listed' := #[true, true, true, true, true, true, true, true, true, true, true, false, false, false, false, false, false, false, false, false, false, false]) 10 S rfl rfl rfl rfl (by kernel_rfl) rfl (fun _ d _ _ _ h => by cases d <;> exact h) ?_; clear S a; intro a S
    refine k_no (listed' := #[true, true, true, true, true, true, true, true, true, true, true, true, false, false, false, false, false, false, false, false, false, false]) 11 S rfl rfl rfl rfl (by kernel_rfl) rfl (fun _ d _ _ _ h => by cases d <;> exact h) ?_; clear S a; intro a S
    refine k_no (listed' := #[true, true, true, true, true, true, true, true, true, true, true, true, true, false, false, false, false, false, false, false, false, false]) 12 S rfl rfl rfl rfl (by kernel_rfl) rfl (fun _ d _ _ _ h => by cases d <;> exact h) ?_; clear S a; intro a S
    refine k_no (listed' := #[true, true, true, true, true, true, true, true, true, true, true, true, true, true, false, false, false, false, false, false, false, false]) 13 S rfl rfl rfl rfl (by kernel_rfl) rfl (fun _ d _ _ _ h => by cases d <;> exact h) ?_; clear S a; intro a S
    refine k_no (listed' := #[true, true, true, true, true, true, true, true, true, true, true, true, true, true, true, false, false, false, false, false, false, false]) 14 S rfl rfl rfl rfl (by kernel_rfl) rfl (fun _ d _ _ _ h => by cases d <;> exact h) ?_; clear S a; intro a S
    refine k_no (listed' := #[true, true, true, true, true, true, true, true, true, true, true, true, true, true, true, true, false, false, false, false, false, false]) 15 S rfl rfl rfl rfl (by kernel_rfl) rfl (fun _ d _ _ _ h => by cases d <;> exact h) ?_; clear S a; intro a S
    refine k_no (listed' := #[true, true, true, true, true, true, true, true, true, true, true, true, true, true, true, true, true, false, false, false, false, false]) 16 S rfl rfl rfl rfl (by kernel_rfl) rfl (fun _ d _ _ _ h => by cases d <;> exact h) ?_; clear S a; intro a S
    refine k_no (listed' := #[true, true, true, true, true, true, true, true, true, true, true, true, true, true, true, true, true, true, false, false, false, false]) 17 S rfl rfl rfl rfl (by kernel_rfl) rfl (fun _ d _ _ _ h => by cases d <;> exact h) ?_; clear S a; intro a S
    refine k_no (listed' := #[true, true, true, true, true, true, true, true, true, true, true, true, true, true, true, true, true, true, true, false, false, false]) 18 S rfl rfl rfl rfl (by kernel_rfl) rfl (fun _ d _ _ _ h => by cases d <;> exact h) ?_; clear S a; intro a S
    refine k_pure (listed' := #[true, true, true, true, true, true, true, true, true, true, true, true, true, true, true, true, true, true, true, true, false, false]) 19 S rfl rfl rfl rfl (by kernel_rfl) rfl (fun _ d _ _ _ h => by cases d <;> exact h) (fun w => y_pickF S rfl rfl) ?_; clear S a; intro a S
    refine k_pure (listed' := #[true, true, true, true, true, true, true, true, true, true, true, true, true, true, true, true, true, true, true, true, true, false]) 20 S rfl rfl rfl rfl (by kernel_rfl) rfl (fun _ d _ _ _ h => by cases d <;> exact h) (fun w => y_pickF S rfl rfl) ?_; clear S a; intro a S
    refine k_pure (listed' := #[true, true, true, true, true, true, true, true, true, true, true, true, true, true, true, true, true, true, true, true, true, true]) 21 S rfl rfl rfl rfl (by kernel_rfl) rfl (fun _ d _ _ _ h => by cases d <;> exact h) (fun w => y_assign S rfl) ?_; clear S a; intro a S
    refine k_end (by kernel_rfl) ?_
    replace S := S.sub [(1, _), (10, _), (11, _), (12, _), (13, _), (4, _), (3, _), (17, _)] rfl
    refine then_normal ?_
    refine st_condF S rfl ?_
    refine nxD ?_
    refine st_run [4, 1, 1, 1] S M rfl (by kernel_rfl) ?_; clear S a; intro a S
    refine st_if (t := 43) S rfl ?_ ?_
    · clear S; intro h43 S
      refine st_go [0, 0, 0, 1, 1, 0, 0, 0, 0, 1, 1] S rfl (by kernel_rfl) ?_; clear S a; intro a S
      replace S := S.sub [(1, _), (10, _), (11, _), (12, _), (13, _), (4, _), (3, _), (17, _), (39, _)] rfl
      refine nxC ?_
      refine st_condT S rfl ?_
      refine nxD ?_
      refine st_go [1] S rfl (by kernel_rfl) ?_; clear S a; intro a S
      refine nxC ?_
      refine wp_ret ?_
      refine block_ret ?_
      refine block_ret ?_
      refine then_ret ?_
      refine then_ret ?_
      refine block_ret ?_
      refine then_ret ?_
      refine end_one S rfl (res_tmp rfl) ?_
      refine ⟨?_, M.below⟩
      rw [hno k fun h => ?_]
      obtain ⟨hok, hls⟩ := h q hq
      obtain ⟨g1, g2, g3, g4, g5, g6, g7, g8, g9⟩ := drOk_iff.1 hok
      have gl : 0 < k → p.1.name.less q.1.name = true := fun h0 => hls p h0 (hp' h0)
      clear S M
      unfold andNotV at g4 g5
      first
        | omega
        | contradiction
        | (simp_all; done)
        | (have gl := gl (by omega); simp_all; done)
    clear S; intro h43 S
    refine st_run [4, 1, 1, 1, 1] S M rfl (by kernel_rfl) ?_; clear S a; intro a S
    refine st_if (t := 48) S rfl ?_ ?_
    · clear S; intro h48 S
      refine st_go [0, 0, 0, 0, 1, 1] S rfl (by kernel_rfl) ?_; clear S a; intro a S
      replace S := S.sub [(1, _), (10, _), (11, _), (12, _), (13, _), (4, _), (3, _), (17, _), (39, _)] rfl
      refine nxC ?_
      refine st_condT S rfl ?_
      refine nxD ?_
      refine st_go [1] S rfl (by kernel_rfl) ?_; clear S a; intro a S
      refine nxC ?_
      refine wp_ret ?_
      refine block_ret ?_
      refine block_ret ?_
      refine then_ret ?_
      refine then_ret ?_
      refine block_ret ?_
      refine then_ret ?_
      refine end_one S rfl (res_tmp rfl) ?_
      refine ⟨?_, M.below⟩
      rw [hno k fun h => ?_]
      obtain ⟨hok, hls⟩ := h q hq
      obtain ⟨g1, g2, g3, g4, g5, g6, g7, g8, g9⟩ := drOk_iff.1 hok
      have gl : 0 < k → p.1.name.less q.1.name = true := fun h0 => hls p h0 (hp' h0)
      clear S M
      unfold andNotV at g4 g5
      first
        | omega
        | contradiction
        | (simp_all; done)
        | (have gl := gl (by omega); simp_all; done)
    clear S; intro h48 S
    refine st_run [5, 1] S M rfl (by kernel_rfl) ?_; clear S a; intro a S
    refine st_call (xs := [(Operand.tmp 50)]) S (enters_of Try.func21 (by decide) rfl) rfl rfl rfl (group_any _ (hb q (List.mem_of_getElem? hq)) _) ?_
    rintro _ w16 ⟨rfl, hK⟩; refine ⟨_, rfl, ?_⟩; clear S a; intro a S; replace M := M.grow hK
    refine st_go [1, 1, 1] S rfl (by kernel_rfl) ?_; clear S a; intro a S
    replace S := S.sub [(1, _), (10, _), (11, _), (12, _), (13, _), (4, _), (3, _), (17, _), (39, _)] rfl
    refine nxC ?_
    refine st_if (t := 39) S rfl ?_ ?_
    · clear S; intro h39 S
      refine st_condT S rfl ?_
      refine nxD ?_
      refine st_go [1] S rfl (by kernel_rfl) ?_; clear S a; intro a S
      refine nxC ?_
      refine wp_ret ?_
      refine block_ret ?_
      refine block_ret ?_
      refine then_ret ?_
      refine then_ret ?_
      refine block_ret ?_
      refine then_ret ?_
      refine end_one S rfl (res_tmp rfl) ?_
      refine ⟨?_, M.below⟩
      rw [hno k fun h => ?_]
      obtain ⟨hok, hls⟩ := h q hq
      obtain ⟨g1, g2, g3, g4, g5, g6, g7, g8, g9⟩ := drOk_iff.1 hok
      have gl : 0 < k → p.1.name.less q.1.name = true := fun h0 => hls p h0 (hp' h0)
      clear S M
      unfold andNotV at g4 g5
      first
        | omega
        | contradiction
        | (simp_all; done)
        | (have gl := gl (by omega); simp_all; done)
    clear S; intro h39 S
    refine st_condF S rfl ?_
    refine nxD ?_
    refine st_run [6, 1, 5, 1] S M rfl (by kernel_rfl) ?_; clear S a; intro a S
    refine st_y S rfl rfl rfl (y_andNot S rfl rfl) ?_; clear S a; intro a S
    refine st_go [1, 1] S rfl (by kernel_rfl) ?_; clear S a; intro a S
    refine st_if (t := 61) S rfl ?_ ?_
    · clear S; intro h61 S
      refine st_go [0, 0, 0, 0, 0, 0, 1, 1] S rfl (by kernel_rfl) ?_; clear S a; intro a S
      replace S := S.sub [(1, _), (10, _), (11, _), (12, _), (13, _), (4, _), (3, _), (17, _), (39, _), (54, _)] rfl
      refine nxC ?_
      refine st_condT S rfl ?_
      refine nxD ?_
      refine st_go [1] S rfl (by kernel_rfl) ?_; clear S a; intro a S
      refine nxC ?_
      refine wp_ret ?_
      refine block_ret ?_
      refine block_ret ?_
      refine then_ret ?_
      refine then_ret ?_
      refine block_ret ?_
      refine then_ret ?_
      refine end_one S rfl (res_tmp rfl) ?_
      refine ⟨?_, M.below⟩
      rw [hno k fun h => ?_]
      obtain ⟨hok, hls⟩ := h q hq
      obtain ⟨g1, g2, g3, g4, g5, g6, g7, g8, g9⟩ := drOk_iff.1 hok
      have gl : 0 < k → p.1.name.less q.1.name = true := fun h0 => hls p h0 (hp' h0)
      clear S M
      unfold andNotV at g4 g5
      first
        | omega
        | contradiction
        | (simp_all; done)
        | (have gl := gl (by omega); simp_all; done)
    clear S; intro h61 S
    refine st_run [7, 1, 5, 1] S M rfl (by kernel_rfl) ?_; clear S a; intro a S
    refine st_y S rfl rfl rfl (y_andNot S rfl rfl) ?_; clear S a; intro a S
    refine st_go [1, 1, 1] S rfl (by kernel_rfl) ?_; clear S a; intro a S
    replace S := S.sub [(1, _), (10, _), (11, _), (12, _), (13, _), (4, _), (3, _), (17, _), (39, _), (54, _)] rfl
    refine nxC ?_
    refine st_if (t := 54) S rfl ?_ ?_
    · clear S; intro h54 S
      refine st_condT S rfl ?_
      refine nxD ?_
      refine st_go [1] S rfl (by kernel_rfl) ?_; clear S a; intro a S
      refine nxC ?_
      refine wp_ret ?_
      refine block_ret ?_
      refine block_ret ?_
      refine then_ret ?_
      refine then_ret ?_
      refine block_ret ?_
      refine then_ret ?_
      refine end_one S rfl (res_tmp rfl) ?_
      refine ⟨?_, M.below⟩
      rw [hno k fun h => ?_]
      obtain ⟨hok, hls⟩ := h q hq
      obtain ⟨g1, g2, g3, g4, g5, g6, g7, g8, g9⟩ := drOk_iff.1 hok
      have gl : 0 < k → p.1.name.less q.1.name = true := fun h0 => hls p h0 (hp' h0)
      clear S M
      unfold andNotV at g4 g5
      first
        | omega
        | contradiction
        | (simp_all; done)
        | (have gl := gl (by omega); simp_all; done)
    clear S; intro h54 S
    refine st_condF S rfl ?_
    refine nxD ?_
    refine st_run [4, 1, 1, 1] S M rfl (by kernel_rfl) ?_; clear S a; intro a S
    refine st_fi (t := 73) S rfl ?_ ?_
    · clear S; intro h73 S
      refine st_run [0, 0, 0, 0, 0, 1, 1, 4, 1, 1, 1] S M rfl (by kernel_rfl) ?_; clear S a; intro a S
      refine st_fi (t := 84) S rfl ?_ ?_
      · clear S; intro h84 S
        refine st_go [0, 0, 0, 1, 1, 1] S rfl (by kernel_rfl) ?_; clear S a; intro a S
        replace S := S.sub [(1, _), (10, _), (11, _), (12, _), (13, _), (4, _), (3, _), (17, _), (39, _), (54, _), (69, _)] rfl
        refine nxC ?_
        refine st_condF S rfl ?_
        refine nxD ?_
        refine st_go [8] S rfl (by kernel_rfl) ?_; clear S a; intro a S
        refine st_y S rfl rfl rfl (y_loadAgg (cs := [_, _]) S (by kernel_rfl) rfl rfl (M.cellsAt (k := 2) 0 rfl rfl)) ?_; clear S a; intro a S
        refine st_run [5, 1] S M rfl (by kernel_rfl) ?_; clear S a; intro a S
        refine st_call (xs := [(Operand.tmp 92), (Operand.tmp 94)]) S (enters_of Try.func22 (by decide) rfl) rfl rfl rfl (changes_any _ _ _ _) ?_
        rintro _ w23 ⟨rfl, hK⟩; refine ⟨_, rfl, ?_⟩; clear S a; intro a S; replace M := M.grow hK
        refine st_go [1, 1] S rfl (by kernel_rfl) ?_; clear S a; intro a S
        refine st_if (t := 97) S rfl ?_ ?_
        · clear S; intro h97 S
          refine st_go [0, 0, 0, 0, 0, 0, 1, 1] S rfl (by kernel_rfl) ?_; clear S a; intro a S
          replace S := S.sub [(1, _), (10, _), (11, _), (12, _), (13, _), (4, _), (3, _), (17, _), (39, _), (54, _), (69, _), (90, _)] rfl
          refine nxC ?_
          refine st_condT S rfl ?_
          refine nxD ?_
          refine st_go [1] S rfl (by kernel_rfl) ?_; clear S a; intro a S
          refine nxC ?_
          refine wp_ret ?_
          refine block_ret ?_
          refine block_ret ?_
          refine then_ret ?_
          refine then_ret ?_
          refine block_ret ?_
          refine then_ret ?_
          refine end_one S rfl (res_tmp rfl) ?_
          refine ⟨?_, M.below⟩
          rw [hno k fun h => ?_]
          obtain ⟨hok, hls⟩ := h q hq
          obtain ⟨g1, g2, g3, g4, g5, g6, g7, g8, g9⟩ := drOk_iff.1 hok
          have gl : 0 < k → p.1.name.less q.1.name = true := fun h0 => hls p h0 (hp' h0)
          clear S M
          unfold andNotV at g4 g5
          first
            | omega
            | contradiction
            | (simp_all; done)
            | (have gl := gl (by omega); simp_all; done)
        clear S; intro h97 S
        refine st_run [10, 1, 8] S M rfl (by kernel_rfl) ?_; clear S a; intro a S
        refine st_y S rfl rfl rfl (y_loadAgg (cs := [_, _]) S (by kernel_rfl) rfl rfl (M.cellsAt (k := 2) 0 rfl rfl)) ?_; clear S a; intro a S
        refine st_call (xs := [(Operand.tmp 99), (Operand.tmp 101)]) S (enters_of Try.func23 (by decide) rfl) rfl rfl rfl (writesC_any ad cp q.2 _ _ _ (M.argW hws)) ?_
        rintro _ w24 ⟨rfl, hK⟩; refine ⟨_, rfl, ?_⟩; clear S a; intro a S; replace M := M.grow hK
        refine st_go [1, 1, 1] S rfl (by kernel_rfl) ?_; clear S a; intro a S
        replace S := S.sub [(1, _), (10, _), (11, _), (12, _), (13, _), (4, _), (3, _), (17, _), (39, _), (54, _), (69, _), (90, _)] rfl
        refine nxC ?_
        refine st_if (t := 90) S rfl ?_ ?_
        · clear S; intro h90 S
          refine st_condT S rfl ?_
          refine nxD ?_
          refine st_go [1] S rfl (by kernel_rfl) ?_; clear S a; intro a S
          refine nxC ?_
          refine wp_ret ?_
          refine block_ret ?_
          refine block_ret ?_
          refine then_ret ?_
          refine then_ret ?_
          refine block_ret ?_
          refine then_ret ?_
          refine end_one S rfl (res_tmp rfl) ?_
          refine ⟨?_, M.below⟩
          rw [hno k fun h => ?_]
          obtain ⟨hok, hls⟩ := h q hq
          obtain ⟨g1, g2, g3, g4, g5, g6, g7, g8, g9⟩ := drOk_iff.1 hok
          have gl : 0 < k → p.1.name.less q.1.name = true := fun h0 => hls p h0 (hp' h0)
          clear S M
          unfold andNotV at g4 g5
          first
            | omega
            | contradiction
            | (simp_all; done)
            | (have gl := gl (by omega); simp_all; done)
        clear S; intro h90 S
        refine st_condF S rfl ?_
        refine wp_skip ?_
        refine block_normal ?_
        refine block_normal ?_
        refine nxF ?_
        (first | refine st_y S rfl rfl rfl (y_addN S rfl rfl (by omega)) ?_ | refine st_y S rfl rfl rfl (y_int S rfl rfl rfl) ?_); clear S a; intro a S
        refine st_go [1] S rfl (by kernel_rfl) ?_; clear S a; intro a S
        refine nxC ?_
        replace M := M.drop 0
        simp only [List.eraseIdx_cons_succ, List.eraseIdx_cons_zero] at M
        refine ⟨ds.length - (k + 1), by omega, k + 1, by omega, rfl, S.sub _ rfl, M, fun i hi => ?_⟩
        rcases Nat.lt_or_ge i k with h | h
        · exact hat i h
        · obtain rfl : i = k := by omega
          intro q' hq'
          rw [hq] at hq'
          obtain rfl := Option.some.inj hq'
          clear S M
          refine ⟨drOk_iff.2 ⟨by assumption, by omega, by assumption, by unfold andNotV; assumption, by unfold andNotV; assumption, by omega, by omega, by assumption, by assumption⟩, fun p' h0 hp1 => ?_⟩
          rw [hp' h0] at hp1
          obtain rfl := Option.some.inj hp1
          first | assumption | (exfalso; omega)
      clear S; intro h84 S
      refine st_run [7, 1, 1, 1, 1, 1] S M rfl (by kernel_rfl) ?_; clear S a; intro a S
      replace S := S.sub [(1, _), (10, _), (11, _), (12, _), (13, _), (4, _), (3, _), (17, _), (39, _), (54, _), (69, _)] rfl
      refine nxC ?_
      refine st_if (t := 69) S rfl ?_ ?_
      · clear S; intro h69 S
        refine st_condT S rfl ?_
        refine nxD ?_
        refine st_go [1] S rfl (by kernel_rfl) ?_; clear S a; intro a S
        refine nxC ?_
        refine wp_ret ?_
        refine block_ret ?_
        refine block_ret ?_
        refine then_ret ?_
        refine then_ret ?_
        refine block_ret ?_
        refine then_ret ?_
        refine end_one S rfl (res_tmp rfl) ?_
        refine ⟨?_, M.below⟩
        rw [hno k fun h => ?_]
        obtain ⟨hok, hls⟩ := h q hq
        obtain ⟨g1, g2, g3, g4, g5, g6, g7, g8, g9⟩ := drOk_iff.1 hok
        have gl : 0 < k → p.1.name.less q.1.name = true := fun h0 => hls p h0 (hp' h0)
        clear S M
        unfold andNotV at g4 g5
        first
          | omega
          | contradiction
          | (simp_all; done)
          | (have gl := gl (by omega); simp_all; done)
      clear S; intro h69 S
      refine st_condF S rfl ?_
      refine nxD ?_
      refine st_go [8] S rfl (by kernel_rfl) ?_; clear S a; intro a S
      refine st_y S rfl rfl rfl (y_loadAgg (cs := [_, _]) S (by kernel_rfl) rfl rfl (M.cellsAt (k := 2) 0 rfl rfl)) ?_; clear S a; intro a S
      refine st_run [5, 1] S M rfl (by kernel_rfl) ?_; clear S a; intro a S
      refine st_call (xs := [(Operand.tmp 92), (Operand.tmp 94)]) S (enters_of Try.func22 (by decide) rfl) rfl rfl rfl (changes_any _ _ _ _) ?_
      rintro _ w21 ⟨rfl, hK⟩; refine ⟨_, rfl, ?_⟩; clear S a; intro a S; replace M := M.grow hK
      refine st_go [1, 1] S rfl (by kernel_rfl) ?_; clear S a; intro a S
      refine st_if (t := 97) S rfl ?_ ?_
      · clear S; intro h97 S
        refine st_go [0, 0, 0, 0, 0, 0, 1, 1] S rfl (by kernel_rfl) ?_; clear S a; intro a S
        replace S := S.sub [(1, _), (10, _), (11, _), (12, _), (13, _), (4, _), (3, _), (17, _), (39, _), (54, _), (69, _), (90, _)] rfl
        refine nxC ?_
        refine st_condT S rfl ?_
        refine nxD ?_
        refine st_go [1] S rfl (by kernel_rfl) ?_; clear S a; intro a S
        refine nxC ?_
        refine wp_ret ?_
        refine block_ret ?_
        refine block_ret ?_
        refine then_ret ?_
        refine then_ret ?_
        refine block_ret ?_
        refine then_ret ?_
        refine end_one S rfl (res_tmp rfl) ?_
        refine ⟨?_, M.below⟩
        rw [hno k fun h => ?_]
        obtain ⟨hok, hls⟩ := h q hq
        obtain ⟨g1, g2, g3, g4, g5, g6, g7, g8, g9⟩ := drOk_iff.1 hok
        have gl : 0 < k → p.1.name.less q.1.name = true := fun h0 => hls p h0 (hp' h0)
        clear S M
        unfold andNotV at g4 g5
        first
          | omega
          | contradiction
          | (simp_all; done)
          | (have gl := gl (by omega); simp_all; done)
      clear S; intro h97 S
      refine st_run [10, 1, 8] S M rfl (by kernel_rfl) ?_; clear S a; intro a S
      refine st_y S rfl rfl rfl (y_loadAgg (cs := [_, _]) S (by kernel_rfl) rfl rfl (M.cellsAt (k := 2) 0 rfl rfl)) ?_; clear S a; intro a S
      refine st_call (xs := [(Operand.tmp 99), (Operand.tmp 101)]) S (enters_of Try.func23 (by decide) rfl) rfl rfl rfl (writesC_any ad cp q.2 _ _ _ (M.argW hws)) ?_
      rintro _ w22 ⟨rfl, hK⟩; refine ⟨_, rfl, ?_⟩; clear S a; intro a S; replace M := M.grow hK
      refine st_go [1, 1, 1] S rfl (by kernel_rfl) ?_; clear S a; intro a S
      replace S := S.sub [(1, _), (10, _), (11, _), (12, _), (13, _), (4, _), (3, _), (17, _), (39, _), (54, _), (69, _), (90, _)] rfl
      refine nxC ?_
      refine st_if (t := 90) S rfl ?_ ?_
      · clear S; intro h90 S
        refine st_condT S rfl ?_
        refine nxD ?_
        refine st_go [1] S rfl (by kernel_rfl) ?_; clear S a; intro a S
        refine nxC ?_
        refine wp_ret ?_
        refine block_ret ?_
        refine block_ret ?_
        refine then_ret ?_
        refine then_ret ?_
        refine block_ret ?_
        refine then_ret ?_
        refine end_one S rfl (res_tmp rfl) ?_
        refine ⟨?_, M.below⟩
        rw [hno k fun h => ?_]
        obtain ⟨hok, hls⟩ := h q hq
        obtain ⟨g1, g2, g3, g4, g5, g6, g7, g8, g9⟩ := drOk_iff.1 hok
        have gl : 0 < k → p.1.name.less q.1.name = true := fun h0 => hls p h0 (hp' h0)
        clear S M
        unfold andNotV at g4 g5
        first
          | omega
          | contradiction
          | (simp_all; done)
          | (have gl := gl (by omega); simp_all; done)
      clear S; intro h90 S
      refine st_condF S rfl ?_
      refine wp_skip ?_
      refine block_normal ?_
      refine block_normal ?_
      refine nxF ?_
      (first | refine st_y S rfl rfl rfl (y_addN S rfl rfl (by omega)) ?_ | refine st_y S rfl rfl rfl (y_int S rfl rfl rfl) ?_); clear S a; intro a S
      refine st_go [1] S rfl (by kernel_rfl) ?_; clear S a; intro a S
      refine nxC ?_
      replace M := M.drop 0
      simp only [List.eraseIdx_cons_succ, List.eraseIdx_cons_zero] at M
      refine ⟨ds.length - (k + 1), by omega, k + 1, by omega, rfl, S.sub _ rfl, M, fun i hi => ?_⟩
      rcases Nat.lt_or_ge i k with h | h
      · exact hat i h
      · obtain rfl : i = k := by omega
        intro q' hq'
        rw [hq] at hq'
        obtain rfl := Option.some.inj hq'
        clear S M
        refine ⟨drOk_iff.2 ⟨by assumption, by omega, by assumption, by unfold andNotV; assumption, by unfold andNotV; assumption, by omega, by omega, by assumption, by assumption⟩, fun p' h0 hp1 => ?_⟩
        rw [hp' h0] at hp1
        obtain rfl := Option.some.inj hp1
        first | assumption | (exfalso; omega)
    clear S; intro h73 S
    refine st_run [6, 1, 5, 1, 1, 1, 1] S M rfl (by kernel_rfl) ?_; clear S a; intro a S
    refine st_if (t := 80) S rfl ?_ ?_
    · clear S; intro h80 S
      refine st_go [0, 0, 0, 0, 0, 0, 0, 0, 1, 1] S rfl (by kernel_rfl) ?_; clear S a; intro a S
      replace S := S.sub [(1, _), (10, _), (11, _), (12, _), (13, _), (4, _), (3, _), (17, _), (39, _), (54, _), (69, _)] rfl
      refine nxC ?_
      refine st_condT S rfl ?_
      refine nxD ?_
      refine st_go [1] S rfl (by kernel_rfl) ?_; clear S a; intro a S
      refine nxC ?_
      refine wp_ret ?_
      refine block_ret ?_
      refine block_ret ?_
      refine then_ret ?_
      refine then_ret ?_
      refine block_ret ?_
      refine then_ret ?_
      refine end_one S rfl (res_tmp rfl) ?_
      refine ⟨?_, M.below⟩
      rw [hno k fun h => ?_]
      obtain ⟨hok, hls⟩ := h q hq
      obtain ⟨g1, g2, g3, g4, g5, g6, g7, g8, g9⟩ := drOk_iff.1 hok
      have gl : 0 < k → p.1.name.less q.1.name = true := fun h0 => hls p h0 (hp' h0)
      clear S M
      unfold andNotV at g4 g5
      first
        | omega
        | contradiction
        | (simp_all; done)
        | (have gl := gl (by omega); simp_all; done)
    clear S; intro h80 S
    refine st_run [4, 1, 1, 1] S M rfl (by kernel_rfl) ?_; clear S a; intro a S
    refine st_fi (t := 84) S rfl ?_ ?_
    · clear S; intro h84 S
      refine st_go [0, 0, 0, 1, 1, 1] S rfl (by kernel_rfl) ?_; clear S a; intro a S
      replace S := S.sub [(1, _), (10, _), (11, _), (12, _), (13, _), (4, _), (3, _), (17, _), (39, _), (54, _), (69, _)] rfl
      refine nxC ?_
      refine st_condF S rfl ?_
      refine nxD ?_
      refine st_go [8] S rfl (by kernel_rfl) ?_; clear S a; intro a S
      refine st_y S rfl rfl rfl (y_loadAgg (cs := [_, _]) S (by kernel_rfl) rfl rfl (M.cellsAt (k := 2) 0 rfl rfl)) ?_; clear S a; intro a S
      refine st_run [5, 1] S M rfl (by kernel_rfl) ?_; clear S a; intro a S
      refine st_call (xs := [(Operand.tmp 92), (Operand.tmp 94)]) S (enters_of Try.func22 (by decide) rfl) rfl rfl rfl (changes_any _ _ _ _) ?_
      rintro _ w19 ⟨rfl, hK⟩; refine ⟨_, rfl, ?_⟩; clear S a; intro a S; replace M := M.grow hK
      refine st_go [1, 1] S rfl (by kernel_rfl) ?_; clear S a; intro a S
      refine st_if (t := 97) S rfl ?_ ?_
      · clear S; intro h97 S
        refine st_go [0, 0, 0, 0, 0, 0, 1, 1] S rfl (by kernel_rfl) ?_; clear S a; intro a S
        replace S := S.sub [(1, _), (10, _), (11, _), (12, _), (13, _), (4, _), (3, _), (17, _), (39, _), (54, _), (69, _), (90, _)] rfl
        refine nxC ?_
        refine st_condT S rfl ?_
        refine nxD ?_
        refine st_go [1] S rfl (by kernel_rfl) ?_; clear S a; intro a S
        refine nxC ?_
        refine wp_ret ?_
        refine block_ret ?_
        refine block_ret ?_
        refine then_ret ?_
        refine then_ret ?_
        refine block_ret ?_
        refine then_ret ?_
        refine end_one S rfl (res_tmp rfl) ?_
        refine ⟨?_, M.below⟩
        rw [hno k fun h => ?_]
        obtain ⟨hok, hls⟩ := h q hq
        obtain ⟨g1, g2, g3, g4, g5, g6, g7, g8, g9⟩ := drOk_iff.1 hok
        have gl : 0 < k → p.1.name.less q.1.name = true := fun h0 => hls p h0 (hp' h0)
        clear S M
        unfold andNotV at g4 g5
        first
          | omega
          | contradiction
          | (simp_all; done)
          | (have gl := gl (by omega); simp_all; done)
      clear S; intro h97 S
      refine st_run [10, 1, 8] S M rfl (by kernel_rfl) ?_; clear S a; intro a S
      refine st_y S rfl rfl rfl (y_loadAgg (cs := [_, _]) S (by kernel_rfl) rfl rfl (M.cellsAt (k := 2) 0 rfl rfl)) ?_; clear S a; intro a S
      refine st_call (xs := [(Operand.tmp 99), (Operand.tmp 101)]) S (enters_of Try.func23 (by decide) rfl) rfl rfl rfl (writesC_any ad cp q.2 _ _ _ (M.argW hws)) ?_
      rintro _ w20 ⟨rfl, hK⟩; refine ⟨_, rfl, ?_⟩; clear S a; intro a S; replace M := M.grow hK
      refine st_go [1, 1, 1] S rfl (by kernel_rfl) ?_; clear S a; intro a S
      replace S := S.sub [(1, _), (10, _), (11, _), (12, _), (13, _), (4, _), (3, _), (17, _), (39, _), (54, _), (69, _), (90, _)] rfl
      refine nxC ?_
      refine st_if (t := 90) S rfl ?_ ?_
      · clear S; intro h90 S
        refine st_condT S rfl ?_
        refine nxD ?_
        refine st_go [1] S rfl (by kernel_rfl) ?_; clear S a; intro a S
        refine nxC ?_
        refine wp_ret ?_
        refine block_ret ?_
        refine block_ret ?_
        refine then_ret ?_
        refine then_ret ?_
        refine block_ret ?_
        refine then_ret ?_
        refine end_one S rfl (res_tmp rfl) ?_
        refine ⟨?_, M.below⟩
        rw [hno k fun h => ?_]
        obtain ⟨hok, hls⟩ := h q hq
        obtain ⟨g1, g2, g3, g4, g5, g6, g7, g8, g9⟩ := drOk_iff.1 hok
        have gl : 0 < k → p.1.name.less q.1.name = true := fun h0 => hls p h0 (hp' h0)
        clear S M
        unfold andNotV at g4 g5
        first
          | omega
          | contradiction
          | (simp_all; done)
          | (have gl := gl (by omega); simp_all; done)
      clear S; intro h90 S
      refine st_condF S rfl ?_
      refine wp_skip ?_
      refine block_normal ?_
      refine block_normal ?_
      refine nxF ?_
      (first | refine st_y S rfl rfl rfl (y_addN S rfl rfl (by omega)) ?_ | refine st_y S rfl rfl rfl (y_int S rfl rfl rfl) ?_); clear S a; intro a S
      refine st_go [1] S rfl (by kernel_rfl) ?_; clear S a; intro a S
      refine nxC ?_
      replace M := M.drop 0
      simp only [List.eraseIdx_cons_succ, List.eraseIdx_cons_zero] at M
      refine ⟨ds.length - (k + 1), by omega, k + 1, by omega, rfl, S.sub _ rfl, M, fun i hi => ?_⟩
      rcases Nat.lt_or_ge i k with h | h
      · exact hat i h
      · obtain rfl : i = k := by omega
        intro q' hq'
        rw [hq] at hq'
        obtain rfl := Option.some.inj hq'
        clear S M
        refine ⟨drOk_iff.2 ⟨by assumption, by omega, by assumption, by unfold andNotV; assumption, by unfold andNotV; assumption, by omega, by omega, by assumption, by assumption⟩, fun p' h0 hp1 => ?_⟩
        rw [hp' h0] at hp1
        obtain rfl := Option.some.inj hp1
        first | assumption | (exfalso; omega)
    clear S; intro h84 S
    refine st_run [7, 1, 1, 1, 1, 1] S M rfl (by kernel_rfl) ?_; clear S a; intro a S
    replace S := S.sub [(1, _), (10, _), (11, _), (12, _), (13, _), (4, _), (3, _), (17, _), (39, _), (54, _), (69, _)] rfl
    refine nxC ?_
    refine st_if (t := 69) S rfl ?_ ?_
    · clear S; intro h69 S
      refine st_condT S rfl ?_
      refine nxD ?_
      refine st_go [1] S rfl (by kernel_rfl) ?_; clear S a; intro a S
      refine nxC ?_
      refine wp_ret ?_
      refine block_ret ?_
      refine block_ret ?_
      refine then_ret ?_
      refine then_ret ?_
      refine block_ret ?_
      refine then_ret ?_
      refine end_one S rfl (res_tmp rfl) ?_
      refine ⟨?_, M.below⟩
      rw [hno k fun h => ?_]
      obtain ⟨hok, hls⟩ := h q hq
      obtain ⟨g1, g2, g3, g4, g5, g6, g7, g8, g9⟩ := drOk_iff.1 hok
      have gl : 0 < k → p.1.name.less q.1.name = true := fun h0 => hls p h0 (hp' h0)
      clear S M
      unfold andNotV at g4 g5
      first
        | omega
        | contradiction
        | (simp_all; done)
        | (have gl := gl (by omega); simp_all; done)
    clear S; intro h69 S
    refine st_condF S rfl ?_
    refine nxD ?_
    refine st_go [8] S rfl (by kernel_rfl) ?_; clear S a; intro a S
    refine st_y S rfl rfl rfl (y_loadAgg (cs := [_, _]) S (by kernel_rfl) rfl rfl (M.cellsAt (k := 2) 0 rfl rfl)) ?_; clear S a; intro a S
    refine st_run [5, 1] S M rfl (by kernel_rfl) ?_; clear S a; intro a S
    refine st_call (xs := [(Operand.tmp 92), (Operand.tmp 94)]) S (enters_of Try.func22 (by decide) rfl) rfl rfl rfl (changes_any _ _ _ _) ?_
    rintro _ w17 ⟨rfl, hK⟩; refine ⟨_, rfl, ?_⟩; clear S a; intro a S; replace M := M.grow hK
    refine st_go [1, 1] S rfl (by kernel_rfl) ?_; clear S a; intro a S
    refine st_if (t := 97) S rfl ?_ ?_
    · clear S; intro h97 S
      refine st_go [0, 0, 0, 0, 0, 0, 1, 1] S rfl (by kernel_rfl) ?_; clear S a; intro a S
      replace S := S.sub [(1, _), (10, _), (11, _), (12, _), (13, _), (4, _), (3, _), (17, _), (39, _), (54, _), (69, _), (90, _)] rfl
      refine nxC ?_
      refine st_condT S rfl ?_
      refine nxD ?_
      refine st_go [1] S rfl (by kernel_rfl) ?_; clear S a; intro a S
      refine nxC ?_
      refine wp_ret ?_
      refine block_ret ?_
      refine block_ret ?_
      refine then_ret ?_
      refine then_ret ?_
      refine block_ret ?_
      refine then_ret ?_
      refine end_one S rfl (res_tmp rfl) ?_
      refine ⟨?_, M.below⟩
      rw [hno k fun h => ?_]
      obtain ⟨hok, hls⟩ := h q hq
      obtain ⟨g1, g2, g3, g4, g5, g6, g7, g8, g9⟩ := drOk_iff.1 hok
      have gl : 0 < k → p.1.name.less q.1.name = true := fun h0 => hls p h0 (hp' h0)
      clear S M
      unfold andNotV at g4 g5
      first
        | omega
        | contradiction
        | (simp_all; done)
        | (have gl := gl (by omega); simp_all; done)
    clear S; intro h97 S
    refine st_run [10, 1, 8] S M rfl (by kernel_rfl) ?_; clear S a; intro a S
    refine st_y S rfl rfl rfl (y_loadAgg (cs := [_, _]) S (by kernel_rfl) rfl rfl (M.cellsAt (k := 2) 0 rfl rfl)) ?_; clear S a; intro a S
    refine st_call (xs := [(Operand.tmp 99), (Operand.tmp 101)]) S (enters_of Try.func23 (by decide) rfl) rfl rfl rfl (writesC_any ad cp q.2 _ _ _ (M.argW hws)) ?_
    rintro _ w18 ⟨rfl, hK⟩; refine ⟨_, rfl, ?_⟩; clear S a; intro a S; replace M := M.grow hK
    refine st_go [1, 1, 1] S rfl (by kernel_rfl) ?_; clear S a; intro a S
    replace S := S.sub [(1, _), (10, _), (11, _), (12, _), (13, _), (4, _), (3, _), (17, _), (39, _), (54, _), (69, _), (90, _)] rfl
    refine nxC ?_
    refine st_if (t := 90) S rfl ?_ ?_
    · clear S; intro h90 S
      refine st_condT S rfl ?_
      refine nxD ?_
      refine st_go [1] S rfl (by kernel_rfl) ?_; clear S a; intro a S
      refine nxC ?_
      refine wp_ret ?_
      refine block_ret ?_
      refine block_ret ?_
      refine then_ret ?_
      refine then_ret ?_
      refine block_ret ?_
      refine then_ret ?_
      refine end_one S rfl (res_tmp rfl) ?_
      refine ⟨?_, M.below⟩
      rw [hno k fun h => ?_]
      obtain ⟨hok, hls⟩ := h q hq
      obtain ⟨g1, g2, g3, g4, g5, g6, g7, g8, g9⟩ := drOk_iff.1 hok
      have gl : 0 < k → p.1.name.less q.1.name = true := fun h0 => hls p h0 (hp' h0)
      clear S M
      unfold andNotV at g4 g5
      first
        | omega
        | contradiction
        | (simp_all; done)
        | (have gl := gl (by omega); simp_all; done)
    clear S; intro h90 S
    refine st_condF S rfl ?_
    refine wp_skip ?_
    refine block_normal ?_
    refine block_normal ?_
    refine nxF ?_
    (first | refine st_y S rfl rfl rfl (y_addN S rfl rfl (by omega)) ?_ | refine st_y S rfl rfl rfl (y_int S rfl rfl rfl) ?_); clear S a; intro a S
    refine st_go [1] S rfl (by kernel_rfl) ?_; clear S a; intro a S
    refine nxC ?_
    replace M := M.drop 0
    simp only [List.eraseIdx_cons_succ, List.eraseIdx_cons_zero] at M
    refine ⟨ds.length - (k + 1), by omega, k + 1, by omega, rfl, S.sub _ rfl, M, fun i hi => ?_⟩
    rcases Nat.lt_or_ge i k with h | h
    · exact hat i h
    · obtain rfl : i = k := by omega
      intro q' hq'
      rw [hq] at hq'
      obtain rfl := Option.some.inj hq'
      clear S M
      refine ⟨drOk_iff.2 ⟨by assumption, by omega, by assumption, by unfold andNotV; assumption, by unfold andNotV; assumption, by omega, by omega, by assumption, by assumption⟩, fun p' h0 hp1 => ?_⟩
      rw [hp' h0] at hp1
      obtain rfl := Option.some.inj hp1
      first | assumption | (exfalso; omega)
  clear S; intro h25 S
  refine k_pure (listed' := #[true, true, true, true, true, true, true, true, true, false, false, false, false, false, false, false, false, false, false, false, false, false]) 8 S rfl rfl rfl rfl (by kernel_rfl) rfl (fun _ d _ _ _ h => by cases d <;> exact h) (fun w => y_fieldAddr (k := 0) S (by kernel_rfl) rfl) ?_; clear S a; intro a S
  refine k_read (listed' := #[true, true, true, true, true, true, true, true, true, true, false, false, false, false, false, false, false, false, false, false, false, false]) 9 S rfl rfl rfl rfl (by kernel_rfl) rfl (fun _ d _ _ _ h => by cases d <;> exact h) (fun w hW => have M := M.grow hW; y_load S (by kernel_rfl) rfl (M.cell 1 rfl rfl)) ?_; clear S a; intro a S
  refine k_pure (listed' := #[true, true, true, true, true, true, true, true, true, true, true, false, false, false, false, false, false, false, false, false, false, false]) 10 S rfl rfl rfl rfl (by kernel_rfl) rfl (fun _ d _ _ _ h => by cases d <;> exact h) (fun w => y_move S rfl) ?_; clear S a; intro a S
  (first | refine k_pure (listed' := #[true, true, true, true, true, true, true, true, true, true, true, true, false, false, false, false, false, false, false, false, false, false]) 11 S rfl rfl rfl rfl (by kernel_rfl) rfl (fun _ d _ _ _ h => by cases d <;> exact h) (fun w => y_subN S rfl rfl (by omega)) ?_ | refine k_pure (listed' := #[true, true, true, true, true, true, true, true, true, true, true, true, false, false, false, false, false, false, false, false, false, false]) 11 S rfl rfl rfl rfl (by kernel_rfl) rfl (fun _ d _ _ _ h => by cases d <;> exact h) (fun w => y_int S rfl rfl rfl) ?_); clear S a; intro a S
  refine k_read (listed' := #[true, true, true, true, true, true, true, true, true, true, true, true, true, false, false, false, false, false, false, false, false, false]) 12 S rfl rfl rfl rfl (by kernel_rfl) rfl (fun _ d _ _ _ h => by cases d <;> exact h) (fun w hW => have M := M.grow hW; y_indexR (e := 59) (sz := 10) S (by kernel_rfl) rfl ((M.drs hv).1) rfl (by first | omega | (simp; done) | (simp; omega))) ?_; clear S a; intro a S
  try simp only [Int.toNat_natCast, Nat.mul_one, Nat.zero_add] at S
  refine k_pure (listed' := #[true, true, true, true, true, true, true, true, true, true, true, true, true, true, false, false, false, false, false, false, false, false]) 13 S rfl rfl rfl rfl (by kernel_rfl) rfl (fun _ d _ _ _ h => by cases d <;> exact h) (fun w => y_fieldAddr (k := 0) S (by kernel_rfl) rfl) ?_; clear S a; intro a S
  refine k_read (listed' := #[true, true, true, true, true, true, true, true, true, true, true, true, true, true, true, false, false, false, false, false, false, false]) 14 S rfl rfl rfl rfl (by kernel_rfl) rfl (fun _ d _ _ _ h => by cases d <;> exact h) (fun w hW => have M := M.grow hW; y_loadAgg S (by kernel_rfl) rfl rfl (((M.drs hv).1.at_.row (i := ((k : Int) - 1).toNat) (hrowp (by omega)) rfl).take 3)) ?_; clear S a; intro a S
  refine k_pure (listed' := #[true, true, true, true, true, true, true, true, true, true, true, true, true, true, true, true, false, false, false, false, false, false]) 15 S rfl rfl rfl rfl (by kernel_rfl) rfl (fun _ d _ _ _ h => by cases d <;> exact h) (fun w => y_fieldAddr (k := 0) S (by kernel_rfl) rfl) ?_; clear S a; intro a S
  refine k_read (listed' := #[true, true, true, true, true, true, true, true, true, true, true, true, true, true, true, true, true, false, false, false, false, false]) 16 S rfl rfl rfl rfl (by kernel_rfl) rfl (fun _ d _ _ _ h => by cases d <;> exact h) (fun w hW => have M := M.grow hW; y_loadAgg (cs := [_, _, _]) S (by kernel_rfl) rfl rfl (M.cellsAt (k := 3) 0 rfl rfl)) ?_; clear S a; intro a S
  refine k_one (listed' := #[true, true, true, true, true, true, true, true, true, true, true, true, true, true, true, true, true, true, false, false, false, false]) 17 rfl (by kernel_rfl) rfl ?_
  refine st_call (xs := [(Operand.tmp 32), (Operand.tmp 34)]) S (enters_of Try.func20 (by decide) rfl) rfl rfl rfl (less_any p.1.name q.1.name _) ?_
  rintro _ w6 ⟨rfl, hK⟩; refine ⟨_, rfl, ?_⟩; clear S a; intro a S; replace M := M.grow hK
  refine wpList_nil ?_; refine then_normal ?_; refine ⟨fun _ => hK, ?_⟩
  refine k_pure (listed' := #[true, true, true, true, true, true, true, true, true, true, true, true, true, true, true, true, true, true, true, false, false, false]) 18 S rfl rfl rfl rfl (by kernel_rfl) rfl (fun _ d _ _ _ h => by cases d <;> exact h) (fun w => y_not S rfl) ?_; clear S a; intro a S
  refine k_pure (listed' := #[true, true, true, true, true, true, true, true, true, true, true, true, true, true, true, true, true, true, true, true, false, false]) 19 S rfl rfl rfl rfl (by kernel_rfl) rfl (fun _ d _ _ _ h => by cases d <;> exact h) (fun w => y_pickT S rfl rfl) ?_; clear S a; intro a S
  refine k_pure (listed' := #[true, true, true, true, true, true, true, true, true, true, true, true, true, true, true, true, true, true, true, true, true, false]) 20 S rfl rfl rfl rfl (by kernel_rfl) rfl (fun _ d _ _ _ h => by cases d <;> exact h) (fun w => y_pickF S rfl rfl) ?_; clear S a; intro a S
  refine k_pure (listed' := #[true, true, true, true, true, true, true, true, true, true, true, true, true, true, true, true, true, true, true, true, true, true]) 21 S rfl rfl rfl rfl (by kernel_rfl) rfl (fun _ d _ _ _ h => by cases d <;> exact h) (fun w => y_assign S rfl) ?_; clear S a; intro a S
  refine k_end (by kernel_rfl) ?_
  replace S := S.sub [(1, _), (10, _), (11, _), (12, _), (13, _), (4, _), (3, _), (17, _)] rfl
  refine then_normal ?_
  refine st_if (t := 17) S rfl ?_ ?_
  · clear S; intro h17 S
    refine st_condT S rfl ?_
    refine nxD ?_
    refine st_go [1] S rfl (by kernel_rfl) ?_; clear S a; intro a S
    refine nxC ?_
    refine wp_ret ?_
    refine block_ret ?_
    refine block_ret ?_
    refine then_ret ?_
    refine then_ret ?_
    refine block_ret ?_
    refine then_ret ?_
    refine end_one S rfl (res_tmp rfl) ?_
    refine ⟨?_, M.below⟩
    rw [hno k fun h => ?_]
    obtain ⟨hok, hls⟩ := h q hq
    obtain ⟨g1, g2, g3, g4, g5, g6, g7, g8, g9⟩ := drOk_iff.1 hok
    have gl : 0 < k → p.1.name.less q.1.name = true := fun h0 => hls p h0 (hp' h0)
    clear S M
    unfold andNotV at g4 g5
    first
      | omega
      | contradiction
      | (simp_all; done)
      | (have gl := gl (by omega); simp_all; done)
  clear S; intro h17 S
  refine st_condF S rfl ?_
  refine nxD ?_
  refine st_run [4, 1, 1, 1] S M rfl (by kernel_rfl) ?_; clear S a; intro a S
  refine st_if (t := 43) S rfl ?_ ?_
  · clear S; intro h43 S
    refine st_go [0, 0, 0, 1, 1, 0, 0, 0, 0, 1, 1] S rfl (by kernel_rfl) ?_; clear S a; intro a S
    replace S := S.sub [(1, _), (10, _), (11, _), (12, _), (13, _), (4, _), (3, _), (17, _), (39, _)] rfl
    refine nxC ?_
    refine st_condT S rfl ?_
    refine nxD ?_
    refine st_go [1] S rfl (by kernel_rfl) ?_; clear S a; intro a S
    refine nxC ?_
    refine wp_ret ?_
    refine block_ret ?_
    refine block_ret ?_
    refine then_ret ?_
    refine then_ret ?_
    refine block_ret ?_
    refine then_ret ?_
    refine end_one S rfl (res_tmp rfl) ?_
    refine ⟨?_, M.below⟩
    rw [hno k fun h => ?_]
    obtain ⟨hok, hls⟩ := h q hq
    obtain ⟨g1, g2, g3, g4, g5, g6, g7, g8, g9⟩ := drOk_iff.1 hok
    have gl : 0 < k → p.1.name.less q.1.name = true := fun h0 => hls p h0 (hp' h0)
    clear S M
    unfold andNotV at g4 g5
    first
      | omega
      | contradiction
      | (simp_all; done)
      | (have gl := gl (by omega); simp_all; done)
  clear S; intro h43 S
  refine st_run [4, 1, 1, 1, 1] S M rfl (by kernel_rfl) ?_; clear S a; intro a S
  refine st_if (t := 48) S rfl ?_ ?_
  · clear S; intro h48 S
    refine st_go [0, 0, 0, 0, 1, 1] S rfl (by kernel_rfl) ?_; clear S a; intro a S
    replace S := S.sub [(1, _), (10, _), (11, _), (12, _), (13, _), (4, _), (3, _), (17, _), (39, _)] rfl
    refine nxC ?_
    refine st_condT S rfl ?_
    refine nxD ?_
    refine st_go [1] S rfl (by kernel_rfl) ?_; clear S a; intro a S
    refine nxC ?_
    refine wp_ret ?_
    refine block_ret ?_
    refine block_ret ?_
    refine then_ret ?_
    refine then_ret ?_
    refine block_ret ?_
    refine then_ret ?_
    refine end_one S rfl (res_tmp rfl) ?_
    refine ⟨?_, M.below⟩
    rw [hno k fun h => ?_]
    obtain ⟨hok, hls⟩ := h q hq
    obtain ⟨g1, g2, g3, g4, g5, g6, g7, g8, g9⟩ := drOk_iff.1 hok
    have gl : 0 < k → p.1.name.less q.1.name = true := fun h0 => hls p h0 (hp' h0)
    clear S M
    unfold andNotV at g4 g5
    first
      | omega
      | contradiction
      | (simp_all; done)
      | (have gl := gl (by omega); simp_all; done)
  clear S; intro h48 S
  refine st_run [5, 1] S M rfl (by kernel_rfl) ?_; clear S a; intro a S
  refine st_call (xs := [(Operand.tmp 50)]) S (enters_of Try.func21 (by decide) rfl) rfl rfl rfl (group_any _ (hb q (List.mem_of_getElem? hq)) _) ?_
  rintro _ w7 ⟨rfl, hK⟩; refine ⟨_, rfl, ?_⟩; clear S a; intro a S; replace M := M.grow hK
  refine st_go [1, 1, 1] S rfl (by kernel_rfl) ?_; clear S a; intro a S
  replace S := S.sub [(1, _), (10, _), (11, _), (12, _), (13, _), (4, _), (3, _), (17, _), (39, _)] rfl
  refine nxC ?_
  refine st_if (t := 39) S rfl ?_ ?_
  · clear S; intro h39 S
    refine st_condT S rfl ?_
    refine nxD ?_
    refine st_go [1] S rfl (by kernel_rfl) ?_; clear S a; intro a S
    refine nxC ?_
    refine wp_ret ?_
    refine block_ret ?_
    refine block_ret ?_
    refine then_ret ?_
    refine then_ret ?_
    refine block_ret ?_
    refine then_ret ?_
    refine end_one S rfl (res_tmp rfl) ?_
    refine ⟨?_, M.below⟩
    rw [hno k fun h => ?_]
    obtain ⟨hok, hls⟩ := h q hq
    obtain ⟨g1, g2, g3, g4, g5, g6, g7, g8, g9⟩ := drOk_iff.1 hok
    have gl : 0 < k → p.1.name.less q.1.name = true := fun h0 => hls p h0 (hp' h0)
    clear S M
    unfold andNotV at g4 g5
    first
      | omega
      | contradiction
      | (simp_all; done)
      | (have gl := gl (by omega); simp_all; done)
  clear S; intro h39 S
  refine st_condF S rfl ?_
  refine nxD ?_
  refine st_run [6, 1, 5, 1] S M rfl (by kernel_rfl) ?_; clear S a; intro a S
  refine st_y S rfl rfl rfl (y_andNot S rfl rfl) ?_; clear S a; intro a S
  refine st_go [1, 1] S rfl (by kernel_rfl) ?_; clear S a; intro a S
  refine st_if (t := 61) S rfl ?_ ?_
  · clear S; intro h61 S
    refine st_go [0, 0, 0, 0, 0, 0, 1, 1] S rfl (by kernel_rfl) ?_; clear S a; intro a S
    replace S := S.sub [(1, _), (10, _), (11, _), (12, _), (13, _), (4, _), (3, _), (17, _), (39, _), (54, _)] rfl
    refine nxC ?_
    refine st_condT S rfl ?_
    refine nxD ?_
    refine st_go [1] S rfl (by kernel_rfl) ?_; clear S a; intro a S
    refine nxC ?_
    refine wp_ret ?_
    refine block_ret ?_
    refine block_ret ?_
    refine then_ret ?_
    refine then_ret ?_
    refine block_ret ?_
    refine then_ret ?_
    refine end_one S rfl (res_tmp rfl) ?_
    refine ⟨?_, M.below⟩
    rw [hno k fun h => ?_]
    obtain ⟨hok, hls⟩ := h q hq
    obtain ⟨g1, g2, g3, g4, g5, g6, g7, g8, g9⟩ := drOk_iff.1 hok
    have gl : 0 < k → p.1.name.less q.1.name = true := fun h0 => hls p h0 (hp' h0)
    clear S M
    unfold andNotV at g4 g5
    first
      | omega
      | contradiction
      | (simp_all; done)
      | (have gl := gl (by omega); simp_all; done)
  clear S; intro h61 S
  refine st_run [7, 1, 5, 1] S M rfl (by kernel_rfl) ?_; clear S a; intro a S
  refine st_y S rfl rfl rfl (y_andNot S rfl rfl) ?_; clear S a; intro a S
  refine st_go [1, 1, 1] S rfl (by kernel_rfl) ?_; clear S a; intro a S
  replace S := S.sub [(1, _), (10, _), (11, _), (12, _), (13, _), (4, _), (3, _), (17, _), (39, _), (54, _)] rfl
  refine nxC ?_
  refine st_if (t := 54) S rfl ?_ ?_
  · clear S; intro h54 S
    refine st_condT S rfl ?_
    refine nxD ?_
    refine st_go [1] S rfl (by kernel_rfl) ?_; clear S a; intro a S
    refine nxC ?_
    refine wp_ret ?_
    refine block_ret ?_
    refine block_ret ?_
    refine then_ret ?_
    refine then_ret ?_
    refine block_ret ?_
    refine then_ret ?_
    refine end_one S rfl (res_tmp rfl) ?_
    refine ⟨?_, M.below⟩
    rw [hno k fun h => ?_]
    obtain ⟨hok, hls⟩ := h q hq
    obtain ⟨g1, g2, g3, g4, g5, g6, g7, g8, g9⟩ := drOk_iff.1 hok
    have gl : 0 < k → p.1.name.less q.1.name = true := fun h0 => hls p h0 (hp' h0)
    clear S M
    unfold andNotV at g4 g5
    first
      | omega
      | contradiction
      | (simp_all; done)
      | (have gl := gl (by omega); simp_all; done)
  clear S; intro h54 S
  refine st_condF S rfl ?_
  refine nxD ?_
  refine st_run [4, 1, 1, 1] S M rfl (by kernel_rfl) ?_; clear S a; intro a S
  refine st_fi (t := 73) S rfl ?_ ?_
  · clear S; intro h73 S
    refine st_run [0, 0, 0, 0, 0, 1, 1, 4, 1, 1, 1] S M rfl (by kernel_rfl) ?_; clear S a; intro a S
    refine st_fi (t := 84) S rfl ?_ ?_
    · clear S; intro h84 S
      refine st_go [0, 0, 0, 1, 1, 1] S rfl (by kernel_rfl) ?_; clear S a; intro a S
      replace S := S.sub [(1, _), (10, _), (11, _), (12, _), (13, _), (4, _), (3, _), (17, _), (39, _), (54, _), (69, _)] rfl
      refine nxC ?_
      refine st_condF S rfl ?_
      refine nxD ?_
      refine st_go [8] S rfl (by kernel_rfl) ?_; clear S a; intro a S
      refine st_y S rfl rfl rfl (y_loadAgg (cs := [_, _]) S (by kernel_rfl) rfl rfl (M.cellsAt (k := 2) 0 rfl rfl)) ?_; clear S a; intro a S
      refine st_run [5, 1] S M rfl (by kernel_rfl) ?_; clear S a; intro a S
      refine st_call (xs := [(Operand.tmp 92), (Operand.tmp 94)]) S (enters_of Try.func22 (by decide) rfl) rfl rfl rfl (changes_any _ _ _ _) ?_
      rintro _ w14 ⟨rfl, hK⟩; refine ⟨_, rfl, ?_⟩; clear S a; intro a S; replace M := M.grow hK
      refine st_go [1, 1] S rfl (by kernel_rfl) ?_; clear S a; intro a S
      refine st_if (t := 97) S rfl ?_ ?_
      · clear S; intro h97 S
        refine st_go [0, 0, 0, 0, 0, 0, 1, 1] S rfl (by kernel_rfl) ?_; clear S a; intro a S
        replace S := S.sub [(1, _), (10, _), (11, _), (12, _), (13, _), (4, _), (3, _), (17, _), (39, _), (54, _), (69, _), (90, _)] rfl
        refine nxC ?_
        refine st_condT S rfl ?_
        refine nxD ?_
        refine st_go [1] S rfl (by kernel_rfl) ?_; clear S a; intro a S
        refine nxC ?_
        refine wp_ret ?_
        refine block_ret ?_
        refine block_ret ?_
        refine then_ret ?_
        refine then_ret ?_
        refine block_ret ?_
        refine then_ret ?_
        refine end_one S rfl (res_tmp rfl) ?_
        refine ⟨?_, M.below⟩
        rw [hno k fun h => ?_]
        obtain ⟨hok, hls⟩ := h q hq
        obtain ⟨g1, g2, g3, g4, g5, g6, g7, g8, g9⟩ := drOk_iff.1 hok
        have gl : 0 < k → p.1.name.less q.1.name = true := fun h0 => hls p h0 (hp' h0)
        clear S M
        unfold andNotV at g4 g5
        first
          | omega
          | contradiction
          | (simp_all; done)
          | (have gl := gl (by omega); simp_all; done)
      clear S; intro h97 S
      refine st_run [10, 1, 8] S M rfl (by kernel_rfl) ?_; clear S a; intro a S
      refine st_y S rfl rfl rfl (y_loadAgg (cs := [_, _]) S (by kernel_rfl) rfl rfl (M.cellsAt (k := 2) 0 rfl rfl)) ?_; clear S a; intro a S
      refine st_call (xs := [(Operand.tmp 99), (Operand.tmp 101)]) S (enters_of Try.func23 (by decide) rfl) rfl rfl rfl (writesC_any ad cp q.2 _ _ _ (M.argW hws)) ?_
      rintro _ w15 ⟨rfl, hK⟩; refine ⟨_, rfl, ?_⟩; clear S a; intro a S; replace M := M.grow hK
      refine st_go [1, 1, 1] S rfl (by kernel_rfl) ?_; clear S a; intro a S
      replace S := S.sub [(1, _), (10, _), (11, _), (12, _), (13, _), (4, _), (3, _), (17, _), (39, _), (54, _), (69, _), (90, _)] rfl
      refine nxC ?_
      refine st_if (t := 90) S rfl ?_ ?_
      · clear S; intro h90 S
        refine st_condT S rfl ?_
        refine nxD ?_
        refine st_go [1] S rfl (by kernel_rfl) ?_; clear S a; intro a S
        refine nxC ?_
        refine wp_ret ?_
        refine block_ret ?_
        refine block_ret ?_
        refine then_ret ?_
        refine then_ret ?_
        refine block_ret ?_
        refine then_ret ?_
        refine end_one S rfl (res_tmp rfl) ?_
        refine ⟨?_, M.below⟩
        rw [hno k fun h => ?_]
        obtain ⟨hok, hls⟩ := h q hq
        obtain ⟨g1, g2, g3, g4, g5, g6, g7, g8, g9⟩ := drOk_iff.1 hok
        have gl : 0 < k → p.1.name.less q.1.name = true := fun h0 => hls p h0 (hp' h0)
        clear S M
        unfold andNotV at g4 g5
        first
          | omega
          | contradiction
          | (simp_all; done)
          | (have gl := gl (by omega); simp_all; done)
      clear S; intro h90 S
      refine st_condF S rfl ?_
      refine wp_skip ?_
      refine block_normal ?_
      refine block_normal ?_
      refine nxF ?_
      (first | refine st_y S rfl rfl rfl (y_addN S rfl rfl (by omega)) ?_ | refine st_y S rfl rfl rfl (y_int S rfl rfl rfl) ?_); clear S a; intro a S
      refine st_go [1] S rfl (by kernel_rfl) ?_; clear S a; intro a S
      refine nxC ?_
      replace M := M.drop 0
      simp only [List.eraseIdx_cons_succ, List.eraseIdx_cons_zero] at M
      refine ⟨ds.length - (k + 1), by omega, k + 1, by omega, rfl, S.sub _ rfl, M, fun i hi => ?_⟩
      rcases Nat.lt_or_ge i k with h | h
      · exact hat i h
      · obtain rfl : i = k := by omega
        intro q' hq'
        rw [hq] at hq'
        obtain rfl := Option.some.inj hq'
        clear S M
        refine ⟨drOk_iff.2 ⟨by assumption, by omega, by assumption, by unfold andNotV; assumption, by unfold andNotV; assumption, by omega, by omega, by assumption, by assumption⟩, fun p' h0 hp1 => ?_⟩
        rw [hp' h0] at hp1
        obtain rfl := Option.some.inj hp1
        first | assumption | (exfalso; omega)
    clear S; intro h84 S
    refine st_run [7, 1, 1, 1, 1, 1] S M rfl (by kernel_rfl) ?_; clear S a; intro a S
    replace S := S.sub [(1, _), (10, _), (11, _), (12, _), (13, _), (4, _), (3, _), (17, _), (39, _), (54, _), (69, _)] rfl
    refine nxC ?_
    refine st_if (t := 69) S rfl ?_ ?_
    · clear S; intro h69 S
      refine st_condT S rfl ?_
      refine nxD ?_
      refine st_go [1] S rfl (by kernel_rfl) ?_; clear S a; intro a S
      refine nxC ?_
      refine wp_ret ?_
      refine block_ret ?_
      refine block_ret ?_
      refine then_ret ?_
      refine then_ret ?_
      refine block_ret ?_
      refine then_ret ?_
      refine end_one S rfl (res_tmp rfl) ?_
      refine ⟨?_, M.below⟩
      rw [hno k fun h => ?_]
      obtain ⟨hok, hls⟩ := h q hq
      obtain ⟨g1, g2, g3, g4, g5, g6, g7, g8, g9⟩ := drOk_iff.1 hok
      have gl : 0 < k → p.1.name.less q.1.name = true := fun h0 => hls p h0 (hp' h0)
      clear S M
      unfold andNotV at g4 g5
      first
        | omega
        | contradiction
        | (simp_all; done)
        | (have gl := gl (by omega); simp_all; done)
    clear S; intro h69 S
    refine st_condF S rfl ?_
    refine nxD ?_
    refine st_go [8] S rfl (by kernel_rfl) ?_; clear S a; intro a S
    refine st_y S rfl rfl rfl (y_loadAgg (cs := [_, _]) S (by kernel_rfl) rfl rfl (M.cellsAt (k := 2) 0 rfl rfl)) ?_; clear S a; intro a S
    refine st_run [5, 1] S M rfl (by kernel_rfl) ?_; clear S a; intro a S
    refine st_call (xs := [(Operand.tmp 92), (Operand.tmp 94)]) S (enters_of Try.func22 (by decide) rfl) rfl rfl rfl (changes_any _ _ _ _) ?_
    rintro _ w12 ⟨rfl, hK⟩; refine ⟨_, rfl, ?_⟩; clear S a; intro a S; replace M := M.grow hK
    refine st_go [1, 1] S rfl (by kernel_rfl) ?_; clear S a; intro a S
    refine st_if (t := 97) S rfl ?_ ?_
    · clear S; intro h97 S
      refine st_go [0, 0, 0, 0, 0, 0, 1, 1] S rfl (by kernel_rfl) ?_; clear S a; intro a S
      replace S := S.sub [(1, _), (10, _), (11, _), (12, _), (13, _), (4, _), (3, _), (17, _), (39, _), (54, _), (69, _), (90, _)] rfl
      refine nxC ?_
      refine st_condT S rfl ?_
      refine nxD ?_
      refine st_go [1] S rfl (by kernel_rfl) ?_; clear S a; intro a S
      refine nxC ?_
      refine wp_ret ?_
      refine block_ret ?_
      refine block_ret ?_
      refine then_ret ?_
      refine then_ret ?_
      refine block_ret ?_
      refine then_ret ?_
      refine end_one S rfl (res_tmp rfl) ?_
      refine ⟨?_, M.below⟩
      rw [hno k fun h => ?_]
      obtain ⟨hok, hls⟩ := h q hq
      obtain ⟨g1, g2, g3, g4, g5, g6, g7, g8, g9⟩ := drOk_iff.1 hok
      have gl : 0 < k → p.1.name.less q.1.name = true := fun h0 => hls p h0 (hp' h0)
      clear S M
      unfold andNotV at g4 g5
      first
        | omega
        | contradiction
        | (simp_all; done)
        | (have gl := gl (by omega); simp_all; done)
    clear S; intro h97 S
    refine st_run [10, 1, 8] S M rfl (by kernel_rfl) ?_; clear S a; intro a S
    refine st_y S rfl rfl rfl (y_loadAgg (cs := [_, _]) S (by kernel_rfl) rfl rfl (M.cellsAt (k := 2) 0 rfl rfl)) ?_; clear S a; intro a S
    refine st_call (xs := [(Operand.tmp 99), (Operand.tmp 101)]) S (enters_of Try.func23 (by decide) rfl) rfl rfl rfl (writesC_any ad cp q.2 _ _ _ (M.argW hws)) ?_
    rintro _ w13 ⟨rfl, hK⟩; refine ⟨_, rfl, ?_⟩; clear S a; intro a S; replace M := M.grow hK
    refine st_go [1, 1, 1] S rfl (by kernel_rfl) ?_; clear S a; intro a S
    replace S := S.sub [(1, _), (10, _), (11, _), (12, _), (13, _), (4, _), (3, _), (17, _), (39, _), (54, _), (69, _), (90, _)] rfl
    refine nxC ?_
    refine st_if (t := 90) S rfl ?_ ?_
    · clear S; intro h90 S
      refine st_condT S rfl ?_
      refine nxD ?_
      refine st_go [1] S rfl (by kernel_rfl) ?_; clear S a; intro a S
      refine nxC ?_
      refine wp_ret ?_
      refine block_ret ?_
      refine block_ret ?_
      refine then_ret ?_
      refine then_ret ?_
      refine block_ret ?_
      refine then_ret ?_
      refine end_one S rfl (res_tmp rfl) ?_
      refine ⟨?_, M.below⟩
      rw [hno k fun h => ?_]
      obtain ⟨hok, hls⟩ := h q hq
      obtain ⟨g1, g2, g3, g4, g5, g6, g7, g8, g9⟩ := drOk_iff.1 hok
      have gl : 0 < k → p.1.name.less q.1.name = true := fun h0 => hls p h0 (hp' h0)
      clear S M
      unfold andNotV at g4 g5
      first
        | omega
        | contradiction
        | (simp_all; done)
        | (have gl := gl (by omega); simp_all; done)
    clear S; intro h90 S
    refine st_condF S rfl ?_
    refine wp_skip ?_
    refine block_normal ?_
    refine block_normal ?_
    refine nxF ?_
    (first | refine st_y S rfl rfl rfl (y_addN S rfl rfl (by omega)) ?_ | refine st_y S rfl rfl rfl (y_int S rfl rfl rfl) ?_); clear S a; intro a S
    refine st_go [1] S rfl (by kernel_rfl) ?_; clear S a; intro a S
    refine nxC ?_
    replace M := M.drop 0
    simp only [List.eraseIdx_cons_succ, List.eraseIdx_cons_zero] at M
    refine ⟨ds.length - (k + 1), by omega, k + 1, by omega, rfl, S.sub _ rfl, M, fun i hi => ?_⟩
    rcases Nat.lt_or_ge i k with h | h
    · exact hat i h
    · obtain rfl : i = k := by omega
      intro q' hq'
      rw [hq] at hq'
      obtain rfl := Option.some.inj hq'
      clear S M
      refine ⟨drOk_iff.2 ⟨by assumption, by omega, by assumption, by unfold andNotV; assumption, by unfold andNotV; assumption, by omega, by omega, by assumption, by assumption⟩, fun p' h0 hp1 => ?_⟩
      rw [hp' h0] at hp1
      obtain rfl := Option.some.inj hp1
      first | assumption | (exfalso; omega)
  clear S; intro h73 S
  refine st_run [6, 1, 5, 1, 1, 1, 1] S M rfl (by kernel_rfl) ?_; clear S a; intro a S
  refine st_if (t := 80) S rfl ?_ ?_
  · clear S; intro h80 S
    refine st_go [0, 0, 0, 0, 0, 0, 0, 0, 1, 1] S rfl (by kernel_rfl) ?_; clear S a; intro a S
    replace S := S.sub [(1, _), (10, _), (11, _), (12, _), (13, _), (4, _), (3, _), (17, _), (39, _), (54, _), (69, _)] rfl
    refine nxC ?_
    refine st_condT S rfl ?_
    refine nxD ?_
    refine st_go [1] S rfl (by kernel_rfl) ?_; clear S a; intro a S
    refine nxC ?_
    refine wp_ret ?_
    refine block_ret ?_
    refine block_ret ?_
    refine then_ret ?_
    refine then_ret ?_
    refine block_ret ?_
    refine then_ret ?_
    refine end_one S rfl (res_tmp rfl) ?_
    refine ⟨?_, M.below⟩
    rw [hno k fun h => ?_]
    obtain ⟨hok, hls⟩ := h q hq
    obtain ⟨g1, g2, g3, g4, g5, g6, g7, g8, g9⟩ := drOk_iff.1 hok
    have gl : 0 < k → p.1.name.less q.1.name = true := fun h0 => hls p h0 (hp' h0)
    clear S M
    unfold andNotV at g4 g5
    first
      | omega
      | contradiction
      | (simp_all; done)
      | (have gl := gl (by omega); simp_all; done)
  clear S; intro h80 S
  refine st_run [4, 1, 1, 1] S M rfl (by kernel_rfl) ?_; clear S a; intro a S
  refine st_fi (t := 84) S rfl ?_ ?_
  · clear S; intro h84 S
    refine st_go [0, 0, 0, 1, 1, 1] S rfl (by kernel_rfl) ?_; clear S a; intro a S
    replace S := S.sub [(1, _), (10, _), (11, _), (12, _), (13, _), (4, _), (3, _), (17, _), (39, _), (54, _), (69, _)] rfl
    refine nxC ?_
    refine st_condF S rfl ?_
    refine nxD ?_
    refine st_go [8] S rfl (by kernel_rfl) ?_; clear S a; intro a S
    refine st_y S rfl rfl rfl (y_loadAgg (cs := [_, _]) S (by kernel_rfl) rfl rfl (M.cellsAt (k := 2) 0 rfl rfl)) ?_; clear S a; intro a S
    refine st_run [5, 1] S M rfl (by kernel_rfl) ?_; clear S a; intro a S
    refine st_call (xs := [(Operand.tmp 92), (Operand.tmp 94)]) S (enters_of Try.func22 (by decide) rfl) rfl rfl rfl (changes_any _ _ _ _) ?_
    rintro _ w10 ⟨rfl, hK⟩; refine ⟨_, rfl, ?_⟩; clear S a; intro a S; replace M := M.grow hK
    refine st_go [1, 1] S rfl (by kernel_rfl) ?_; clear S a; intro a S
    refine st_if (t := 97) S rfl ?_ ?_
    · clear S; intro h97 S
      refine st_go [0, 0, 0, 0, 0, 0, 1, 1] S rfl (by kernel_rfl) ?_; clear S a; intro a S
      replace S := S.sub [(1, _), (10, _), (11, _), (12, _), (13, _), (4, _), (3, _), (17, _), (39, _), (54, _), (69, _), (90, _)] rfl
      refine nxC ?_
      refine st_condT S rfl ?_
      refine nxD ?_
      refine st_go [1] S rfl (by kernel_rfl) ?_; clear S a; intro a S
      refine nxC ?_
      refine wp_ret ?_
      refine block_ret ?_
      refine block_ret ?_
      refine then_ret ?_
      refine then_ret ?_
      refine block_ret ?_
      refine then_ret ?_
      refine end_one S rfl (res_tmp rfl) ?_
      refine ⟨?_, M.below⟩
      rw [hno k fun h => ?_]
      obtain ⟨hok, hls⟩ := h q hq
      obtain ⟨g1, g2, g3, g4, g5, g6, g7, g8, g9⟩ := drOk_iff.1 hok
      have gl : 0 < k → p.1.name.less q.1.name = true := fun h0 => hls p h0 (hp' h0)
      clear S M
      unfold andNotV at g4 g5
      first
        | omega
        | contradiction
        | (simp_all; done)
        | (have gl := gl (by omega); simp_all; done)
    clear S; intro h97 S
    refine st_run [10, 1, 8] S M rfl (by kernel_rfl) ?_; clear S a; intro a S
    refine st_y S rfl rfl rfl (y_loadAgg (cs := [_, _]) S (by kernel_rfl) rfl rfl (M.cellsAt (k := 2) 0 rfl rfl)) ?_; clear S a; intro a S
    refine st_call (xs := [(Operand.tmp 99), (Operand.tmp 101)]) S (enters_of Try.func23 (by decide) rfl) rfl rfl rfl (writesC_any ad cp q.2 _ _ _ (M.argW hws)) ?_
    rintro _ w11 ⟨rfl, hK⟩; refine ⟨_, rfl, ?_⟩; clear S a; intro a S; replace M := M.grow hK
    refine st_go [1, 1, 1] S rfl (by kernel_rfl) ?_; clear S a; intro a S
    replace S := S.sub [(1, _), (10, _), (11, _), (12, _), (13, _), (4, _), (3, _), (17, _), (39, _), (54, _), (69, _), (90, _)] rfl
    refine nxC ?_
    refine st_if (t := 90) S rfl ?_ ?_
    · clear S; intro h90 S
      refine st_condT S rfl ?_
      refine nxD ?_
      refine st_go [1] S rfl (by kernel_rfl) ?_; clear S a; intro a S
      refine nxC ?_
      refine wp_ret ?_
      refine block_ret ?_
      refine block_ret ?_
      refine then_ret ?_
      refine then_ret ?_
      refine block_ret ?_
      refine then_ret ?_
      refine end_one S rfl (res_tmp rfl) ?_
      refine ⟨?_, M.below⟩
      rw [hno k fun h => ?_]
      obtain ⟨hok, hls⟩ := h q hq
      obtain ⟨g1, g2, g3, g4, g5, g6, g7, g8, g9⟩ := drOk_iff.1 hok
      have gl : 0 < k → p.1.name.less q.1.name = true := fun h0 => hls p h0 (hp' h0)
      clear S M
      unfold andNotV at g4 g5
      first
        | omega
        | contradiction
        | (simp_all; done)
        | (have gl := gl (by omega); simp_all; done)
    clear S; intro h90 S
    refine st_condF S rfl ?_
    refine wp_skip ?_
    refine block_normal ?_
    refine block_normal ?_
    refine nxF ?_
    (first | refine st_y S rfl rfl rfl (y_addN S rfl rfl (by omega)) ?_ | refine st_y S rfl rfl rfl (y_int S rfl rfl rfl) ?_); clear S a; intro a S
    refine st_go [1] S rfl (by kernel_rfl) ?_; clear S a; intro a S
    refine nxC ?_
    replace M := M.drop 0
    simp only [List.eraseIdx_cons_succ, List.eraseIdx_cons_zero] at M
    refine ⟨ds.length - (k + 1), by omega, k + 1, by omega, rfl, S.sub _ rfl, M, fun i hi => ?_⟩
    rcases Nat.lt_or_ge i k with h | h
    · exact hat i h
    · obtain rfl : i = k := by omega
      intro q' hq'
      rw [hq] at hq'
      obtain rfl := Option.some.inj hq'
      clear S M
      refine ⟨drOk_iff.2 ⟨by assumption, by omega, by assumption, by unfold andNotV; assumption, by unfold andNotV; assumption, by omega, by omega, by assumption, by assumption⟩, fun p' h0 hp1 => ?_⟩
      rw [hp' h0] at hp1
      obtain rfl := Option.some.inj hp1
      first | assumption | (exfalso; omega)
  clear S; intro h84 S
  refine st_run [7, 1, 1, 1, 1, 1] S M rfl (by kernel_rfl) ?_; clear S a; intro a S
  replace S := S.sub [(1, _), (10, _), (11, _), (12, _), (13, _), (4, _), (3, _), (17, _), (39, _), (54, _), (69, _)] rfl
  refine nxC ?_
  refine st_if (t := 69) S rfl ?_ ?_
  · clear S; intro h69 S
    refine st_condT S rfl ?_
    refine nxD ?_
    refine st_go [1] S rfl (by kernel_rfl) ?_; clear S a; intro a S
    refine nxC ?_
    refine wp_ret ?_
    refine block_ret ?_
    refine block_ret ?_
    refine then_ret ?_
    refine then_ret ?_
    refine block_ret ?_
    refine then_ret ?_
    refine end_one S rfl (res_tmp rfl) ?_
    refine ⟨?_, M.below⟩
    rw [hno k fun h => ?_]
    obtain ⟨hok, hls⟩ := h q hq
    obtain ⟨g1, g2, g3, g4, g5, g6, g7, g8, g9⟩ := drOk_iff.1 hok
    have gl : 0 < k → p.1.name.less q.1.name = true := fun h0 => hls p h0 (hp' h0)
    clear S M
    unfold andNotV at g4 g5
    first
      | omega
      | contradiction
      | (simp_all; done)
      | (have gl := gl (by omega); simp_all; done)
  clear S; intro h69 S
  refine st_condF S rfl ?_
  refine nxD ?_
  refine st_go [8] S rfl (by kernel_rfl) ?_; clear S a; intro a S
  refine st_y S rfl rfl rfl (y_loadAgg (cs := [_, _]) S (by kernel_rfl) rfl rfl (M.cellsAt (k := 2) 0 rfl rfl)) ?_; clear S a; intro a S
  refine st_run [5, 1] S M rfl (by kernel_rfl) ?_; clear S a; intro a S
  refine st_call (xs := [(Operand.tmp 92), (Operand.tmp 94)]) S (enters_of Try.func22 (by decide) rfl) rfl rfl rfl (changes_any _ _ _ _) ?_
  rintro _ w8 ⟨rfl, hK⟩; refine ⟨_, rfl, ?_⟩; clear S a; intro a S; replace M := M.grow hK
  refine st_go [1, 1] S rfl (by kernel_rfl) ?_; clear S a; intro a S
  refine st_if (t := 97) S rfl ?_ ?_
  · clear S; intro h97 S
    refine st_go [0, 0, 0, 0, 0, 0, 1, 1] S rfl (by kernel_rfl) ?_; clear S a; intro a S
    replace S := S.sub [(1, _), (10, _), (11, _), (12, _), (13, _), (4, _), (3, _), (17, _), (39, _), (54, _), (69, _), (90, _)] rfl
    refine nxC ?_
    refine st_condT S rfl ?_
    refine nxD ?_
    refine st_go [1] S rfl (by kernel_rfl) ?_; clear S a; intro a S
    refine nxC ?_
    refine wp_ret ?_
    refine block_ret ?_
    refine block_ret ?_
    refine then_ret ?_
    refine then_ret ?_
    refine block_ret ?_
    refine then_ret ?_
    refine end_one S rfl (res_tmp rfl) ?_
    refine ⟨?_, M.below⟩
    rw [hno k fun h => ?_]
    obtain ⟨hok, hls⟩ := h q hq
    obtain ⟨g1, g2, g3, g4, g5, g6, g7, g8, g9⟩ := drOk_iff.1 hok
    have gl : 0 < k → p.1.name.less q.1.name = true := fun h0 => hls p h0 (hp' h0)
    clear S M
    unfold andNotV at g4 g5
    first
      | omega
      | contradiction
      | (simp_all; done)
      | (have gl := gl (by omega); simp_all; done)
  clear S; intro h97 S
  refine st_run [10, 1, 8] S M rfl (by kernel_rfl) ?_; clear S a; intro a S
  refine st_y S rfl rfl rfl (y_loadAgg (cs := [_, _]) S (by kernel_rfl) rfl rfl (M.cellsAt (k := 2) 0 rfl rfl)) ?_; clear S a; intro a S
  refine st_call (xs := [(Operand.tmp 99), (Operand.tmp 101)]) S (enters_of Try.func23 (by decide) rfl) rfl rfl rfl (writesC_any ad cp q.2 _ _ _ (M.argW hws)) ?_
  rintro _ w9 ⟨rfl, hK⟩; refine ⟨_, rfl, ?_⟩; clear S a; intro a S; replace M := M.grow hK
  refine st_go [1, 1, 1] S rfl (by kernel_rfl) ?_; clear S a; intro a S
  replace S := S.sub [(1, _), (10, _), (11, _), (12, _), (13, _), (4, _), (3, _), (17, _), (39, _), (54, _), (69, _), (90, _)] rfl
  refine nxC ?_
  refine st_if (t := 90) S rfl ?_ ?_
  · clear S; intro h90 S
    refine st_condT S rfl ?_
    refine nxD ?_
    refine st_go [1] S rfl (by kernel_rfl) ?_; clear S a; intro a S
    refine nxC ?_
    refine wp_ret ?_
    refine block_ret ?_
    refine block_ret ?_
    refine then_ret ?_
    refine then_ret ?_
    refine block_ret ?_
    refine then_ret ?_
    refine end_one S rfl (res_tmp rfl) ?_
    refine ⟨?_, M.below⟩
    rw [hno k fun h => ?_]
    obtain ⟨hok, hls⟩ := h q hq
    obtain ⟨g1, g2, g3, g4, g5, g6, g7, g8, g9⟩ := drOk_iff.1 hok
    have gl : 0 < k → p.1.name.less q.1.name = true := fun h0 => hls p h0 (hp' h0)
    clear S M
    unfold andNotV at g4 g5
    first
      | omega
      | contradiction
      | (simp_all; done)
      | (have gl := gl (by omega); simp_all; done)
  clear S; intro h90 S
  refine st_condF S rfl ?_
  refine wp_skip ?_
  refine block_normal ?_
  refine block_normal ?_
  refine nxF ?_
  (first | refine st_y S rfl rfl rfl (y_addN S rfl rfl (by omega)) ?_ | refine st_y S rfl rfl rfl (y_int S rfl rfl rfl) ?_); clear S a; intro a S
  refine st_go [1] S rfl (by kernel_rfl) ?_; clear S a; intro a S
  refine nxC ?_
  replace M := M.drop 0
  simp only [List.eraseIdx_cons_succ, List.eraseIdx_cons_zero] at M
  refine ⟨ds.length - (k + 1), by omega, k + 1, by omega, rfl, S.sub _ rfl, M, fun i hi => ?_⟩
  rcases Nat.lt_or_ge i k with h | h
  · exact hat i h
  · obtain rfl : i = k := by omega
    intro q' hq'
    rw [hq] at hq'
    obtain rfl := Option.some.inj hq'
    clear S M
    refine ⟨drOk_iff.2 ⟨by assumption, by omega, by assumption, by unfold andNotV; assumption, by unfold andNotV; assumption, by omega, by omega, by assumption, by assumption⟩, fun p' h0 hp1 => ?_⟩
    rw [hp' h0] at hp1
    obtain rfl := Option.some.inj hp1
    first | assumption | (exfalso; omega)

end Go.Proofs.Ytidpeojkkfmgeaa
