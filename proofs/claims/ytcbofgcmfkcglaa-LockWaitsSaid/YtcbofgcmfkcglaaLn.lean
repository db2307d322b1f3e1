/-
  law13: young.
-/
import Derived.Test.YtcbofgcmfkcglaaLm
namespace Go.Proofs.Ytcbofgcmfkcglaa
open Go.RowKit Go.Sort

theorem Rd.pre {lo hi sz m k cap : Nat} {w : World} {ad : Option Addr} {cs : List Value} (h : Rd lo hi w sz (.slice ad m cap) m cs) (hk : k ≤ m) : Rd lo hi w sz (.slice ad k cap) k (cs.take (k * sz)) := by
  obtain ⟨hl, hm, hh⟩ := h
  refine ⟨by rw [List.length_take, hl, Nat.min_eq_left (Nat.mul_le_mul_right _ hk)], by omega, ?_⟩
  rcases hh with ⟨e, rfl⟩ | ⟨ad', cap', e, hc, hcm, ha, hb⟩
  · injection e with e1 e2 e3
    obtain rfl : k = 0 := by omega
    subst e1 e3
    exact .inl ⟨rfl, rfl⟩
  · injection e with e1 e2 e3
    subst e1 e3
    refine .inr ⟨ad', _, rfl, by omega, hcm, by simpa using ha.sub (i := 0) (k := k * sz), fun hne => hb (by omega)⟩
theorem lcells_take (l : List Lk) (k : Nat) (hk : k ≤ l.length) : lcells (l.take k) = (lcells l).take (k * 5) := by
  conv => rhs; rw [← List.take_append_drop k l, lcells_append]
  rw [show k * 5 = (lcells (l.take k)).length by rw [lcells_length, List.length_take, Nat.min_eq_left hk]]
  exact List.take_left.symm
/-- each that waits is older than all that it waits for, of those that stand ahead of place k -/
def YoungK (h wt : List Lk) (k : Nat) : Prop := ∀ i x, i < k → wt[i]? = some x → (∀ q ∈ h, conf x q = true → x.name.stamp < q.name.stamp) ∧ ∀ q ∈ wt.take i, conf x q = true → x.name.stamp < q.name.stamp
def YoungP (h wt : List Lk) : Prop := YoungK h wt wt.length
set_option maxHeartbeats 2000000 in
theorem young_any (ha wa : Option Addr) (hc uc : Nat) (h wt : List Lk) (w : World) (hv : Ls 0 w.heap.size w (.slice ha h.length hc) h) (hu : Ls 0 w.heap.size w (.slice wa wt.length uc) wt) :
    Calls Try.prog 12 #[tabV ha wa h.length hc wt.length uc] w fun e w' => ∃ b, e = .returned (.bool b) ∧ Below w.heap.size w w' ∧ (b = true ↔ YoungP h wt) := by
  have M := Mem.start w
  have hl := hv.2.1
  have hl2 := hu.2.1
  unfold maxLen at hl hl2
  have hcap : wt.length ≤ uc := by
    rcases hu.2.2 with ⟨e, h0⟩ | ⟨_, _, e, hc', -⟩
    · injection e; omega
    · injection e; omega
  refine calls_enter Try.func12 rfl 60 rfl rfl ?_; intro a S
  refine nxD ?_
  refine st_box S M rfl rfl rfl #[_, _] rfl ?_; clear S M a; intro a w1 bT S M hB
  refine st_go [1] S rfl (by kernel_rfl) ?_; clear S a; intro a S
  refine nxC ?_
  refine wp_seq ?_
  refine nxD ?_
  refine st_run [2, 1] S M rfl (by kernel_rfl) ?_; clear S a; intro a S
  refine st_y S rfl rfl rfl (y_lenS (E := 37) S rfl (by kernel_rfl)) ?_; clear S a; intro a S
  refine st_go [1] S rfl (by kernel_rfl) ?_; clear S a; intro a S
  refine nxC ?_
  refine wp_block ?_
  refine wp_loop_g (fun m a w' => ∃ (k : Nat), k ≤ wt.length ∧ m = wt.length - k ∧ YoungK h wt k ∧ Sees 60 a [(1, .pointer (some ⟨bT, 0, none⟩)), (10, .slice wa wt.length uc), (11, .int .i64 (wt.length : Int)), (12, .int .i64 (k : Int))] ∧ Mem w w' [.blk bT #[.slice ha h.length hc, .slice wa wt.length uc] 30]) (wt.length) ?_ ?_
  · skip
    exact ⟨0, Nat.zero_le _, rfl, fun i x hi => absurd hi (by omega), S.sub _ rfl, M⟩
  clear S M a; intro m a wl
  rintro ⟨k, hk, rfl, hY, S, M⟩
  refine nxD ?_
  refine st_go [1] S rfl (by kernel_rfl) ?_; clear S a; intro a S
  refine nxC ?_
  refine wp_seq ?_
  refine st_fi (t := 13) S rfl ?_ ?_
  · clear S; intro h13 S
    refine st_condF S rfl ?_
    refine wp_exit ?_
    refine then_exit ?_
    refine then_exit ?_
    refine block_hit ?_
    refine nxE ?_
    refine st_go [1] S rfl (by kernel_rfl) ?_; clear S a; intro a S
    refine nxC ?_
    refine wp_ret ?_
    refine end_one S rfl (res_tmp rfl) ?_
    obtain rfl : k = wt.length := by omega
    exact ⟨true, rfl, M.below, fun _ => hY, fun _ => rfl⟩
  clear S; intro h13 S
  refine st_condT S rfl ?_
  refine wp_skip ?_
  refine then_normal ?_
  refine wp_seq ?_
  refine wp_block ?_
  refine wp_seq ?_
  obtain ⟨x, hx⟩ : ∃ x, wt[k]? = some x := ⟨_, List.getElem?_eq_getElem (by omega)⟩
  refine wp_region_lit ?_
  refine st_go [1] S rfl (by kernel_rfl) ?_; clear S a; intro a S
  refine st_y S rfl rfl rfl (y_indexR (e := 37) (sz := 5) S (by kernel_rfl) rfl ((M.arg hu)) rfl (by first | omega | (simp; done) | (simp; omega))) ?_; clear S a; intro a S
  try simp only [Int.toNat_natCast, Nat.mul_one, Nat.zero_add] at S
  refine st_y S rfl rfl rfl (y_loadAgg S (by kernel_rfl) rfl rfl ((M.arg hu).at_.row (i := k) (lcells_get hx) rfl)) ?_; clear S a; intro a S
  refine st_alloc S M rfl rfl #[.int .i64 0, .int .i64 0, .int .i64 0, .int .i64 0, .bool false] (by kernel_rfl) ?_; clear S M a; intro a w2 bX S M hB
  refine st_go [1] S rfl (by kernel_rfl) ?_; clear S a; intro a S
  refine st_store (sz := 5) (us := [_, _, _, _, _]) S M 0 rfl (by kernel_rfl) rfl rfl rfl rfl rfl rfl (by first | decide | (simp; done) | (simp; omega)) ?_; clear M; intro w3 M
  simp only [putL, List.set_cons_zero, List.set_cons_succ, Nat.reduceAdd] at M
  refine nxC ?_
  refine wp_seq ?_
  refine nxD ?_
  refine st_run [1, 2] S M rfl (by kernel_rfl) ?_; clear S a; intro a S
  refine st_y S rfl rfl rfl (y_lenS (E := 37) S rfl (by kernel_rfl)) ?_; clear S a; intro a S
  refine st_go [1] S rfl (by kernel_rfl) ?_; clear S a; intro a S
  refine nxC ?_
  refine wp_block ?_
  refine wp_loop_g (fun m a w' => ∃ (j : Nat), j ≤ h.length ∧ m = h.length - j ∧ (∀ q ∈ h.take j, conf x q = true → x.name.stamp < q.name.stamp) ∧ Sees 60 a [(1, .pointer (some ⟨bT, 0, none⟩)), (3, .int .i64 (k : Int)), (4, .pointer (some ⟨bX, 0, none⟩)), (10, .slice wa wt.length uc), (11, .int .i64 (wt.length : Int)), (12, .int .i64 (k : Int)), (18, .slice ha h.length hc), (19, .int .i64 (h.length : Int)), (20, .int .i64 (j : Int))] ∧ Mem w w' [.blk bX x.cellsL.toArray 37, .blk bT #[.slice ha h.length hc, .slice wa wt.length uc] 30]) (h.length) ?_ ?_
  · skip
    exact ⟨0, Nat.zero_le _, rfl, fun q hq => (by simp at hq), S.sub _ rfl, M⟩
  clear S M a; intro m a wl
  rintro ⟨j, hj, rfl, hH, S, M⟩
  refine nxD ?_
  refine st_go [1] S rfl (by kernel_rfl) ?_; clear S a; intro a S
  refine nxC ?_
  refine wp_seq ?_
  refine st_if (t := 21) S rfl ?_ ?_
  · clear S; intro h21 S
    refine st_condT S rfl ?_
    refine wp_skip ?_
    refine then_normal ?_
    refine wp_seq ?_
    refine wp_block ?_
    refine wp_seq ?_
    obtain ⟨y, hy⟩ : ∃ y, h[j]? = some y := ⟨_, List.getElem?_eq_getElem (by omega)⟩
    have hym := List.mem_of_getElem? hy
    refine wp_region_lit ?_
    refine st_y S rfl rfl rfl (y_indexR (e := 37) (sz := 5) S (by kernel_rfl) rfl ((M.arg hv)) rfl (by first | omega | (simp; done) | (simp; omega))) ?_; clear S a; intro a S
    try simp only [Int.toNat_natCast, Nat.mul_one, Nat.zero_add] at S
    refine st_y S rfl rfl rfl (y_loadAgg S (by kernel_rfl) rfl rfl ((M.arg hv).at_.row (i := j) (lcells_get hy) rfl)) ?_; clear S a; intro a S
    refine st_alloc S M rfl rfl #[.int .i64 0, .int .i64 0, .int .i64 0, .int .i64 0, .bool false] (by kernel_rfl) ?_; clear S M a; intro a w4 bY S M hB
    refine st_store (sz := 5) (us := [_, _, _, _, _]) S M 0 rfl (by kernel_rfl) rfl rfl rfl rfl rfl rfl (by first | decide | (simp; done) | (simp; omega)) ?_; clear M; intro w5 M
    simp only [putL, List.set_cons_zero, List.set_cons_succ, Nat.reduceAdd] at M
    refine nxA ?_
    refine st_y S rfl rfl rfl (y_loadAgg (cs := [_, _, _, _, _]) S (by kernel_rfl) rfl rfl (M.cellsAt (k := 5) 1 rfl rfl)) ?_; clear S a; intro a S
    refine st_y S rfl rfl rfl (y_loadAgg (cs := [_, _, _, _, _]) S (by kernel_rfl) rfl rfl (M.cellsAt (k := 5) 0 rfl rfl)) ?_; clear S a; intro a S
    refine st_call (xs := [(Operand.tmp 24), (Operand.tmp 25)]) S (enters_of Try.func33 (by decide) rfl) rfl rfl rfl (against13_any x y _) ?_
    rintro _ w6 ⟨rfl, hK⟩; refine ⟨_, rfl, ?_⟩; clear S a; intro a S; replace M := M.grow hK
    refine st_go [1] S rfl (by kernel_rfl) ?_; clear S a; intro a S
    refine st_tils (t := 27) S rfl ?_ ?_
    · clear S; intro h27 S
      refine st_go [0, 0, 0, 0, 0, 0, 0, 1] S rfl (by kernel_rfl) ?_; clear S a; intro a S
      refine nxC ?_
      refine st_condF S rfl ?_
      refine wp_skip ?_
      refine block_normal ?_
      refine nxF ?_
      (first | refine st_y S rfl rfl rfl (y_addN S rfl rfl (by omega)) ?_ | refine st_y S rfl rfl rfl (y_int S rfl rfl rfl) ?_); clear S a; intro a S
      refine st_go [1] S rfl (by kernel_rfl) ?_; clear S a; intro a S
      replace S := S.sub [(1, _), (3, _), (4, _), (10, _), (11, _), (12, _), (18, _), (19, _), (21, _), (6, _), (35, _), (20, _)] rfl
      refine nxC ?_
      skip
      replace M := M.drop 0
      simp only [List.eraseIdx_cons_succ, List.eraseIdx_cons_zero] at M
      refine ⟨h.length - (j + 1), by omega, j + 1, by omega, rfl, fun q hq hc => ?_, S.sub _ rfl, M⟩
      rw [List.take_add_one, hy] at hq
      rcases List.mem_append.1 hq with hq | hq
      · exact hH q hq hc
      · obtain rfl := List.mem_singleton.1 hq
        first | omega | (rw [h27] at hc; cases hc)
    clear S; intro h27 S
    refine st_run [1, 1, 2, 1, 1, 1, 1, 1] S M rfl (by kernel_rfl) ?_; clear S a; intro a S
    refine nxC ?_
    refine st_if (t := 35) S rfl ?_ ?_
    · clear S; intro h35 S
      refine st_condT S rfl ?_
      refine nxD ?_
      refine st_go [1] S rfl (by kernel_rfl) ?_; clear S a; intro a S
      refine nxC ?_
      refine wp_ret ?_
      refine block_ret ?_
      refine then_ret ?_
      refine then_ret ?_
      refine block_ret ?_
      refine then_ret ?_
      refine block_ret ?_
      refine then_ret ?_
      refine then_ret ?_
      refine block_ret ?_
      refine then_ret ?_
      refine end_one S rfl (res_tmp rfl) ?_
      exact ⟨false, rfl, M.below, fun h => absurd h (by decide), fun hP => by have := (hP k x (by omega) hx).1 y hym h27; omega⟩
    clear S; intro h35 S
    refine st_condF S rfl ?_
    refine wp_skip ?_
    refine block_normal ?_
    refine nxF ?_
    (first | refine st_y S rfl rfl rfl (y_addN S rfl rfl (by omega)) ?_ | refine st_y S rfl rfl rfl (y_int S rfl rfl rfl) ?_); clear S a; intro a S
    refine st_go [1] S rfl (by kernel_rfl) ?_; clear S a; intro a S
    replace S := S.sub [(1, _), (3, _), (4, _), (10, _), (11, _), (12, _), (18, _), (19, _), (21, _), (6, _), (35, _), (20, _)] rfl
    refine nxC ?_
    skip
    replace M := M.drop 0
    simp only [List.eraseIdx_cons_succ, List.eraseIdx_cons_zero] at M
    refine ⟨h.length - (j + 1), by omega, j + 1, by omega, rfl, fun q hq hc => ?_, S.sub _ rfl, M⟩
    rw [List.take_add_one, hy] at hq
    rcases List.mem_append.1 hq with hq | hq
    · exact hH q hq hc
    · obtain rfl := List.mem_singleton.1 hq
      first | omega | (rw [h27] at hc; cases hc)
  clear S; intro h21 S
  refine st_condF S rfl ?_
  refine wp_exit ?_
  refine then_exit ?_
  refine then_exit ?_
  refine block_hit ?_
  refine then_normal ?_
  refine wp_seq ?_
  obtain rfl : j = h.length := by omega
  rw [List.take_length] at hH
  refine wp_region_lit ?_
  refine st_run [2, 2, 1] S M rfl (by kernel_rfl) ?_; clear S a; intro a S
  refine st_y S rfl rfl rfl (y_slice02 (e := 37) (sz := 5) S (by kernel_rfl) rfl rfl (by first | omega | (simp; done) | (simp; omega))) ?_; clear S a; intro a S
  refine st_y S rfl rfl rfl (y_lenS (E := 37) S rfl (by kernel_rfl)) ?_; clear S a; intro a S
  refine st_go [1] S rfl (by kernel_rfl) ?_; clear S a; intro a S
  refine nxC ?_
  refine wp_block ?_
  refine wp_loop_g (fun m a w' => ∃ (j : Nat), j ≤ k ∧ m = k - j ∧ (∀ q ∈ wt.take j, conf x q = true → x.name.stamp < q.name.stamp) ∧ Sees 60 a [(1, .pointer (some ⟨bT, 0, none⟩)), (4, .pointer (some ⟨bX, 0, none⟩)), (10, .slice wa wt.length uc), (11, .int .i64 (wt.length : Int)), (12, .int .i64 (k : Int)), (40, .slice wa k uc), (41, .int .i64 (k : Int)), (42, .int .i64 (j : Int))] ∧ Mem w w' [.blk bX x.cellsL.toArray 37, .blk bT #[.slice ha h.length hc, .slice wa wt.length uc] 30]) (k) ?_ ?_
  · skip
    exact ⟨0, Nat.zero_le _, rfl, fun q hq => (by simp at hq), S.sub _ rfl, M⟩
  clear S M a; intro m a wl
  rintro ⟨j2, hj2, rfl, hW, S, M⟩
  have hpre : Rd 0 w.heap.size w 5 (.slice wa k uc) k (lcells (wt.take k)) := by
    have := Rd.pre hu (k := k) (by omega)
    rw [← lcells_take wt k (by omega)] at this
    exact this
  refine nxD ?_
  refine st_go [1] S rfl (by kernel_rfl) ?_; clear S a; intro a S
  refine nxC ?_
  refine wp_seq ?_
  refine st_fi (t := 43) S rfl ?_ ?_
  · clear S; intro h43 S
    refine st_condF S rfl ?_
    refine wp_exit ?_
    refine then_exit ?_
    refine then_exit ?_
    refine block_hit ?_
    refine block_normal ?_
    refine nxF ?_
    (first | refine st_y S rfl rfl rfl (y_addN S rfl rfl (by omega)) ?_ | refine st_y S rfl rfl rfl (y_int S rfl rfl rfl) ?_); clear S a; intro a S
    refine st_go [1] S rfl (by kernel_rfl) ?_; clear S a; intro a S
    refine nxC ?_
    skip
    replace M := M.drop 0
    simp only [List.eraseIdx_cons_succ, List.eraseIdx_cons_zero] at M
    obtain rfl : j2 = k := by omega
    refine ⟨wt.length - (j2 + 1), by omega, j2 + 1, by omega, rfl, fun i y hi hy => ?_, S.sub _ rfl, M⟩
    rcases Nat.lt_or_ge i j2 with h9 | h9
    · exact hY i y h9 hy
    · obtain rfl : i = j2 := by omega
      rw [hx] at hy; obtain rfl := Option.some.inj hy
      exact ⟨hH, hW⟩
  clear S; intro h43 S
  refine st_condT S rfl ?_
  refine wp_skip ?_
  refine then_normal ?_
  refine wp_seq ?_
  refine wp_block ?_
  refine wp_seq ?_
  obtain ⟨y, hy⟩ : ∃ y, (wt.take k)[j2]? = some y := ⟨_, List.getElem?_eq_getElem (by rw [List.length_take]; omega)⟩
  have hym := List.mem_of_getElem? hy
  refine wp_region_lit ?_
  refine st_y S rfl rfl rfl (y_indexR (e := 37) (sz := 5) S (by kernel_rfl) rfl ((M.arg hpre)) rfl (by first | omega | (simp; done) | (simp; omega))) ?_; clear S a; intro a S
  try simp only [Int.toNat_natCast, Nat.mul_one, Nat.zero_add] at S
  refine st_y S rfl rfl rfl (y_loadAgg S (by kernel_rfl) rfl rfl ((M.arg hpre).at_.row (i := j2) (lcells_get hy) rfl)) ?_; clear S a; intro a S
  refine st_alloc S M rfl rfl #[.int .i64 0, .int .i64 0, .int .i64 0, .int .i64 0, .bool false] (by kernel_rfl) ?_; clear S M a; intro a w7 bY S M hB
  refine st_store (sz := 5) (us := [_, _, _, _, _]) S M 0 rfl (by kernel_rfl) rfl rfl rfl rfl rfl rfl (by first | decide | (simp; done) | (simp; omega)) ?_; clear M; intro w8 M
  simp only [putL, List.set_cons_zero, List.set_cons_succ, Nat.reduceAdd] at M
  refine nxA ?_
  refine st_y S rfl rfl rfl (y_loadAgg (cs := [_, _, _, _, _]) S (by kernel_rfl) rfl rfl (M.cellsAt (k := 5) 1 rfl rfl)) ?_; clear S a; intro a S
  refine st_y S rfl rfl rfl (y_loadAgg (cs := [_, _, _, _, _]) S (by kernel_rfl) rfl rfl (M.cellsAt (k := 5) 0 rfl rfl)) ?_; clear S a; intro a S
  refine st_call (xs := [(Operand.tmp 46), (Operand.tmp 47)]) S (enters_of Try.func33 (by decide) rfl) rfl rfl rfl (against13_any x y _) ?_
  rintro _ w9 ⟨rfl, hK⟩; refine ⟨_, rfl, ?_⟩; clear S a; intro a S; replace M := M.grow hK
  refine st_go [1] S rfl (by kernel_rfl) ?_; clear S a; intro a S
  refine st_tils (t := 49) S rfl ?_ ?_
  · clear S; intro h49 S
    refine st_go [0, 0, 0, 0, 0, 0, 0, 1] S rfl (by kernel_rfl) ?_; clear S a; intro a S
    refine nxC ?_
    refine st_condF S rfl ?_
    refine wp_skip ?_
    refine block_normal ?_
    refine nxF ?_
    (first | refine st_y S rfl rfl rfl (y_addN S rfl rfl (by omega)) ?_ | refine st_y S rfl rfl rfl (y_int S rfl rfl rfl) ?_); clear S a; intro a S
    refine st_go [1] S rfl (by kernel_rfl) ?_; clear S a; intro a S
    replace S := S.sub [(1, _), (4, _), (10, _), (11, _), (12, _), (40, _), (41, _), (43, _), (8, _), (57, _), (42, _)] rfl
    refine nxC ?_
    skip
    replace M := M.drop 0
    simp only [List.eraseIdx_cons_succ, List.eraseIdx_cons_zero] at M
    refine ⟨k - (j2 + 1), by omega, j2 + 1, by omega, rfl, fun q hq hc => ?_, S.sub _ rfl, M⟩
    have hy2 : wt[j2]? = some y := by rw [List.getElem?_take_of_lt (by omega)] at hy; exact hy
    rw [List.take_add_one, hy2] at hq
    rcases List.mem_append.1 hq with hq | hq
    · exact hW q hq hc
    · obtain rfl := List.mem_singleton.1 hq
      first | omega | (rw [h49] at hc; cases hc)
  clear S; intro h49 S
  refine st_run [1, 1, 2, 1, 1, 1, 1, 1] S M rfl (by kernel_rfl) ?_; clear S a; intro a S
  refine nxC ?_
  refine st_if (t := 57) S rfl ?_ ?_
  · clear S; intro h57 S
    refine st_condT S rfl ?_
    refine nxD ?_
    refine st_go [1] S rfl (by kernel_rfl) ?_; clear S a; intro a S
    refine nxC ?_
    refine wp_ret ?_
    refine block_ret ?_
    refine then_ret ?_
    refine then_ret ?_
    refine block_ret ?_
    refine block_ret ?_
    refine then_ret ?_
    refine then_ret ?_
    refine block_ret ?_
    refine then_ret ?_
    refine end_one S rfl (res_tmp rfl) ?_
    exact ⟨false, rfl, M.below, fun h => absurd h (by decide), fun hP => by have := (hP k x (by omega) hx).2 y hym h49; omega⟩
  clear S; intro h57 S
  refine st_condF S rfl ?_
  refine wp_skip ?_
  refine block_normal ?_
  refine nxF ?_
  (first | refine st_y S rfl rfl rfl (y_addN S rfl rfl (by omega)) ?_ | refine st_y S rfl rfl rfl (y_int S rfl rfl rfl) ?_); clear S a; intro a S
  refine st_go [1] S rfl (by kernel_rfl) ?_; clear S a; intro a S
  replace S := S.sub [(1, _), (4, _), (10, _), (11, _), (12, _), (40, _), (41, _), (43, _), (8, _), (57, _), (42, _)] rfl
  refine nxC ?_
  skip
  replace M := M.drop 0
  simp only [List.eraseIdx_cons_succ, List.eraseIdx_cons_zero] at M
  refine ⟨k - (j2 + 1), by omega, j2 + 1, by omega, rfl, fun q hq hc => ?_, S.sub _ rfl, M⟩
  have hy2 : wt[j2]? = some y := by rw [List.getElem?_take_of_lt (by omega)] at hy; exact hy
  rw [List.take_add_one, hy2] at hq
  rcases List.mem_append.1 hq with hq | hq
  · exact hW q hq hc
  · obtain rfl := List.mem_singleton.1 hq
    first | omega | (rw [h49] at hc; cases hc)

end Go.Proofs.Ytcbofgcmfkcglaa
