/-
  Package fabric: Check, copied, joined.
-/
import Derived.Test.YtojgcgaoajfihaaHm
import Derived.Test.YtojgcgaoajfihaaClw
import Derived.Test.YtojgcgaoajfihaaGX
namespace Go.Proofs.Ytojgcgaoajfihaa
open Go.RowKit Go.Sort

theorem Ml.all_take {l : Ml} {k : Nat} {q : Msg × List Wr} (hq : l[k]? = some q) (h : Ml.all (l.take k) = true) : Ml.all (l.take (k + 1)) = q.1.may q.2 := by
  obtain ⟨hlt, he⟩ := List.getElem?_eq_some_iff.1 hq
  rw [List.take_succ_eq_append_getElem hlt, he]
  unfold Ml.all at *
  rw [List.all_append, h]; simp
theorem check16_any (v : Value) (cs : List Value) (ms : Ml) (w : World) (hv : MsC cs 0 w.heap.size w v ms) :
    Calls Try.prog 13 #[.agg #[v]] w fun e w' => e = .returned (.int .i64 (if ms.ok then 0 else 2)) ∧ Below w.heap.size w w' := by
  have M := Mem.start w
  have hl := hv.1.2.1
  unfold maxLen at hl
  generalize hR : (if ms.ok = true then (0 : Int) else 2) = R
  refine calls_enter Try.func13 rfl 20 rfl rfl ?_; intro a S
  refine nxD ?_
  refine st_box S M rfl rfl rfl #[_] rfl ?_; clear S M a; intro a w1 bF S M hB
  refine st_go [1] S rfl (by kernel_rfl) ?_; clear S a; intro a S
  refine nxC ?_
  refine wp_seq ?_
  refine nxD ?_
  refine st_run [1, 1] S M rfl (by kernel_rfl) ?_; clear S a; intro a S
  refine st_y S rfl rfl rfl (y_lenR (E := 42) S rfl ((M.ms hv).1) (by kernel_rfl)) ?_; clear S a; intro a S
  refine st_go [1] S rfl (by kernel_rfl) ?_; clear S a; intro a S
  refine nxC ?_
  refine st_if (t := 8) S rfl ?_ ?_
  · clear S; intro h8 S
    refine st_condT S rfl ?_
    refine nxD ?_
    refine st_go [1] S rfl (by kernel_rfl) ?_; clear S a; intro a S
    refine nxC ?_
    refine wp_ret ?_
    refine then_ret ?_
    refine end_one S rfl (res_tmp rfl) ?_
    refine ⟨?_, M.below⟩
    rw [← hR, if_neg]
    intro h; have := (Ml.ok_iff.1 h).1; omega
  clear S; intro h8 S
  refine st_condF S rfl ?_
  refine wp_skip ?_
  refine then_normal ?_
  refine wp_seq ?_
  refine nxD ?_
  refine st_run [1, 1] S M rfl (by kernel_rfl) ?_; clear S a; intro a S
  refine st_y S rfl rfl rfl (y_lenR (E := 42) S rfl ((M.ms hv).1) (by kernel_rfl)) ?_; clear S a; intro a S
  refine st_go [1] S rfl (by kernel_rfl) ?_; clear S a; intro a S
  refine nxC ?_
  refine wp_block ?_
  refine wp_loop_g (fun m a w' => ∃ (k : Nat), k ≤ ms.length ∧ m = ms.length - k ∧ Sees 20 a [(10, v), (11, .int .i64 (ms.length : Int)), (12, .int .i64 (k : Int))] ∧ Mem w w' [] ∧ Ml.all (ms.take k) = true) (ms.length) ?_ ?_
  · skip
    exact ⟨0, Nat.zero_le _, rfl, S.sub _ rfl, M.drop 0, rfl⟩
  clear S M a; intro m a wl
  rintro ⟨k, hk, rfl, S, M, hall⟩
  refine nxD ?_
  refine st_go [1] S rfl (by kernel_rfl) ?_; clear S a; intro a S
  refine nxC ?_
  refine wp_seq ?_
  refine st_fi (t := 13) S rfl ?_ ?_
  · clear S; intro h13 S
    refine st_condF S rfl ?_
    refine wp_exit ?_
    refine then_exit ?_
    refine then_exit ?_
    refine block_hit ?_
    refine nxE ?_
    refine st_go [1] S rfl (by kernel_rfl) ?_; clear S a; intro a S
    refine nxC ?_
    refine wp_ret ?_
    refine end_one S rfl (res_tmp rfl) ?_
    obtain rfl : k = ms.length := by omega
    refine ⟨?_, M.below⟩
    rw [List.take_length] at hall
    rw [← hR, if_pos (Ml.ok_iff.2 ⟨by omega, hall⟩)]
  clear S; intro h13 S
  refine st_condT S rfl ?_
  refine wp_skip ?_
  refine then_normal ?_
  refine wp_seq ?_
  refine wp_block ?_
  refine nxD ?_
  obtain ⟨q, hq⟩ : ∃ q, ms[k]? = some q := ⟨_, List.getElem?_eq_getElem (by omega)⟩
  obtain ⟨ad, cp, hrow, hws⟩ := hv.sl hq
  refine st_y S rfl rfl rfl (y_indexR (e := 42) (sz := 24) S (by kernel_rfl) rfl ((M.ms hv).1) rfl (by first | omega | (simp; done) | (simp; omega))) ?_; clear S a; intro a S
  try simp only [Int.toNat_natCast, Nat.mul_one, Nat.zero_add] at S
  refine st_y S rfl rfl rfl (y_loadAgg S (by kernel_rfl) rfl rfl ((M.ms hv).1.at_.row (i := k) hrow rfl)) ?_; clear S a; intro a S
  refine st_alloc S M rfl rfl #[.int .i8 0, .int .i64 0, .int .i64 0, .int .i64 0, .int .i64 0, .int .i64 0, .int .i64 0, .int .i64 0, .int .i64 0, .int .i8 0, .int .i64 0, .int .u8 0, .int .u8 0, .int .u8 0, .int .u8 0, .int .u8 0, .int .u8 0, .int .u8 0, .int .u8 0, .int .i64 0, .bool false, .int .i64 0, .int .i64 0, .slice none 0 0] (by kernel_rfl) ?_; clear S M a; intro a w2 bB S M hB
  refine st_store (sz := 24) (us := [_, _, _, _, _, _, _, _, _, _, _, _, _, _, _, _, _, _, _, _, _, _, _, _]) S M 0 rfl (by kernel_rfl) rfl rfl rfl rfl rfl rfl (by first | decide | (simp; done) | (simp; omega)) ?_; clear M; intro w3 M
  simp only [putL, List.set_cons_zero, List.set_cons_succ, Nat.reduceAdd] at M
  refine nxA ?_
  refine st_y S rfl rfl rfl (y_loadAgg (cs := [_, _, _, _, _, _, _, _, _, _, _, _, _, _, _, _, _, _, _, _, _, _, _, _]) S (by kernel_rfl) rfl rfl (M.cellsAt (k := 24) 0 rfl rfl)) ?_; clear S a; intro a S
  refine st_call (xs := [(Operand.tmp 16)]) S (enters_of Try.func26 (by decide) rfl) rfl rfl rfl (mayM_any q.1 ad q.2.length cp q.2 _ (M.argW hws)) ?_
  rintro _ w4 ⟨rfl, hK⟩; refine ⟨_, rfl, ?_⟩; clear S a; intro a S; replace M := M.grow hK
  refine st_go [1] S rfl (by kernel_rfl) ?_; clear S a; intro a S
  refine nxC ?_
  refine st_split (t := 18) S rfl ?_ ?_
  · clear S; intro h18 S
    refine st_condT S rfl ?_
    refine nxD ?_
    refine st_go [1] S rfl (by kernel_rfl) ?_; clear S a; intro a S
    refine nxC ?_
    refine wp_ret ?_
    refine block_ret ?_
    refine then_ret ?_
    refine then_ret ?_
    refine block_ret ?_
    refine then_ret ?_
    refine end_one S rfl (res_tmp rfl) ?_
    refine ⟨?_, M.below⟩
    rw [← hR, if_neg]
    intro h; have := Ml.all_get (Ml.ok_iff.1 h).2 hq; rw [this] at h18; cases h18
  clear S; intro h18 S
  refine st_condF S rfl ?_
  refine wp_skip ?_
  refine block_normal ?_
  refine nxF ?_
  (first | refine st_y S rfl rfl rfl (y_addN S rfl rfl (by omega)) ?_ | refine st_y S rfl rfl rfl (y_int S rfl rfl rfl) ?_); clear S a; intro a S
  refine st_go [1] S rfl (by kernel_rfl) ?_; clear S a; intro a S
  refine nxC ?_
  refine ⟨ms.length - (k + 1), by omega, k + 1, by omega, rfl, S.sub _ rfl, M.drop 0, ?_⟩
  rw [Ml.all_take hq hall]; simpa using h18

theorem copied_any (m : Msg) (va : Option Addr) (vc : Nat) (x : List Wr) (w : World) (hv : Ws 0 w.heap.size w (.slice va x.length vc) x) (hl : x.length ≤ 1000) :
    Calls Try.prog 29 #[.agg (m.cells (.slice va x.length vc))] w fun e w' => ∃ ad cp, e = .returned (.agg (m.cells (.slice ad x.length cp))) ∧ Fresh w w' 72 9 (.slice ad x.length cp) x.length (wcells x) := by
  have M := Mem.start w
  refine calls_enter Try.func29 rfl 8 rfl rfl ?_; intro a S
  refine nxD ?_
  refine st_box S M rfl rfl rfl #[_, _, _, _, _, _, _, _, _, _, _, _, _, _, _, _, _, _, _, _, _, _, _, _] rfl ?_; clear S M a; intro a w1 b1 S M hB
  refine st_alloc S M rfl rfl #[.int .i8 0, .int .i64 0, .int .i64 0, .int .i64 0, .int .i64 0, .int .i64 0, .int .i64 0, .int .i64 0, .int .i64 0, .int .i8 0, .int .i64 0, .int .u8 0, .int .u8 0, .int .u8 0, .int .u8 0, .int .u8 0, .int .u8 0, .int .u8 0, .int .u8 0, .int .i64 0, .bool false, .int .i64 0, .int .i64 0, .slice none 0 0] (by kernel_rfl) ?_; clear S M a; intro a w2 b2 S M hB
  refine nxA ?_
  refine st_run [24, 2] S M rfl (by kernel_rfl) ?_; clear S a; intro a S
  refine st_call (xs := [(Operand.tmp 4)]) S (enters_of Try.func55 (by decide) rfl) rfl rfl rfl (cloneW_any _ x _ (M.argW hv) (by omega)) ?_
  rintro _ w3 ⟨v', rfl, hF⟩; refine ⟨_, rfl, ?_⟩; clear S a; intro a S
  obtain ⟨ad, cp, hE, -, -⟩ := (hF.rd0 (by unfold maxLen; omega)).form
  subst hE
  obtain ⟨lo, hi, -, M⟩ := M.pushFresh hF
  refine st_go [24] S rfl (by kernel_rfl) ?_; clear S a; intro a S
  refine st_store (sz := 1) (us := [_]) S M 2 rfl (by kernel_rfl) rfl rfl rfl rfl rfl rfl (by first | decide | (simp; done) | (simp; omega)) ?_; clear M; intro w4 M
  simp only [putL, List.set_cons_zero, List.set_cons_succ, Nat.reduceAdd] at M
  refine nxA ?_
  refine st_y S rfl rfl rfl (y_loadAgg (cs := [_, _, _, _, _, _, _, _, _, _, _, _, _, _, _, _, _, _, _, _, _, _, _, _]) S (by kernel_rfl) rfl rfl (M.cellsAt (k := 24) 2 rfl rfl)) ?_; clear S a; intro a S
  refine st_store (sz := 24) (us := [_, _, _, _, _, _, _, _, _, _, _, _, _, _, _, _, _, _, _, _, _, _, _, _]) S M 1 rfl (by kernel_rfl) rfl rfl rfl rfl rfl rfl (by first | decide | (simp; done) | (simp; omega)) ?_; clear M; intro w5 M
  simp only [putL, List.set_cons_zero, List.set_cons_succ, Nat.reduceAdd] at M
  refine nxC ?_
  refine wp_ret ?_
  refine end_one S rfl (res_agg (cs := [_, _, _, _, _, _, _, _, _, _, _, _, _, _, _, _, _, _, _, _, _, _, _, _]) (by kernel_rfl) rfl rfl (M.cellsAt (k := 24) 1 rfl rfl)) ?_
  exact ⟨ad, cp, rfl, M.fresh 0 rfl⟩

/-- lists of messages: each slice, its cells, what it reads as -/
abbrev Ls := List (Value × List Value × Ml)
def Ls.ms (l : Ls) : Ml := l.flatMap fun x => x.2.2
theorem Ls.ms_take {l : Ls} {k : Nat} {x : Value × List Value × Ml} (h : l[k]? = some x) : Ls.ms (l.take (k + 1)) = Ls.ms (l.take k) ++ x.2.2 := by
  obtain ⟨hlt, he⟩ := List.getElem?_eq_some_iff.1 h
  unfold Ls.ms
  rw [List.take_succ_eq_append_getElem hlt, he, List.flatMap_append]; simp
def Ls.vs (l : Ls) : List Value := l.map fun x => x.1
def LsR (w : World) (l : Ls) : Prop := ∀ (i : Nat) (x : Value × List Value × Ml), l[i]? = some x → MsC x.2.1 0 w.heap.size w x.1 x.2.2 ∧ (Ls.ms (l.take i)).length + x.2.2.length ≤ 1000 ∧ ∀ q ∈ x.2.2, q.2.length ≤ 1000
theorem take_snoc {α : Type} {l : List α} {k : Nat} {x : α} (h : l[k]? = some x) : l.take (k + 1) = l.take k ++ [x] := by
  obtain ⟨hlt, he⟩ := List.getElem?_eq_some_iff.1 h
  rw [List.take_succ_eq_append_getElem hlt, he]
def JoinPost (ms : Ml) (w : World) (e : Ending) (w' : World) : Prop := ∃ ad cp cs, e = .returned (.agg #[.slice ad ms.length cp]) ∧ Below w.heap.size w w' ∧ MsC cs w.heap.size w'.heap.size w' (.slice ad ms.length cp) ms
set_option maxHeartbeats 1000000 in
theorem joined_any (v : Value) (l : Ls) (w : World) (hv : Rd 0 w.heap.size w 1 v l.length l.vs) (hl : LsR w l) (hlen : l.ms.length ≤ 1000) : Calls Try.prog 27 #[v] w (JoinPost l.ms w) := by
  have M := Mem.start w
  have hll := hv.2.1
  unfold maxLen at hll
  refine calls_enter Try.func27 rfl 30 rfl rfl ?_; intro a S
  refine nxD ?_
  refine st_alloc S M rfl rfl #[.slice none 0 0] (by kernel_rfl) ?_; clear S M a; intro a w1 bO S M hB
  refine nxA ?_
  refine st_alloc S M rfl rfl #[.slice none 0 0] (by kernel_rfl) ?_; clear S M a; intro a w2 bF S M hB
  refine nxC ?_
  refine wp_seq ?_
  refine nxD ?_
  refine st_go [1] S rfl (by kernel_rfl) ?_; clear S a; intro a S
  refine st_y S rfl rfl rfl (y_lenR (E := 22) S rfl (M.arg hv) (by kernel_rfl)) ?_; clear S a; intro a S
  refine st_go [1] S rfl (by kernel_rfl) ?_; clear S a; intro a S
  refine nxC ?_
  refine wp_block ?_
  refine wp_loop_g (fun m a w' => ∃ (k : Nat), k ≤ l.length ∧ m = l.length - k ∧ Sees 30 a [(2, .pointer (some ⟨bO, 0, none⟩)), (3, .pointer (some ⟨bF, 0, none⟩)), (8, v), (9, .int .i64 (l.length : Int)), (10, .int .i64 (k : Int))] ∧ ∃ u lo hi cs es, Mem w w' (.blk bF #[u] 24 :: .blk bO #[.slice none 0 0] 24 :: rowE lo hi 42 24 u (Ls.ms (l.take k)).length cs :: es) ∧ MsBk cs (Ls.ms (l.take k)) es) (l.length) ?_ ?_
  · skip
    replace M := M.rowNil 42 24
    replace M := M.front 2 rfl
    simp only [List.eraseIdx_cons_succ, List.eraseIdx_cons_zero] at M
    replace M := M.front 2 rfl
    simp only [List.eraseIdx_cons_succ, List.eraseIdx_cons_zero] at M
    exact ⟨0, Nat.zero_le _, rfl, S.sub _ rfl, _, _, _, _, [], M, MsBk.nil⟩
  clear S M a; intro m a wl
  rintro ⟨k, hk, rfl, S, u, lo, hi, cs, es, M, hBk⟩
  refine nxD ?_
  refine st_go [1] S rfl (by kernel_rfl) ?_; clear S a; intro a S
  refine nxC ?_
  refine wp_seq ?_
  refine st_fi (t := 11) S rfl ?_ ?_
  · clear S; intro h11 S
    refine st_condF S rfl ?_
    refine wp_exit ?_
    refine then_exit ?_
    refine then_exit ?_
    refine block_hit ?_
    refine nxE ?_
    obtain rfl : k = l.length := by omega
    rw [List.take_length] at M hBk
    obtain ⟨ua, uc, rfl, -, -⟩ := (M.readRow 2 rfl (by unfold maxLen; omega)).form
    refine st_y S rfl rfl rfl (y_loadAgg (cs := [_]) S (by kernel_rfl) rfl rfl (M.cellsAt (k := 1) 0 rfl rfl)) ?_; clear S a; intro a S
    refine st_store (sz := 1) (us := [_]) S M 1 rfl (by kernel_rfl) rfl rfl rfl rfl rfl rfl (by first | decide | (simp; done) | (simp; omega)) ?_; clear M; intro w10 M
    simp only [putL, List.set_cons_zero, List.set_cons_succ, Nat.reduceAdd] at M
    refine nxC ?_
    refine wp_ret ?_
    refine end_one S rfl (res_agg (cs := [_]) (by kernel_rfl) rfl rfl (M.cellsAt (k := 1) 1 rfl rfl)) ?_
    exact ⟨ua, uc, cs, rfl, M.below, hBk.msC M (List.mem_of_getElem? (show _[2]? = _ from rfl)) (fun e he => by simp [he]) (by unfold maxLen; omega)⟩
  clear S; intro h11 S
  refine st_condT S rfl ?_
  refine wp_skip ?_
  refine then_normal ?_
  refine wp_seq ?_
  refine wp_block ?_
  refine nxD ?_
  obtain ⟨x, hx⟩ : ∃ x, l[k]? = some x := ⟨_, List.getElem?_eq_getElem (by omega)⟩
  obtain ⟨hxm, hxl, hxw⟩ := hl k x hx
  refine st_y S rfl rfl rfl (y_indexR (e := 22) (sz := 1) S (by kernel_rfl) rfl ((M.arg hv)) rfl (by first | omega | (simp; done) | (simp; omega))) ?_; clear S a; intro a S
  try simp only [Int.toNat_natCast, Nat.mul_one, Nat.zero_add] at S
  refine st_y S rfl rfl rfl (y_load S (by kernel_rfl) rfl ((M.arg hv).cellAt (show l.vs[k]? = some x.1 by unfold Ls.vs; rw [List.getElem?_map, hx]; rfl))) ?_; clear S a; intro a S
  refine st_go [1] S rfl (by kernel_rfl) ?_; clear S a; intro a S
  refine nxA ?_
  refine st_go [1] S rfl (by kernel_rfl) ?_; clear S a; intro a S
  refine st_y S rfl rfl rfl (y_lenR (E := 42) S rfl ((M.ms hxm).1) (by kernel_rfl)) ?_; clear S a; intro a S
  refine st_go [1] S rfl (by kernel_rfl) ?_; clear S a; intro a S
  refine nxC ?_
  refine wp_block ?_
  refine wp_loop_g (fun m a w' => ∃ (j : Nat), j ≤ x.2.2.length ∧ m = x.2.2.length - j ∧ Sees 30 a [(2, .pointer (some ⟨bO, 0, none⟩)), (3, .pointer (some ⟨bF, 0, none⟩)), (8, v), (9, .int .i64 (l.length : Int)), (10, .int .i64 (k : Int)), (14, x.1), (15, .int .i64 (x.2.2.length : Int)), (16, .int .i64 (j : Int))] ∧ ∃ u lo hi cs es, Mem w w' (.blk bF #[u] 24 :: .blk bO #[.slice none 0 0] 24 :: rowE lo hi 42 24 u (Ls.ms (l.take k) ++ x.2.2.take j).length cs :: es) ∧ MsBk cs (Ls.ms (l.take k) ++ x.2.2.take j) es) (x.2.2.length) ?_ ?_
  · skip
    exact ⟨0, Nat.zero_le _, rfl, S.sub _ rfl, u, lo, hi, cs, es, by simpa using M, by simpa using hBk⟩
  clear S M a; intro m a wl
  clear u lo hi cs es hBk
  rintro ⟨j, hj, rfl, S, u, lo, hi, cs, es, M, hBk⟩
  have hms : (Ls.ms (l.take k) ++ x.2.2.take j).length ≤ 1000 := by rw [List.length_append, List.length_take]; omega
  obtain ⟨ua, uc, rfl, -, -⟩ := (M.readRow 2 rfl (by unfold maxLen; omega)).form
  refine nxD ?_
  refine st_go [1] S rfl (by kernel_rfl) ?_; clear S a; intro a S
  refine nxC ?_
  refine wp_seq ?_
  refine st_fi (t := 17) S rfl ?_ ?_
  · clear S; intro h17 S
    refine st_condF S rfl ?_
    refine wp_exit ?_
    refine then_exit ?_
    refine then_exit ?_
    refine block_hit ?_
    refine block_normal ?_
    refine nxF ?_
    (first | refine st_y S rfl rfl rfl (y_addN S rfl rfl (by omega)) ?_ | refine st_y S rfl rfl rfl (y_int S rfl rfl rfl) ?_); clear S a; intro a S
    refine st_go [1] S rfl (by kernel_rfl) ?_; clear S a; intro a S
    refine nxC ?_
    obtain rfl : j = x.2.2.length := by omega
    rw [List.take_length, ← Ls.ms_take hx] at M hBk
    exact ⟨l.length - (k + 1), by omega, k + 1, by omega, rfl, S.sub _ rfl, _, _, _, _, _, M, hBk⟩
  clear S; intro h17 S
  refine st_condT S rfl ?_
  refine wp_skip ?_
  refine then_normal ?_
  refine wp_seq ?_
  refine wp_block ?_
  refine nxD ?_
  obtain ⟨q, hq⟩ : ∃ q, x.2.2[j]? = some q := ⟨_, List.getElem?_eq_getElem (by omega)⟩
  have hql := hxw q (List.mem_of_getElem? hq)
  obtain ⟨ad, cp, hrow, hws⟩ := hxm.sl hq
  refine st_y S rfl rfl rfl (y_indexR (e := 42) (sz := 24) S (by kernel_rfl) rfl ((M.ms hxm).1) rfl (by first | omega | (simp; done) | (simp; omega))) ?_; clear S a; intro a S
  try simp only [Int.toNat_natCast, Nat.mul_one, Nat.zero_add] at S
  refine st_y S rfl rfl rfl (y_loadAgg S (by kernel_rfl) rfl rfl ((M.ms hxm).1.at_.row (i := j) hrow rfl)) ?_; clear S a; intro a S
  refine st_alloc S M rfl rfl #[.int .i8 0, .int .i64 0, .int .i64 0, .int .i64 0, .int .i64 0, .int .i64 0, .int .i64 0, .int .i64 0, .int .i64 0, .int .i8 0, .int .i64 0, .int .u8 0, .int .u8 0, .int .u8 0, .int .u8 0, .int .u8 0, .int .u8 0, .int .u8 0, .int .u8 0, .int .i64 0, .bool false, .int .i64 0, .int .i64 0, .slice none 0 0] (by kernel_rfl) ?_; clear S M a; intro a w3 bB S M hB
  refine st_store (sz := 24) (us := [_, _, _, _, _, _, _, _, _, _, _, _, _, _, _, _, _, _, _, _, _, _, _, _]) S M 0 rfl (by kernel_rfl) rfl rfl rfl rfl rfl rfl (by first | decide | (simp; done) | (simp; omega)) ?_; clear M; intro w4 M
  simp only [putL, List.set_cons_zero, List.set_cons_succ, Nat.reduceAdd] at M
  refine nxC ?_
  refine wp_regionK [5, 7] #[false, false, false, false, false, false, false, false] rfl M (by kernel_rfl) ?_; clear M; intro w5 M
  refine k_pure (listed' := #[true, false, false, false, false, false, false, false]) 0 S rfl rfl rfl rfl (by kernel_rfl) rfl (fun _ d _ _ _ h => by cases d <;> exact h) (fun w => y_fieldAddr (k := 0) S (by kernel_rfl) rfl) ?_; clear S a; intro a S
  refine k_read (listed' := #[true, true, false, false, false, false, false, false]) 1 S rfl rfl rfl rfl (by kernel_rfl) rfl (fun _ d _ _ _ h => by cases d <;> exact h) (fun w hW => have M := M.grow hW; y_load S (by kernel_rfl) rfl (M.cell 1 rfl rfl)) ?_; clear S a; intro a S
  refine k_read (listed' := #[true, true, true, false, false, false, false, false]) 2 S rfl rfl rfl rfl (by kernel_rfl) rfl (fun _ d _ _ _ h => by cases d <;> exact h) (fun w hW => have M := M.grow hW; y_loadAgg (cs := [_, _, _, _, _, _, _, _, _, _, _, _, _, _, _, _, _, _, _, _, _, _, _, _]) S (by kernel_rfl) rfl rfl (M.cellsAt (k := 24) 0 rfl rfl)) ?_; clear S a; intro a S
  refine k_one (listed' := #[true, true, true, true, false, false, false, false]) 3 rfl (by kernel_rfl) rfl ?_
  refine st_call (xs := [(Operand.tmp 22)]) S (enters_of Try.func29 (by decide) rfl) rfl rfl rfl (copied_any q.1 ad cp q.2 _ (M.argW hws) hql) ?_
  rintro _ w6 ⟨ad2, cp2, rfl, hF⟩; refine ⟨_, rfl, ?_⟩; clear S a; intro a S; have hK := hF.below
  obtain ⟨lo2, hi2, -, M⟩ := M.pushFresh hF
  refine wpList_nil ?_; refine then_normal ?_; refine ⟨fun _ => hK, ?_⟩
  refine k_one (listed' := #[true, true, true, true, true, false, false, false]) 4 rfl (by kernel_rfl) rfl ?_
  refine st_lit (ps := [(0, (Operand.tmp 23))]) (e := 42) (sz := 24) (zl := [.int .i8 0, .int .i64 0, .int .i64 0, .int .i64 0, .int .i64 0, .int .i64 0, .int .i64 0, .int .i64 0, .int .i64 0, .int .i8 0, .int .i64 0, .int .u8 0, .int .u8 0, .int .u8 0, .int .u8 0, .int .u8 0, .int .u8 0, .int .u8 0, .int .u8 0, .int .i64 0, .bool false, .int .i64 0, .int .i64 0, .slice none 0 0]) (cs := (q.1.cells (.slice ad2 q.2.length cp2)).toList) S M rfl rfl (by kernel_rfl) rfl (by kernel_rfl) ?_; clear S M a; intro a w7 bZ S M hB
  refine wpList_nil ?_; refine then_normal ?_; refine ⟨fun _ => hB, ?_⟩
  refine k_one (listed' := #[true, true, true, true, true, true, false, false]) 5 rfl (by kernel_rfl) rfl ?_
  refine st_append (e := 42) (sz := 24) (by_ := 152) (zc := [.int .i8 0, .int .i64 0, .int .i64 0, .int .i64 0, .int .i64 0, .int .i64 0, .int .i64 0, .int .i64 0, .int .i64 0, .int .i8 0, .int .i64 0, .int .u8 0, .int .u8 0, .int .u8 0, .int .u8 0, .int .u8 0, .int .u8 0, .int .u8 0, .int .u8 0, .int .i64 0, .bool false, .int .i64 0, .int .i64 0, .slice none 0 0]) S M 5 rfl rfl (by kernel_rfl) rfl (by decide) rfl rfl rfl (show Rd _ _ _ 24 _ 1 (q.1.cells (.slice ad2 q.2.length cp2)).toList from M.sliceAt 0 rfl (M.cellsAt (k := 24) 0 rfl rfl) rfl (Nat.le_refl _) (by unfold maxLen; omega)) (rfl) (by omega) (by unfold maxLen; omega) ?_; clear S M a; intro a w8 vA loA hiA S M
  refine wpList_nil ?_; refine then_normal ?_; refine ⟨fun h => absurd h (by decide), ?_⟩
  refine k_pure (listed' := #[true, true, true, true, true, true, true, false]) 6 S rfl rfl rfl rfl (by kernel_rfl) rfl (fun _ d _ _ _ h => by cases d <;> exact h) (fun w => y_fieldAddr (k := 0) S (by kernel_rfl) rfl) ?_; clear S a; intro a S
  refine k_one (listed' := #[true, true, true, true, true, true, true, true]) 7 rfl (by kernel_rfl) rfl ?_
  obtain ⟨aA, cA, rfl, -, -⟩ := (M.readAll 0 rfl (by unfold maxLen; omega)).form
  refine st_store (sz := 1) (us := [_]) S M 4 rfl (by kernel_rfl) rfl rfl rfl rfl rfl rfl (by first | decide | (simp; done) | (simp; omega)) ?_; clear M; intro w9 M
  simp only [putL, List.set_cons_zero, List.set_cons_succ, Nat.reduceAdd] at M
  refine wpList_nil ?_; refine then_normal ?_; refine ⟨fun h => absurd h (by decide), ?_⟩
  refine k_end (by kernel_rfl) ?_
  refine block_normal ?_
  refine nxF ?_
  (first | refine st_y S rfl rfl rfl (y_addN S rfl rfl (by omega)) ?_ | refine st_y S rfl rfl rfl (y_int S rfl rfl rfl) ?_); clear S a; intro a S
  refine st_go [1] S rfl (by kernel_rfl) ?_; clear S a; intro a S
  refine nxC ?_
  replace M := M.drop 1
  simp only [List.eraseIdx_cons_succ, List.eraseIdx_cons_zero] at M
  replace M := M.drop 2
  simp only [List.eraseIdx_cons_succ, List.eraseIdx_cons_zero] at M
  replace M := M.front 3 rfl
  simp only [List.eraseIdx_cons_succ, List.eraseIdx_cons_zero] at M
  replace M := M.front 3 rfl
  simp only [List.eraseIdx_cons_succ, List.eraseIdx_cons_zero] at M
  have e : Ls.ms (l.take k) ++ x.2.2.take (j + 1) = (Ls.ms (l.take k) ++ x.2.2.take j) ++ [q] := by rw [take_snoc hq, List.append_assoc]
  have hBk' := hBk.more (q := q) (lv := .slice ad2 q.2.length cp2) (lo := lo2) (hi := hi2) (by unfold maxLen; omega)
  rw [← e] at hBk'
  refine ⟨x.2.2.length - (j + 1), by omega, j + 1, by omega, rfl, S.sub _ rfl, .slice aA ((Ls.ms (l.take k) ++ x.2.2.take j).length + 1) cA, loA, hiA, _, _, ?_, hBk'⟩
  rw [e, List.length_append (bs := [q])]; exact M

end Go.Proofs.Ytojgcgaoajfihaa
