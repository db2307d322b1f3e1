/-
  What LedgerKeeps rests on, part 7.
-/
import Derived.Test.YtmdededhoibofaaGreatP6
namespace Go.Proofs.YtmdededhoibofaaGreat
open Go.RowKit Go.Sort
structure Act20 where
 do_ : Int
 r : Rc
 x : List Wr
 n : Int
 plan : List (Int × Int)
 bs : List UInt8
abbrev Act20.cellsL (q : Act20) (wv pv bv : Value) : List Value := [.int .i64 q.do_, .int .i8 q.r.kind, .int .i64 q.r.name.stamp, .int .i64 q.r.name.inc, .int .i64 q.r.name.try_, .bool q.r.yes, wv, .int .i64 q.r.give, .int .i64 q.r.take, .int .i64 q.r.shards, .int .i64 q.r.cs, .int .i64 q.r.ct, .int .i64 q.r.n, .int .i64 q.n, pv, bv]
def RowT (cs : List Value) (lo hi : Nat) (w : World) (v : Value) (l : List Act20) : Prop :=
 Rd lo hi w 16 v l.length cs ∧ ∀ (i : Nat) (q : Act20), l[i]? = some q → q.r.shards ≤ 9223372036854775807 ∧ ∃ wa wc pa pc ba bc, (cs.drop (i * 16)).take 16 = q.cellsL (.slice wa q.x.length wc) (.slice pa q.plan.length pc) (.slice ba q.bs.length bc) ∧ Ws lo hi w (.slice wa q.x.length wc) q.x ∧ Rd lo hi w 2 (.slice pa q.plan.length pc) q.plan.length (kcells q.plan) ∧ Bs lo hi w (.slice ba q.bs.length bc) q.bs
theorem great20_any (va : Option Addr) (vc : Nat) (cs : List Value) (l : List Act20) (w : World) (hv : RowT cs 0 w.heap.size w (.slice va l.length vc) l) :
 Calls Tryz.prog 18 #[.slice va l.length vc] w fun e w' => ∃ b, e = .returned (.bool b) ∧ Below w.heap.size w w' := by
 have M := Mem.start w
 have hl := hv.1.2.1
 unfold maxLen at hl
 refine calls_enter Tryz.func18 rfl 41 rfl rfl ?_; intro a S
 refine nxD (qG [1] S ?_); clear S a; intro a S
 refine nxC (wp_seq (nxD (qG [1] S ?_))); clear S a; intro a S
 refine nxC (wp_block (wp_loop_g (fun m a w' => ∃ k : Nat, k ≤ l.length ∧ k ≤ 101 ∧ m = l.length - k ∧ Sees 41 a [(0, .slice va l.length vc), (3, .int .i64 (k : Int))] ∧ Mem w w' []) (l.length) ?_ ?_))
 ·skip
  exact ⟨0, Nat.zero_le _, by omega, rfl, S.sub _ rfl, M⟩
 clear S M a; intro m a wl
 rintro ⟨k, hk, hk2, rfl, S, M⟩
 refine wp_seq (nxD (qG [1, 1] S ?_)); clear S a; intro a S
 refine qY S (y_lenR (E := 60) S rfl ((M.arg hv.1)) (by kernel_rfl)) ?_; clear S a; intro a S
 refine qG [1, 1] S ?_; clear S a; intro a S
 refine st_fi (t := 8) S rfl ?_ ?_
 ·clear S; intro h8 S
  refine qG [0, 0, 1] S ?_; clear S a; intro a S
  refine nxC (st_condF S rfl (wp_exit (then_exit (then_exit (block_hit (nxE (qG [1] S ?_))))))); clear S a; intro a S
  refine qY S (y_lenR (E := 60) S rfl ((M.arg hv.1)) (by kernel_rfl)) ?_; clear S a; intro a S
  refine qG [1, 1] S ?_; clear S a; intro a S
  refine nxC (wp_ret (end_one S rfl (res_tmp rfl) ?_))
  exact ⟨_, rfl, M.below⟩
 clear S; intro h8 S
 refine qG [1, 1, 1] S ?_; clear S a; intro a S
 refine nxC (st_fi (t := 11) S rfl ?_ ?_)
 ·clear S; intro h11 S
  refine st_condF S rfl (wp_exit (then_exit (then_exit (block_hit (nxE (qG [1] S ?_)))))); clear S a; intro a S
  refine qY S (y_lenR (E := 60) S rfl ((M.arg hv.1)) (by kernel_rfl)) ?_; clear S a; intro a S
  refine qG [1, 1] S ?_; clear S a; intro a S
  refine nxC (wp_ret (end_one S rfl (res_tmp rfl) ?_))
  exact ⟨_, rfl, M.below⟩
 clear S; intro h11 S
 refine st_condT S rfl (wp_skip (then_normal (wp_seq (wp_block (wp_seq ?_)))))
 obtain ⟨q, hq⟩ : ∃ q, l[k]? = some q := ⟨_, List.getElem?_eq_getElem (by omega)⟩
 obtain ⟨hs, wa, wc, pa, pc, ba, bc, hc, -⟩ := hv.2 k q hq
 refine wp_region_lit (qG [1, 1] S ?_); clear S a; intro a S
 refine qY S (y_indexR (e := 60) (sz := 16) S (by kernel_rfl) rfl ((M.arg hv.1)) rfl (by first | omega | (simp; done) | (simp; omega))) ?_; clear S a; intro a S
 try simp only [Int.toNat_natCast, Nat.mul_one, Nat.zero_add] at S
 refine qG [2] S ?_; clear S a; intro a S
 refine qY S (y_loadAgg S (by kernel_rfl) rfl rfl (show CellsAt _ _ _ (q.r.cells (.slice wa q.x.length wc)).toList from ((M.arg hv.1).at_.row (i := k) hc rfl).sub (i := 1) (k := 12))) ?_; clear S a; intro a S
 refine qQ (xs := [.tmp 18]) S (qE Tryz.func6) rfl (greatR_any q.r wa q.x.length wc _) M ?_; clear S M a; intro a w1 S hK M
 refine qG [1] S ?_; clear S a; intro a S
 refine st_if (t := 20) S rfl ?_ ?_
 ·clear S; intro h20 S
  refine qG [0, 0, 0, 0, 0, 0, 0, 1, 1, 0, 0, 0, 0, 0, 0, 0, 1] S ?_; clear S a; intro a S
  replace S := S.keep [0, 3, 11, 37]
  refine nxC (st_condT S rfl (nxD (qG [1] S ?_))); clear S a; intro a S
  refine nxC (wp_ret (block_ret (then_ret (then_ret (block_ret (then_ret (end_one S rfl (res_tmp rfl) ?_)))))))
  exact ⟨true, rfl, M.below⟩
 clear S; intro h20 S
 refine qG [1, 1] S ?_; clear S a; intro a S
 refine qY S (y_indexR (e := 60) (sz := 16) S (by kernel_rfl) rfl ((M.arg hv.1)) rfl (by first | omega | (simp; done) | (simp; omega))) ?_; clear S a; intro a S
 try simp only [Int.toNat_natCast, Nat.mul_one, Nat.zero_add] at S
 refine qG [15] S ?_; clear S a; intro a S
 refine qY S (y_load S (by kernel_rfl) rfl (((M.arg hv.1).at_.row (i := k) hc rfl) 14 (by show 14 < 16; omega))) ?_; clear S a; intro a S
 refine qY S (y_lenS (E := 141) S rfl (by kernel_rfl)) ?_; clear S a; intro a S
 refine qG [1, 1, 1] S ?_; clear S a; intro a S
 refine st_if (t := 29) S rfl ?_ ?_
 ·clear S; intro h29 S
  refine qG [0, 0, 0, 0, 0, 0, 0, 1] S ?_; clear S a; intro a S
  replace S := S.keep [0, 3, 11, 37]
  refine nxC (st_condT S rfl (nxD (qG [1] S ?_))); clear S a; intro a S
  refine nxC (wp_ret (block_ret (then_ret (then_ret (block_ret (then_ret (end_one S rfl (res_tmp rfl) ?_)))))))
  exact ⟨true, rfl, M.below⟩
 clear S; intro h29 S
 refine qG [1, 1] S ?_; clear S a; intro a S
 refine qY S (y_indexR (e := 60) (sz := 16) S (by kernel_rfl) rfl ((M.arg hv.1)) rfl (by first | omega | (simp; done) | (simp; omega))) ?_; clear S a; intro a S
 try simp only [Int.toNat_natCast, Nat.mul_one, Nat.zero_add] at S
 refine qG [16] S ?_; clear S a; intro a S
 refine qY S (y_load S (by kernel_rfl) rfl (((M.arg hv.1).at_.row (i := k) hc rfl) 15 (by show 15 < 16; omega))) ?_; clear S a; intro a S
 refine qY S (y_lenS (E := 5) S rfl (by kernel_rfl)) ?_; clear S a; intro a S
 refine qG [1, 1] S ?_; clear S a; intro a S
 replace S := S.keep [0, 3, 11, 37]
 refine nxC (st_if (t := 37) S rfl ?_ ?_)
 ·clear S; intro h37 S
  refine st_condT S rfl (nxD (qG [1] S ?_)); clear S a; intro a S
  refine nxC (wp_ret (block_ret (then_ret (then_ret (block_ret (then_ret (end_one S rfl (res_tmp rfl) ?_)))))))
  exact ⟨true, rfl, M.below⟩
 clear S; intro h37 S
 refine st_condF S rfl (wp_skip (block_normal (nxF (qG [1] S ?_)))); clear S a; intro a S
 (first | refine qY S (y_addN S rfl rfl (by omega)) ?_ | refine qY S (y_int S rfl rfl rfl) ?_); clear S a; intro a S
 refine qG [1] S ?_; clear S a; intro a S
 refine nxC ?_
 exact ⟨l.length - (k + 1), by omega, k + 1, by omega, by omega, rfl, S.sub _ rfl, M⟩
theorem begins20_any {wc w : World} {A E : List Ent} {b bd : Nat} {S0 : DS} {K : Int} (s : Ls) (v : Value) (hE : DkE bd S0 E) (M : Mem wc w (.blk b (lgC (.pointer (some ⟨bd, 0, none⟩)) s v).toArray 76 :: (A ++ E))) (hI : LInv S0 s [] K) (hm : (begunSu s.su).may) :
 Calls Tryz.prog 20 #[.pointer (some ⟨b, 0, none⟩)] w fun e w' => e = .returned (.bool true) ∧ ∃ S1 E', LInv S1 { s with su := begunSu s.su } [] K ∧ DkE bd S1 E' ∧ Mem wc w' (.blk b (lgC (.pointer (some ⟨bd, 0, none⟩)) { s with su := begunSu s.su } v).toArray 76 :: (A ++ E')) := by
 refine calls_enter Tryz.func20 rfl 12 rfl rfl ?_; intro a S
 refine nxD (qG [1] S ?_); clear S a; intro a S
 refine nxA (qG [1] S ?_); clear S a; intro a S
 refine qC (xs := [.tmp 6]) S (qE Tryz.func8) rfl (begin_any s v hE M hI.up hm (fun k => by have := hI.one k; omega)) ?_
 rintro _ w1 ⟨rfl, E1, hE1, M1⟩; refine ⟨_, rfl, ?_⟩; clear S M a; intro a S; have M := M1; clear M1
 refine qG [1, 1, 1, 1, 1] S ?_; clear S a; intro a S
 refine nxA (qG [1, 1, 1] S ?_); clear S a; intro a S
 refine nxC (wp_ret (end_one S rfl (res_tmp rfl) ?_))
 exact ⟨rfl, _, E1, hI.begin hm, hE1, M⟩
theorem has20_any (va : Option Addr) (vc : Nat) (l : List Rc) (n : Nm) (w : World) (hv : Rd 0 w.heap.size w 12 (.slice va l.length vc) l.length (rcsC l)) :
 Calls Tryz.prog 24 #[.slice va l.length vc, .agg n.cells] w fun e w' => e = .returned (.bool (decide (n ∈ l.map (·.name)))) ∧ Below w.heap.size w w' := by
 have M := Mem.start w
 have hl := hv.2.1
 unfold maxLen at hl
 refine calls_enter Tryz.func24 rfl 19 rfl rfl ?_; intro a S
 refine nxD (st_box S M rfl rfl rfl #[_, _, _] rfl ?_); clear S M a; intro a w1 bN S M hB
 refine qG [1] S ?_; clear S a; intro a S
 refine nxC (wp_seq (nxD (qG [1] S ?_))); clear S a; intro a S
 refine nxC (wp_block (wp_loop_g (fun m a w' => ∃ k : Nat, k ≤ l.length ∧ m = l.length - k ∧ n ∉ (l.take k).map (·.name) ∧ Sees 19 a [(0, .slice va l.length vc), (3, .pointer (some ⟨bN, 0, none⟩)), (5, .int .i64 (k : Int))] ∧ Mem w w' [.blk bN n.cells 24]) (l.length) ?_ ?_))
 ·skip
  exact ⟨0, Nat.zero_le _, rfl, (by simp), S.sub _ rfl, M⟩
 clear S M a; intro m a wl
 rintro ⟨k, hk, rfl, hno, S, M⟩
 refine wp_seq (nxD (qG [1, 1] S ?_)); clear S a; intro a S
 refine qY S (y_lenR (E := 29) S rfl ((M.arg hv)) (by kernel_rfl)) ?_; clear S a; intro a S
 refine qG [1] S ?_; clear S a; intro a S
 refine nxC (st_fi (t := 9) S rfl ?_ ?_)
 ·clear S; intro h9 S
  refine st_condF S rfl (wp_exit (then_exit (then_exit (block_hit (nxE (qG [1] S ?_)))))); clear S a; intro a S
  refine nxC (wp_ret (end_one S rfl (res_tmp rfl) ?_))
  obtain rfl : k = l.length := by omega
  rw [List.take_length] at hno
  exact ⟨by rw [decide_eq_false hno], M.below⟩
 clear S; intro h9 S
 refine st_condT S rfl (wp_skip (then_normal (wp_seq (wp_block (wp_seq ?_)))))
 obtain ⟨q, hq⟩ : ∃ q, l[k]? = some q := ⟨_, List.getElem?_eq_getElem (by omega)⟩
 have hqm := List.mem_of_getElem? hq
 refine wp_quiet M (by kernel_rfl) (by kernel_rfl) ?_
 refine qt_y S rfl rfl rfl (fun w M => y_move S rfl) ?_; clear S a; intro a S
 refine qt_y S rfl rfl rfl (fun w M => y_move S rfl) ?_; clear S a; intro a S
 refine qt_y S rfl rfl rfl (fun w M => y_indexR (e := 29) (sz := 12) S (by kernel_rfl) rfl ((M.arg hv)) rfl (by first | omega | (simp; done) | (simp; omega))) ?_; clear S a; intro a S
 try simp only [Int.toNat_natCast, Nat.mul_one, Nat.zero_add] at S
 refine qt_y S rfl rfl rfl (fun w M => y_fieldAddr (k := 1) S (by kernel_rfl) rfl) ?_; clear S a; intro a S
 refine qt_y S rfl rfl rfl (fun w M => y_loadAgg S (by kernel_rfl) rfl rfl (((M.arg hv).at_.row (i := k) (rcsC_get hq) rfl).sub (i := 1) (k := 3))) ?_; clear S a; intro a S
 refine qt_y S rfl rfl rfl (fun w M => y_loadAgg (cs := [_, _, _]) S (by kernel_rfl) rfl rfl (M.cellsAt (k := 3) 0 rfl rfl)) ?_; clear S a; intro a S
 refine qt_y S rfl rfl rfl (fun w M => y_eqlG (by kernel_rfl) S rfl rfl (fun w => equalNm 9998 q.name n w)) ?_; clear S a; intro a S
 refine wpQuiet_nil ?_; clear M; intro w2 M
 refine then_normal (st_if (t := 18) S rfl ?_ ?_)
 ·clear S; intro h18 S
  refine st_condT S rfl (nxD (qG [1] S ?_)); clear S a; intro a S
  refine nxC (wp_ret (block_ret (then_ret (then_ret (block_ret (then_ret (end_one S rfl (res_tmp rfl) ?_)))))))
  have e : q.name = n := Nm.eqb_iff.1 (by assumption)
  exact ⟨by rw [decide_eq_true (by rw [← e]; exact List.mem_map_of_mem hqm)], M.below⟩
 clear S; intro h18 S
 refine st_condF S rfl (wp_skip (block_normal (nxF (qG [1] S ?_)))); clear S a; intro a S
 (first | refine qY S (y_addN S rfl rfl (by omega)) ?_ | refine qY S (y_int S rfl rfl rfl) ?_); clear S a; intro a S
 refine qG [1] S ?_; clear S a; intro a S
 refine nxC ?_
 have e : q.name ≠ n := fun e => by have h9 := Nm.eqb_iff.2 e; simp_all
 refine ⟨l.length - (k + 1), by omega, k + 1, by omega, rfl, fun h => ?_, S.sub _ rfl, M⟩
 rw [List.take_add_one, hq, List.map_append] at h
 rcases List.mem_append.1 h with h | h
 ·exact hno h
 ·exact e (by simp at h; exact h.symm)
theorem in20_any (va : Option Addr) (vc : Nat) (l : List Nm) (n : Nm) (w : World) (hv : Rd 0 w.heap.size w 3 (.slice va l.length vc) l.length (nmcells l)) :
 Calls Tryz.prog 25 #[.slice va l.length vc, .agg n.cells] w fun e w' => e = .returned (.bool (decide (n ∈ l))) ∧ Below w.heap.size w w' := by
 have M := Mem.start w
 have hl := hv.2.1
 unfold maxLen at hl
 refine calls_enter Tryz.func25 rfl 18 rfl rfl ?_; intro a S
 refine nxD (st_box S M rfl rfl rfl #[_, _, _] rfl ?_); clear S M a; intro a w1 bN S M hB
 refine qG [1] S ?_; clear S a; intro a S
 refine nxC (wp_seq (nxD (qG [1] S ?_))); clear S a; intro a S
 refine nxC (wp_block (wp_loop_g (fun m a w' => ∃ k : Nat, k ≤ l.length ∧ m = l.length - k ∧ n ∉ l.take k ∧ Sees 18 a [(0, .slice va l.length vc), (3, .pointer (some ⟨bN, 0, none⟩)), (5, .int .i64 (k : Int))] ∧ Mem w w' [.blk bN n.cells 24]) (l.length) ?_ ?_))
 ·skip
  exact ⟨0, Nat.zero_le _, rfl, (by simp), S.sub _ rfl, M⟩
 clear S M a; intro m a wl
 rintro ⟨k, hk, rfl, hno, S, M⟩
 refine wp_seq (nxD (qG [1, 1] S ?_)); clear S a; intro a S
 refine qY S (y_lenR (E := 24) S rfl ((M.arg hv)) (by kernel_rfl)) ?_; clear S a; intro a S
 refine qG [1] S ?_; clear S a; intro a S
 refine nxC (st_fi (t := 9) S rfl ?_ ?_)
 ·clear S; intro h9 S
  refine st_condF S rfl (wp_exit (then_exit (then_exit (block_hit (nxE (qG [1] S ?_)))))); clear S a; intro a S
  refine nxC (wp_ret (end_one S rfl (res_tmp rfl) ?_))
  obtain rfl : k = l.length := by omega
  rw [List.take_length] at hno
  exact ⟨by rw [decide_eq_false hno], M.below⟩
 clear S; intro h9 S
 refine st_condT S rfl (wp_skip (then_normal (wp_seq (wp_block (wp_seq ?_)))))
 obtain ⟨q, hq⟩ : ∃ q, l[k]? = some q := ⟨_, List.getElem?_eq_getElem (by omega)⟩
 have hqm := List.mem_of_getElem? hq
 refine wp_quiet M (by kernel_rfl) (by kernel_rfl) ?_
 refine qt_y S rfl rfl rfl (fun w M => y_move S rfl) ?_; clear S a; intro a S
 refine qt_y S rfl rfl rfl (fun w M => y_move S rfl) ?_; clear S a; intro a S
 refine qt_y S rfl rfl rfl (fun w M => y_indexR (e := 24) (sz := 3) S (by kernel_rfl) rfl ((M.arg hv)) rfl (by first | omega | (simp; done) | (simp; omega))) ?_; clear S a; intro a S
 try simp only [Int.toNat_natCast, Nat.mul_one, Nat.zero_add] at S
 refine qt_y S rfl rfl rfl (fun w M => y_loadAgg S (by kernel_rfl) rfl rfl ((M.arg hv).at_.row (i := k) (nmcells_get hq) rfl)) ?_; clear S a; intro a S
 refine qt_y S rfl rfl rfl (fun w M => y_loadAgg (cs := [_, _, _]) S (by kernel_rfl) rfl rfl (M.cellsAt (k := 3) 0 rfl rfl)) ?_; clear S a; intro a S
 refine qt_y S rfl rfl rfl (fun w M => y_eqlG (by kernel_rfl) S rfl rfl (fun w => equalNm 9998 q n w)) ?_; clear S a; intro a S
 refine wpQuiet_nil ?_; clear M; intro w2 M
 refine then_normal (st_if (t := 17) S rfl ?_ ?_)
 ·clear S; intro h17 S
  refine st_condT S rfl (nxD (qG [1] S ?_)); clear S a; intro a S
  refine nxC (wp_ret (block_ret (then_ret (then_ret (block_ret (then_ret (end_one S rfl (res_tmp rfl) ?_)))))))
  have e : q = n := Nm.eqb_iff.1 (by assumption)
  exact ⟨by rw [decide_eq_true (by rw [← e]; exact hqm)], M.below⟩
 clear S; intro h17 S
 refine st_condF S rfl (wp_skip (block_normal (nxF (qG [1] S ?_)))); clear S a; intro a S
 (first | refine qY S (y_addN S rfl rfl (by omega)) ?_ | refine qY S (y_int S rfl rfl rfl) ?_); clear S a; intro a S
 refine qG [1] S ?_; clear S a; intro a S
 refine nxC ?_
 have e : q ≠ n := fun e => by have h9 := Nm.eqb_iff.2 e; simp_all
 refine ⟨l.length - (k + 1), by omega, k + 1, by omega, rfl, fun h => ?_, S.sub _ rfl, M⟩
 rw [List.take_add_one, hq] at h
 rcases List.mem_append.1 h with h | h
 ·exact hno h
 ·exact e (by simp at h; exact h.symm)
theorem without20_any (va : Option Addr) (vc : Nat) (l : List Nm) (n : Nm) (w : World) (hv : Rd 0 w.heap.size w 3 (.slice va l.length vc) l.length (nmcells l)) (h1000 : l.length ≤ 1000) :
 Calls Tryz.prog 21 #[.slice va l.length vc, .agg n.cells] w fun e w' => ∃ ra rc, e = .returned (.slice ra (l.filter (· ≠ n)).length rc) ∧ Fresh w w' 24 3 (.slice ra (l.filter (· ≠ n)).length rc) (l.filter (· ≠ n)).length (nmcells (l.filter (· ≠ n))) := by
 have M := Mem.start w
 refine calls_enter Tryz.func21 rfl 27 rfl rfl ?_; intro a S
 refine nxD (st_box S M rfl rfl rfl #[_, _, _] rfl ?_); clear S M a; intro a w1 bN S M hB
 refine qG [1] S ?_; clear S a; intro a S
 refine nxA (qG [1] S ?_); clear S a; intro a S
 refine nxC (wp_seq (nxD (qG [1] S ?_))); clear S a; intro a S
 refine nxC (wp_block (wp_loop_g (fun m a w' => ∃ (k : Nat) (o : List Nm) (oa : Option Addr) (oc lo hi : Nat), k ≤ l.length ∧ m = l.length - k ∧ o.length ≤ k ∧ o = (l.take k).filter (· ≠ n) ∧ Sees 27 a [(0, .slice va l.length vc), (3, .pointer (some ⟨bN, 0, none⟩)), (5, .slice oa o.length oc), (6, .int .i64 (k : Int))] ∧ Mem w w' [rowE lo hi 24 3 (.slice oa o.length oc) o.length (nmcells o), .blk bN n.cells 24]) (l.length) ?_ ?_))
 ·skip
  exact ⟨0, [], none, 0, _, _, Nat.zero_le _, rfl, Nat.le_refl _, rfl, S.sub _ rfl, M.rowNil 24 3⟩
 clear S M a; intro m a wl
 rintro ⟨k, o, oa, oc, lo, hi, hk, rfl, hol, ho, S, M⟩
 refine wp_seq (nxD (qG [1, 1] S ?_)); clear S a; intro a S
 refine qY S (y_lenR (E := 24) S rfl ((M.arg hv)) (by kernel_rfl)) ?_; clear S a; intro a S
 refine qG [1] S ?_; clear S a; intro a S
 refine nxC (st_fi (t := 10) S rfl ?_ ?_)
 ·clear S; intro h10 S
  refine st_condF S rfl (wp_exit (then_exit (then_exit (block_hit (nxE (qG [1, 1] S ?_)))))); clear S a; intro a S
  refine nxC (wp_ret (end_one S rfl (res_tmp rfl) ?_))
  obtain rfl : k = l.length := by omega
  rw [List.take_length] at ho
  subst ho
  exact ⟨oa, oc, rfl, M.fresh 0 rfl⟩
 clear S; intro h10 S
 refine st_condT S rfl (wp_skip (then_normal (wp_seq (wp_block (wp_seq ?_)))))
 obtain ⟨q, hq⟩ : ∃ q, l[k]? = some q := ⟨_, List.getElem?_eq_getElem (by omega)⟩
 refine wp_quiet M (by kernel_rfl) (by kernel_rfl) ?_
 refine qt_y S rfl rfl rfl (fun w M => y_move S rfl) ?_; clear S a; intro a S
 refine qt_y S rfl rfl rfl (fun w M => y_move S rfl) ?_; clear S a; intro a S
 refine qt_y S rfl rfl rfl (fun w M => y_indexR (e := 24) (sz := 3) S (by kernel_rfl) rfl ((M.arg hv)) rfl (by first | omega | (simp; done) | (simp; omega))) ?_; clear S a; intro a S
 try simp only [Int.toNat_natCast, Nat.mul_one, Nat.zero_add] at S
 refine qt_y S rfl rfl rfl (fun w M => y_loadAgg S (by kernel_rfl) rfl rfl ((M.arg hv).at_.row (i := k) (nmcells_get hq) rfl)) ?_; clear S a; intro a S
 refine qt_y S rfl rfl rfl (fun w M => y_loadAgg (cs := [_, _, _]) S (by kernel_rfl) rfl rfl (M.cellsAt (k := 3) 1 rfl rfl)) ?_; clear S a; intro a S
 refine qt_y S rfl rfl rfl (fun w M => y_neqG (by kernel_rfl) S rfl rfl (fun w => equalNm 9998 q n w)) ?_; clear S a; intro a S
 refine wpQuiet_nil ?_; clear M; intro w2 M
 refine then_normal (st_fi (t := 18) S rfl ?_ ?_)
 ·clear S; intro h18 S
  refine st_condF S rfl (wp_skip (block_normal (nxF (qG [1] S ?_)))); clear S a; intro a S
  (first | refine qY S (y_addN S rfl rfl (by omega)) ?_ | refine qY S (y_int S rfl rfl rfl) ?_); clear S a; intro a S
  refine qG [1] S ?_; clear S a; intro a S
  refine nxC ?_
  skip
  first
   | (have e : q ≠ n := fun e => by have h9 := Nm.eqb_iff.2 e; rw [h9] at h18; first | cases h18 | simp at h18
      refine ⟨l.length - (k + 1), by omega, k + 1, o ++ [q], aA, cA, loA, hiA, by omega, rfl, by rw [List.length_append, List.length_singleton]; omega, ?_, ?_, ?_⟩
      ·rw [List.take_add_one, hq, List.filter_append, ← ho]; simp [e]
      ·rw [List.length_append, List.length_singleton]; exact S.sub _ rfl
      ·rw [List.length_append, List.length_singleton, nmcells_snoc]; exact M)
   | (have e : q = n := Nm.eqb_iff.1 (by first | assumption | simp_all)
      refine ⟨l.length - (k + 1), by omega, k + 1, o, oa, oc, _, _, by omega, rfl, by omega, ?_, S.sub _ rfl, M⟩
      rw [List.take_add_one, hq, List.filter_append, ← ho]; simp [e])
 clear S; intro h18 S
 refine st_condT S rfl (wp_region_lit (qG [1, 1, 1] S ?_)); clear S a; intro a S
 refine qY S (y_indexR (e := 24) (sz := 3) S (by kernel_rfl) rfl ((M.arg hv)) rfl (by first | omega | (simp; done) | (simp; omega))) ?_; clear S a; intro a S
 try simp only [Int.toNat_natCast, Nat.mul_one, Nat.zero_add] at S
 refine qY S (y_loadAgg S (by kernel_rfl) rfl rfl ((M.arg hv).at_.row (i := k) (nmcells_get hq) rfl)) ?_; clear S a; intro a S
 refine st_lit (ps := [(0, .tmp 23)]) (e := 24) (sz := 3) (zl := [.int .i64 0, .int .i64 0, .int .i64 0]) (cs := [_, _, _]) S M rfl rfl (by kernel_rfl) rfl (rfl) ?_; clear S M a; intro a w3 bZ S M hB
 refine st_append (e := 24) (sz := 3) (by_ := 24) (zc := [.int .i64 0, .int .i64 0, .int .i64 0]) S M 1 rfl rfl (by kernel_rfl) rfl (by decide) rfl rfl rfl (show Rd _ _ _ 3 _ 1 q.cells.toList from M.sliceAt 0 rfl (M.cellsAt (k := 3) 0 rfl rfl) rfl (Nat.le_refl _) (by unfold maxLen; omega)) (rfl) (by omega) (by unfold maxLen; omega) ?_; clear S M a; intro a w4 vA loA hiA S M
 obtain ⟨aA, cA, rfl, -, -⟩ := (M.readAll 0 rfl (by unfold maxLen; omega)).form
 replace M := M.drop 1
 simp only [List.eraseIdx_cons_succ, List.eraseIdx_cons_zero] at M
 refine qY S (y_assign S rfl) ?_; clear S a; intro a S
 replace S := S.keep [0, 3, 6, 10, 18, 5]
 refine wpList_nil (block_normal (nxF (qG [1] S ?_))); clear S a; intro a S
 (first | refine qY S (y_addN S rfl rfl (by omega)) ?_ | refine qY S (y_int S rfl rfl rfl) ?_); clear S a; intro a S
 refine qG [1] S ?_; clear S a; intro a S
 refine nxC ?_
 skip
 first
  | (have e : q ≠ n := fun e => by have h9 := Nm.eqb_iff.2 e; rw [h9] at h18; first | cases h18 | simp at h18
     refine ⟨l.length - (k + 1), by omega, k + 1, o ++ [q], aA, cA, loA, hiA, by omega, rfl, by rw [List.length_append, List.length_singleton]; omega, ?_, ?_, ?_⟩
     ·rw [List.take_add_one, hq, List.filter_append, ← ho]; simp [e]
     ·rw [List.length_append, List.length_singleton]; exact S.sub _ rfl
     ·rw [List.length_append, List.length_singleton, nmcells_snoc]; exact M)
  | (have e : q = n := Nm.eqb_iff.1 (by first | assumption | simp_all)
     refine ⟨l.length - (k + 1), by omega, k + 1, o, oa, oc, _, _, by omega, rfl, by omega, ?_, S.sub _ rfl, M⟩
     rw [List.take_add_one, hq, List.filter_append, ← ho]; simp [e])
end Go.Proofs.YtmdededhoibofaaGreat

namespace Go.Proofs.YtmdededhoibofaaGreat
open Go.RowKit Go.Sort
theorem Mem.actsT {w0 w : World} {H : List Ent} {v : Value} {cs : List Value} {l : List Act20} (M : Mem w0 w H) (h : RowT cs 0 w0.heap.size w0 v l) : RowT cs 0 w.heap.size w v l :=
 ⟨M.argW h.1, fun i q hq => let ⟨h0, wa, wc, pa, pc, ba, bc, h1, h2, h3, h4⟩ := h.2 i q hq; ⟨h0, wa, wc, pa, pc, ba, bc, h1, M.argW h2, M.argW h3, M.argW h4⟩⟩
abbrev mC (o : Su) : List Value := [.int .i64 o.m0, .int .i64 o.m1, .int .i64 o.m2, .int .i64 o.m3, .int .i64 o.m4, .int .i64 o.m5, .int .i64 o.m6, .int .i64 o.m7]
theorem mC_set (o : Su) {k : Nat} (v : Int) (h : k < 8) : putL (mC o) k [.int .i64 v] = mC (o.mSet k v) := by
 rcases lt8 h with rfl | rfl | rfl | rfl | rfl | rfl | rfl | rfl <;> rfl
abbrev namesL (op : List Rc) : List Nm := op.map (·.name)
structure KI (S : DS) (s : Ls) (i : Nat) (opn over : List Nm) : Prop where
 inv : ∃ T K, LInv S s T K ∧ K ≤ s.su.inc ∧ ∀ n ∈ T, n ∈ over
 lb : Lb s ((i : Int) + 2)
 nd : opn.Nodup
 iff : ∀ n, n ∈ opn ↔ n ∈ namesL s.op
theorem Lb.mono {s : Ls} {N N2 : Int} (h : Lb s N) (h1 : N ≤ N2) (h2 : N2 ≤ 1000) : Lb s N2 := by
 obtain ⟨a, b, c, d⟩ := h
 exact ⟨by omega, by omega, by omega, h2⟩
theorem KI.lb2 {S : DS} {s : Ls} {i : Nat} {opn over : List Nm} (h : KI S s i opn over) (hi : i < 100) {s2 : Ls} (h2 : Lb s2 ((i : Int) + 2 + 1)) : Lb s2 (((i + 1 : Nat) : Int) + 2) := h2.mono (by omega) (by omega)
theorem KI.stay {S : DS} {s : Ls} {i : Nat} {opn over : List Nm} (h : KI S s i opn over) (hi : i < 100) : KI S s (i + 1) opn over := ⟨h.inv, h.lb.mono (by omega) (by omega), h.nd, h.iff⟩
theorem keep_inc (s : Ls) (r : Rc) : (keepS s r).su.inc = s.su.inc := by rw [(keep_su s r).1, made_inc]
theorem KI.commit {S S1 : DS} {s : Ls} {i : Nat} {opn over : List Nm} {K : Int} (h : KI S s i opn over) (hi : i < 100) {r : Rc} (h4 : r.kind = 4) (hf : fd s.op r.name = none) (hk : K ≤ s.su.inc) (h8 : s.op.length ≤ 8) (hI : LInv S1 (keepS s r) [] K) : KI S1 (keepS s r) (i + 1) (opn ++ [r.name]) (over.filter (· ≠ r.name)) := by
 have hn : namesL (keepS s r).op = namesL s.op ++ [r.name] := by
  have e := keep_names s r
  unfold Ls.take at e
  rw [if_pos h4] at e
  have e2 : (s.commit r).op = commitL s.op r := rfl
  rw [e2, commitL_names, hf] at e
  exact e
 refine ⟨⟨[], K, hI, by rw [keep_inc]; exact hk, fun n hn => (by cases hn)⟩, h.lb2 hi (keep_lb h.lb h8 (by omega)), ?_, fun n => ?_⟩
 ·rw [List.nodup_append]
  refine ⟨h.nd, by simp, fun a ha b hb e => ?_⟩
  rw [List.mem_singleton.1 hb] at e
  obtain ⟨q, hq, hq2⟩ := List.mem_map.1 ((h.iff a).1 ha)
  exact fd_none hf q hq (hq2.trans e)
 ·rw [hn, List.mem_append, List.mem_append, h.iff n]
theorem mem_eraseIdx_nd {α : Type} {l : List α} {k : Nat} {a : α} (hn : l.Nodup) (hk : l[k]? = some a) (x : α) : x ∈ l.eraseIdx k ↔ x ∈ l ∧ x ≠ a := by
 have hl := (List.getElem?_eq_some_iff.1 hk)
 obtain ⟨hl, he⟩ := hl
 have e : l = l.take k ++ (a :: l.drop (k + 1)) := by rw [← he, ← List.drop_eq_getElem_cons hl, List.take_append_drop]
 rw [List.eraseIdx_eq_take_drop_succ]
 rw [e, List.nodup_append, List.nodup_cons] at hn
 obtain ⟨-, ⟨h1, -⟩, h2⟩ := hn
 constructor
 ·intro h
  rcases List.mem_append.1 h with h | h
  ·exact ⟨List.mem_of_mem_take h, fun e2 => h2 x h a (List.mem_cons_self ..) e2⟩
  ·exact ⟨List.mem_of_mem_drop h, fun e2 => h1 (e2 ▸ h)⟩
 ·rintro ⟨h, hne⟩
  rw [e] at h
  rcases List.mem_append.1 h with h | h
  ·exact List.mem_append_left _ h
  ·rcases List.mem_cons.1 h with h | h
   ·exact absurd h hne
   ·exact List.mem_append_right _ h
theorem KI.end_ {S S1 : DS} {s : Ls} {i : Nat} {opn over : List Nm} {T : List Nm} {K : Int} (h : KI S s i opn over) (hi : i < 100) {nm : Nm} {k : Nat} (hf : fd s.op nm = some k) (hk : K ≤ s.su.inc) (hT : ∀ n ∈ T, n ∈ over) (ho : OpOk s.op) (h8 : s.op.length ≤ 8) (hI : LInv S1 (keepS s (r5 nm)) (nm :: T) K) : KI S1 (keepS s (r5 nm)) (i + 1) (opn.filter (· ≠ nm)) (over ++ [nm]) := by
 obtain ⟨q, hq, hqn⟩ := fd_some hf
 have hn : namesL (keepS s (r5 nm)).op = (namesL s.op).eraseIdx k := by
  have e := keep_names s (r5 nm)
  rw [take5_len hf] at e
  unfold namesL
  rw [← map_eraseIdx]; exact e
 refine ⟨⟨_, K, hI, by rw [keep_inc]; exact hk, fun n hn => ?_⟩, h.lb2 hi (keep_lb h.lb h8 (by omega)), h.nd.filter _, fun n => ?_⟩
 ·rcases List.mem_cons.1 hn with rfl | hn
  ·simp
  ·exact List.mem_append_left _ (hT n hn)
 ·rw [hn, mem_eraseIdx_nd ho.nodup (a := nm) (by rw [List.getElem?_map, hq]; simp [hqn]), List.mem_filter, h.iff n]
  simp
theorem KI.stamps {S S1 : DS} {s : Ls} {i : Nat} {opn over : List Nm} {K n : Int} (h : KI S s i opn over) (hi : i < 100) (hk : K ≤ s.su.inc) (h8 : s.op.length ≤ 8) (hI : LInv S1 (keepS s (r6 n)) [] K) : KI S1 (keepS s (r6 n)) (i + 1) opn over := by
 have hn : namesL (keepS s (r6 n)).op = namesL s.op := keep_names s (r6 n)
 exact ⟨⟨_, K, hI, by rw [keep_inc]; exact hk, fun n hn => (by cases hn)⟩, h.lb2 hi (keep_lb h.lb h8 (by omega)), h.nd, fun n => by rw [hn]; exact h.iff n⟩
theorem KI.check {S S1 : DS} {s : Ls} {i : Nat} {opn over : List Nm} {K : Int} (h : KI S s i opn over) (hi : i < 100) (hk : K ≤ s.su.inc) (h8 : s.op.length ≤ 8) (hI : LInv S1 (savedS s) [] K) : KI S1 (savedS s) (i + 1) opn over :=
 ⟨⟨_, K, hI, hk, fun n hn => (by cases hn)⟩, h.lb2 hi (savedS_lb h.lb h8 (by omega)).2.2.2, h.nd, fun n => by rw [show namesL (savedS s).op = namesL s.op from saved_names s]; exact h.iff n⟩
structure KB (s2 : Ls) (i : Nat) (opn over : List Nm) : Prop where
 lb : Lb { s2 with su := begunSu s2.su } (((i + 1 : Nat) : Int) + 2)
 may : (begunSu s2.su).may
 nd : opn.Nodup
 sub : ∀ n ∈ opn, n ∈ namesL s2.op
 more : ∀ n, n ∈ namesL s2.op → n ∈ opn ∨ n ∈ over
theorem KI.crash {S : DS} {s : Ls} {i : Nat} {opn over : List Nm} (h : KI S s i opn over) (hi : i < 100) (plan : List (Int × Int)) :
 ∃ (s2 : Ls) (K2 : Int), s2.su = s.su ∧ s2.cu = s.cu ∧ LInv { S.crash plan with down := false } s2 [] K2 ∧ K2 ≤ (begunSu s2.su).inc ∧ KB s2 i opn over := by
 obtain ⟨T, K, hI, hk, hT⟩ := h.inv
 obtain ⟨s2, h1, h2, h3, h4, h5, h6⟩ := hI.crash hk plan
 obtain ⟨a, b, c, d⟩ := h.lb
 refine ⟨s2, _, h1, h2, h4, by rw [h1]; exact Int.le_refl _, ⟨?_, ?_, h.nd, fun n hn => h5 n ((h.iff n).1 hn), fun n hn => ?_⟩⟩
 ·refine ⟨?_, ?_, ?_, by omega⟩
  ·show s2.su.gen + 1 ≤ _; rw [h1]; omega
  ·show s2.su.inc + 1 ≤ _; rw [h1]; omega
  ·show s2.n ≤ _; omega
 ·rw [h1]; exact begunSu_may hI.may (by omega) (by omega)
 ·rcases h6 n hn with h7 | h7
  ·exact .inl ((h.iff n).2 h7)
  ·exact .inr (hT n h7)
theorem KB.step {s2 : Ls} {i k : Nat} {opn over : List Nm} (h : KB s2 i opn (over.drop k)) {x : Nm} (hx : over[k]? = some x) :
 ((x ∈ namesL s2.op ∧ x ∉ opn) → KB s2 i (opn ++ [x]) (over.drop (k + 1))) ∧ (¬ (x ∈ namesL s2.op ∧ x ∉ opn) → KB s2 i opn (over.drop (k + 1))) := by
 have hl := (List.getElem?_eq_some_iff.1 hx)
 obtain ⟨hl, he⟩ := hl
 have hd : over.drop k = x :: over.drop (k + 1) := by rw [List.drop_eq_getElem_cons hl, he]
 refine ⟨fun ⟨h1, h2⟩ => ⟨h.lb, h.may, ?_, fun n hn => ?_, fun n hn => ?_⟩, fun h1 => ⟨h.lb, h.may, h.nd, h.sub, fun n hn => ?_⟩⟩
 ·rw [List.nodup_append]
  refine ⟨h.nd, by simp, fun a ha b hb e => ?_⟩
  rw [List.mem_singleton.1 hb] at e
  exact h2 (e ▸ ha)
 ·rcases List.mem_append.1 hn with hn | hn
  ·exact h.sub n hn
  ·rw [List.mem_singleton.1 hn]; exact h1
 ·rcases h.more n hn with h3 | h3
  ·exact .inl (List.mem_append_left _ h3)
  ·rw [hd] at h3
   rcases List.mem_cons.1 h3 with rfl | h3
   ·exact .inl (by simp)
   ·exact .inr h3
 ·rcases h.more n hn with h3 | h3
  ·exact .inl h3
  ·rw [hd] at h3
   rcases List.mem_cons.1 h3 with rfl | h3
   ·refine .inl ?_
    by_cases h4 : n ∈ opn
    ·exact h4
    ·exact absurd ⟨hn, h4⟩ h1
   ·exact .inr h3
theorem KB.done {S : DS} {s2 : Ls} {i : Nat} {opn over : List Nm} {K : Int} (h : KB s2 i opn (over.drop over.length)) (hI : LInv S { s2 with su := begunSu s2.su } [] K) (hk : K ≤ (begunSu s2.su).inc) : KI S { s2 with su := begunSu s2.su } (i + 1) opn [] :=
 ⟨⟨[], K, hI, hk, fun n hn => (by cases hn)⟩, h.lb, h.nd, fun n => ⟨h.sub n, fun hn => by
  rcases h.more n hn with h3 | h3
  ·exact h3
  ·simp at h3⟩⟩
theorem KI.len {S : DS} {s : Ls} {i : Nat} {opn over : List Nm} (h : KI S s i opn over) : s.op.length = opn.length := by
 obtain ⟨T, K, hI, -⟩ := h.inv
 have h1 := nodup_lenJ h.nd fun n hn => (h.iff n).1 hn
 have h2 := nodup_lenJ hI.oks.2.nodup fun n hn => (h.iff n).2 hn
 simp only [namesL, List.length_map] at h1 h2
 omega
def s1b : Ls := { s1 with su := begunSu su1 }
theorem s1b_may : (begunSu su1).may := begunSu_may su1_may (by decide) (by decide)
theorem KI.start {S : DS} (h : LInv S s1b [] 0) : KI S s1b 0 [] [] :=
 ⟨⟨[], 0, h, by decide, fun n hn => (by cases hn)⟩, ⟨by decide, by decide, by decide, by decide⟩, .nil, fun n => by simp [s1b, s1, namesL]⟩
theorem keep4_cu {s : Ls} {r : Rc} (h : r.kind = 4) : (keepS s r).cu = if 0 ≤ r.cs then s.cu.mSet r.cs.toNat r.ct else s.cu := by
 rw [keep_cu]; unfold Ls.take; rw [if_pos h]; rfl
theorem keep4_bound {s : Ls} {r : Rc} (h : r.kind = 4) : (keepS s r).cu.bound = s.cu.bound := by
 rw [keep4_cu h]; split <;> rfl
theorem keep5_cu (s : Ls) (nm : Nm) : (keepS s (r5 nm)).cu = s.cu := by rw [keep_cu]; rfl
theorem keep6_cu (s : Ls) (n : Int) : (keepS s (r6 n)).cu = { s.cu with bound := n } := by rw [keep_cu]; rfl
end Go.Proofs.YtmdededhoibofaaGreat

namespace Go.Proofs.YtmdededhoibofaaGreat
open Go.RowKit Go.Sort
theorem equalM8 (d : Nat) (a b c e f g h i : Int) (w : World) : (Op.equalIn (d + 2) 30 (.agg #[.int .i64 a, .int .i64 b, .int .i64 c, .int .i64 e, .int .i64 f, .int .i64 g, .int .i64 h, .int .i64 i]) (.agg #[.int .i64 a, .int .i64 b, .int .i64 c, .int .i64 e, .int .i64 f, .int .i64 g, .int .i64 h, .int .i64 i])).run Tryz.prog w = .ok true w := by
 obtain ⟨j, hj⟩ := Option.isSome_iff_exists.1 (show (Tryz.prog.info? 3).isSome = true by kernel_rfl)
 have hc : Tryz.prog.cellsOf 3 = 1 := by kernel_rfl
 rw [run_equalIn_array w (d + 1) _ _ Tryz.underlying30 hj, hc]
 simp only [List.range, List.range.loop, Op.eqItems, part, isAgg, Sem.run_bind, run_underlying Tryz.underlying3, Result.andThen_ok]
 simp [run_equalIn_int w d 3 .i64 .i64 _ _ Tryz.underlying3]
end Go.Proofs.YtmdededhoibofaaGreat

namespace Go.Proofs.YtmdededhoibofaaGreat
open Go.RowKit Go.Sort
abbrev nmE (lo hi : Nat) (va : Option Addr) (vc : Nat) (l : List Nm) : Ent := rowE lo hi 24 3 (.slice va l.length vc) l.length (nmcells l)
theorem nmE_snoc (lo hi : Nat) (a : Option Addr) (c : Nat) (l : List Nm) (x : Nm) : nmE lo hi a c (l ++ [x]) = rowE lo hi 24 3 (.slice a (l.length + 1) c) (l.length + 1) (nmcells l ++ [.int .i64 x.stamp, .int .i64 x.inc, .int .i64 x.try_]) := by
 unfold nmE
 rw [List.length_append, List.length_singleton, nmcells_snoc]
theorem did_form {wc w' : World} {A E : List Ent} {b bd lo hi : Nat} {S0 : DS} {s s' : Ls} {T : List Nm} {K er : Int} {va : Option Addr} {vc : Nat} {C : Prop} {q : DS → Prop} (hE : DkE bd S0 E)
 (h : (er = 0 ∧ C ∧ DidP wc A b bd s s' T K w' q) ∨ (er ≠ 0 ∧ Mem wc w' (lgE b bd s va vc :: opE lo hi va vc s.op :: (A ++ E)))) :
 ∃ s2 S2 E2 va2 vc2 lo2 hi2, DkE bd S2 E2 ∧ Mem wc w' (lgE b bd s2 va2 vc2 :: opE lo2 hi2 va2 vc2 s2.op :: (A ++ E2)) ∧ ((er = 0 ∧ C ∧ s2 = s' ∧ LInv S2 s2 T K) ∨ (er ≠ 0 ∧ s2 = s ∧ S2 = S0)) := by
 rcases h with ⟨h1, h2, S1, E1, va2, vc2, lo2, hi2, hI, -, hE1, M⟩ | ⟨h1, M⟩
 ·exact ⟨s', S1, E1, va2, vc2, lo2, hi2, hE1, M, .inl ⟨h1, h2, rfl, hI⟩⟩
 ·exact ⟨s, S0, E, va, vc, lo, hi, hE, M, .inr ⟨h1, rfl, rfl⟩⟩
set_option maxHeartbeats 1000000 in
theorem keeps_any (va : Option Addr) (vc : Nat) (cs : List Value) (l : List Act20) (w : World) (hv : RowT cs 0 w.heap.size w (.slice va l.length vc) l) :
 Calls Tryz.prog 4 #[.slice va l.length vc] w fun e w' => e = .returned (.bool true) ∧ Below w.heap.size w w' := by
 have M := Mem.start w
 have hl := hv.1.2.1
 unfold maxLen at hl
 refine calls_enter Tryz.func4 rfl 237 rfl rfl ?_; intro a S
 refine nxD (qG [1] S ?_); clear S a; intro a S
 refine nxC (wp_seq (nxD (qG [1] S ?_))); clear S a; intro a S
 refine qC (xs := [.tmp 16]) S (qE Tryz.func18) rfl (great20_any va vc cs l _ (M.actsT hv)) ?_
 rintro _ w1 ⟨gb, rfl, hK⟩; refine ⟨_, rfl, ?_⟩; clear S a; intro a S; replace M := M.grow hK
 refine qG [1] S ?_; clear S a; intro a S
 refine st_if (t := 18) S rfl ?_ ?_
 ·clear S; intro h18 S
  refine qG [0, 0, 0, 1] S ?_; clear S a; intro a S
  refine nxC (st_condT S rfl (nxD (qQ (xs := []) S (qE Tryz.func7) rfl (wakes20_any _) M ?_))); clear S M a; intro a w2 S hK M
  refine qG [1] S ?_; clear S a; intro a S
  refine nxC (wp_ret (then_ret (end_one S rfl (res_tmp rfl) ?_)))
  exact ⟨rfl, M.below⟩
 clear S; intro h18 S
 refine qG [1] S ?_; clear S a; intro a S
 refine qY S (y_lenR (E := 60) S rfl (M.arg hv.1) (by kernel_rfl)) ?_; clear S a; intro a S
 refine qG [1, 1] S ?_; clear S a; intro a S
 refine nxC (st_if (t := 22) S rfl ?_ ?_)
 ·clear S; intro h22 S
  refine st_condT S rfl (nxD (qQ (xs := []) S (qE Tryz.func7) rfl (wakes20_any _) M ?_)); clear S M a; intro a w3 S hK M
  refine qG [1] S ?_; clear S a; intro a S
  refine nxC (wp_ret (then_ret (end_one S rfl (res_tmp rfl) ?_)))
  exact ⟨rfl, M.below⟩
 clear S; intro h22 S
 refine st_condF S rfl (wp_skip (then_normal (wp_seq ?_)))
 have hl60 : l.length ≤ 60 := by simp at *; omega
 refine wp_region_lit (qC (xs := []) S (qE Tryz.func19) rfl (new_any _) ?_)
 rintro _ w4 ⟨b, E, rfl, hE, M1⟩; refine ⟨_, rfl, ?_⟩; clear S a; intro a S; replace M := M.join M1; clear M1
 rw [List.append_nil] at M
 refine qG [1] S ?_; clear S a; intro a S
 refine nxA (st_alloc S M rfl rfl #[.int .i64 0, .int .i64 0, .int .i64 0, .int .i64 0, .int .i64 0, .int .i64 0, .int .i64 0, .int .i64 0] (by kernel_rfl) ?_); clear S M a; intro a w5 bF S M hB
 refine nxC (wp_seq (nxD (qG [1] S ?_))); clear S a; intro a S
 refine qY S (y_loadAgg (cs := [_, _, _, _, _, _, _, _]) S (by kernel_rfl) rfl rfl (M.cellsAt (k := 8) 0 rfl rfl)) ?_; clear S a; intro a S
 refine qC (xs := [.tmp 25, .tmp 26]) S (qE Tryz.func10) rfl (format_any (A := [_]) (S0 := DS.new) hE M rfl (fun k => Nat.zero_le _)) ?_
 rintro _ w6 ⟨rfl, E1, hE1, M1⟩; refine ⟨_, rfl, ?_⟩; clear S M a; intro a S; have M := M1; clear M1
 refine qG [1] S ?_; clear S a; intro a S
 refine nxC (st_if (t := 28) S rfl ?_ ?_)
 ·clear S; intro h28 S
  exact absurd rfl h28
 clear S; intro h28 S
 refine st_condF S rfl (wp_skip (nxE (qG [1] S ?_))); clear S a; intro a S
 refine qC (xs := [.tmp 30]) S (qE Tryz.func9) rfl (openL_any (A := [_]) s1 hE1 M LInv.start) ?_
 rintro _ w7 ⟨b1, la, lc, lo, hi, rfl, M1⟩; refine ⟨_, rfl, ?_⟩; clear S M a; intro a S; have M := M1; clear M1
 refine qG [1, 1, 1, 1, 1] S ?_; clear S a; intro a S
 replace S := S.keep [0, 2, 22, 3, 4, 28, 5, 6]
 refine nxC (wp_seq (nxD (qG [1, 1, 1] S ?_))); clear S a; intro a S
 refine st_if (t := 36) S rfl ?_ ?_
 ·clear S; intro h36 S
  exact absurd rfl h36
 clear S; intro h36 S
 refine qG [1] S ?_; clear S a; intro a S
 refine qY S (y_eqlPS (by kernel_rfl) S rfl) ?_; clear S a; intro a S
 refine qG [1, 1, 1] S ?_; clear S a; intro a S
 refine qC (xs := [.tmp 41]) S (qE Tryz.func20) rfl (begins20_any (A := [_, _]) s1 _ hE1 M LInv.start s1b_may) ?_
 rintro _ w8 ⟨rfl, S2, E2, hI00, hE2, M1⟩; refine ⟨_, rfl, ?_⟩; clear S M a; intro a S; have M := M1; clear M1
 refine qG [1, 1] S ?_; clear S a; intro a S
 refine nxC (st_if (t := 44) S rfl ?_ ?_)
 ·clear S; intro h44 S
  all_goals (simp at h44)
 clear S; intro h44 S
 refine st_condF S rfl (wp_skip (nxE (qG [1, 1] S ?_))); clear S a; intro a S
 refine nxA (qG [1] S ?_); clear S a; intro a S
 refine nxC (wp_seq (nxD (qG [1] S ?_))); clear S a; intro a S
 refine nxC (wp_block (wp_loop_g (fun m a w' => ∃ (i : Nat) (s : Ls) (S0 : DS) (E : List Ent) (opn over : List Nm) (bX : Nat) (la : Option Addr) (lc lo hi : Nat) (oa : Option Addr) (oc olo ohi : Nat) (ea : Option Addr) (ec elo ehi : Nat), i ≤ l.length ∧ m = l.length - i ∧ opn.length ≤ 8 ∧ over.length ≤ i ∧ KI S0 s i opn over ∧ DkE b S0 E ∧ Sees 237 a [(0, .slice va l.length vc), (3, .pointer (some ⟨b, 0, none⟩)), (4, .pointer (some ⟨bF, 0, none⟩)), (5, .pointer (some ⟨bX, 0, none⟩)), (7, .slice oa opn.length oc), (8, .slice ea over.length ec), (9, .int .i64 s.cu.bound), (10, .int .i64 (i : Int))] ∧ Mem w w' (lgE bX b s la lc :: opE lo hi la lc s.op :: nmE olo ohi oa oc opn :: nmE elo ehi ea ec over :: .blk bF (mC s.cu).toArray 30 :: E)) (l.length) ?_ ?_))
 ·skip
  obtain ⟨elo, ehi, M1⟩ := M.nilRow 24 3
  obtain ⟨olo, ohi, M2⟩ := M1.nilRow 24 3
  exact ⟨0, s1b, S2, E2, [], [], b1, la, lc, _, _, none, 0, olo, ohi, none, 0, elo, ehi, Nat.zero_le _, rfl, Nat.zero_le _, Nat.le_refl _, KI.start hI00, hE2, S.sub _ rfl, M2.perm (.trans (.cons _ (.swap _ _ _)) (.trans (.swap _ _ _) (.cons _ (.trans (.cons _ (.swap _ _ _)) (.swap _ _ _)))))⟩
 clear S M a; intro m a wl
 rintro ⟨i, s, S0, E, opn, over, bX, la, lc, lo, hi, oa, oc, olo, ohi, ea, ec, elo, ehi, hi', rfl, hop, hov, hKI, hE, S, M⟩
 have hsl := hKI.len
 obtain ⟨T, K, hI, hk, hT⟩ := hKI.inv
 have hfew := hI.few
 refine wp_seq (nxD (qG [1, 1] S ?_)); clear S a; intro a S
 refine qY S (y_lenR (E := 60) S rfl ((M.arg hv.1)) (by kernel_rfl)) ?_; clear S a; intro a S
 refine qG [1] S ?_; clear S a; intro a S
 refine nxC (st_fi (t := 48) S rfl ?_ ?_)
 ·clear S; intro h48 S
  refine st_condF S rfl (wp_exit (then_exit (then_exit (block_hit (nxE (qQ (xs := []) S (qE Tryz.func7) rfl (wakes20_any _) M ?_)))))); clear S M a; intro a w40 S hK M
  refine qG [1] S ?_; clear S a; intro a S
  refine nxC (wp_ret (end_one S rfl (res_tmp rfl) ?_))
  exact ⟨rfl, M.below⟩
 clear S; intro h48 S
 refine st_condT S rfl (wp_skip (then_normal (wp_seq (wp_block (wp_seq ?_)))))
 obtain ⟨q, hq⟩ : ∃ q, l[i]? = some q := ⟨_, List.getElem?_eq_getElem (by omega)⟩
 obtain ⟨hs, wa, wc, pa, pc, ba, bc, hc, hW, hP, -⟩ := hv.2 i q hq
 refine wp_region_lit (qG [1, 1] S ?_); clear S a; intro a S
 refine qY S (y_indexR (e := 60) (sz := 16) S (by kernel_rfl) rfl ((M.arg hv.1)) rfl (by first | omega | (simp; done) | (simp; omega))) ?_; clear S a; intro a S
 try simp only [Int.toNat_natCast, Nat.mul_one, Nat.zero_add] at S
 refine qG [2, 2] S ?_; clear S a; intro a S
 refine qY S (y_loadAgg S (by kernel_rfl) rfl rfl (((M.arg hv.1).at_.row (i := i) hc rfl).sub (i := 2) (k := 3))) ?_; clear S a; intro a S
 refine st_alloc S M rfl rfl #[.int .i64 0, .int .i64 0, .int .i64 0] (by kernel_rfl) ?_; clear S M a; intro a w9 bN S M hB
 refine qS (sz := 3) (us := [_, _, _]) S M 0 ?_; clear M; intro w10 M
 refine nxC (wp_cut (fun a w' => ∃ (s : Ls) (S0 : DS) (E : List Ent) (opn over : List Nm) (bX : Nat) (la : Option Addr) (lc lo hi : Nat) (oa : Option Addr) (oc olo ohi : Nat) (ea : Option Addr) (ec elo ehi : Nat), opn.length ≤ 8 ∧ over.length ≤ i + 1 ∧ KI S0 s (i + 1) opn over ∧ DkE b S0 E ∧ Sees 237 a [(0, .slice va l.length vc), (3, .pointer (some ⟨b, 0, none⟩)), (4, .pointer (some ⟨bF, 0, none⟩)), (5, .pointer (some ⟨bX, 0, none⟩)), (7, .slice oa opn.length oc), (8, .slice ea over.length ec), (9, .int .i64 s.cu.bound), (10, .int .i64 (i : Int))] ∧ Mem w w' (lgE bX b s la lc :: opE lo hi la lc s.op :: nmE olo ohi oa oc opn :: nmE elo ehi ea ec over :: .blk bF (mC s.cu).toArray 30 :: E)) ?_ ?_)
 ·skip
  refine nxD (qG [1, 1] S ?_); clear S a; intro a S
  refine qY S (y_indexR (e := 60) (sz := 16) S (by kernel_rfl) rfl ((M.arg hv.1)) rfl (by first | omega | (simp; done) | (simp; omega))) ?_; clear S a; intro a S
  try simp only [Int.toNat_natCast, Nat.mul_one, Nat.zero_add] at S
  refine qG [1] S ?_; clear S a; intro a S
  refine qY S (y_load S (by kernel_rfl) rfl (((M.arg hv.1).at_.row (i := i) hc rfl) 0 (by show 0 < 16; omega))) ?_; clear S a; intro a S
  refine nxC (wp_block (nxD (qG [1, 1] S ?_))); clear S a; intro a S
  replace S := S.keep [0, 3, 4, 5, 7, 8, 9, 10, 48, 11, 61, 121]
  refine nxC (st_if (t := 121) S rfl ?_ ?_)
  ·clear S; intro h121 S
   refine st_condT S rfl (nxD (qG [1, 1, 1] S ?_)); clear S a; intro a S
   refine qY S (y_indexR (e := 60) (sz := 16) S (by kernel_rfl) rfl ((M.arg hv.1)) rfl (by first | omega | (simp; done) | (simp; omega))) ?_; clear S a; intro a S
   try simp only [Int.toNat_natCast, Nat.mul_one, Nat.zero_add] at S
   refine qG [2] S ?_; clear S a; intro a S
   refine qY S (y_loadAgg S (by kernel_rfl) rfl rfl (show CellsAt _ _ _ (q.r.cells (.slice wa q.x.length wc)).toList from ((M.arg hv.1).at_.row (i := i) hc rfl).sub (i := 1) (k := 12))) ?_; clear S a; intro a S
   skip
   replace M := M.ord [2, 2] (by simp only [ordO, oG, oS, oE, oZ, oB] <;> rfl)
   refine qC (xs := [.tmp 123, .tmp 128]) S (qE Tryz.func11) rfl (commit_any (A := [_, _, _, _]) (T := T) (K := K) (N := (i : Int) + 2) s q.r q.x la wa lc q.x.length wc hE M hW hs hI hk hKI.lb) ?_
   rintro _ w11 ⟨er, rfl, hC⟩; refine ⟨_, rfl, ?_⟩; clear S a; intro a S
   obtain ⟨s2, S2, E2, la2, lc2, lo2, hi2, hE2, M1, hR⟩ := did_form (A := [_, _, _, _]) (C := recOk q.r ∧ q.r.kind = 4 ∧ fd s.op q.r.name = none) hE (by
    rcases hC with ⟨k1, k2, k3, k4, -, k6⟩ | ⟨k1, -, k3⟩
    ·exact .inl ⟨k1, ⟨k2, k3, k4⟩, k6⟩
    ·exact .inr ⟨k1, k3⟩)
   clear M hC; have M := M1; clear M1
   simp only [List.cons_append, List.nil_append] at M
   refine qG [1] S ?_; clear S a; intro a S
   refine nxC (st_fi (t := 130) S rfl ?_ ?_)
   ·clear S; intro h130 S
    refine st_condF S rfl (wp_skip (block_normal (then_normal ?_)))
    skip
    replace M := M.drop 2
    simp only [List.eraseIdx_cons_succ, List.eraseIdx_cons_zero] at M
    replace M := M.ord [4, 4, 4, 4, 4] (by simp only [ordO, oG, oS, oE, oZ, oB] <;> rfl)
    first
     | (revert h130; refine fun h130 : er = 0 => ?_
        obtain ⟨-, ⟨hr, h4, hf⟩, rfl, hI2⟩ := hR.resolve_right (fun h => h.1 h130)
        have hK2 := hKI.commit (by omega) h4 hf hk hfew hI2
        have hcs := rec_cs hr
        refine ⟨keepS s q.r, S2, E2, opn ++ [q.r.name], over.filter (· ≠ q.r.name), bX, la2, lc2, lo2, hi2, aA, cA, loA, hiA, ra, rc, lo4, hi4, by rw [← hK2.len]; exact hI2.few, Nat.le_trans (List.length_filter_le _ _) (by omega), hK2, hE2, ?_, ?_⟩
        ·rw [List.length_append, List.length_singleton, keep4_bound h4]; exact S.sub _ rfl
        ·rw [nmE_snoc]
         first
          | (rw [show mC (keepS s q.r).cu = mC s.cu by rw [keep4_cu h4, if_neg (by omega)]]; exact M)
          | (rw [show mC (keepS s q.r).cu = putL (mC s.cu) q.r.cs.toNat [.int .i64 q.r.ct] by rw [keep4_cu h4, if_pos (by omega), mC_set _ _ (by omega)]]; exact M))
     | (revert h130; refine fun h130 : ¬ er = 0 => ?_
        have hR2 := hR.resolve_left (fun h => h130 h.1)
        obtain ⟨-, e1, e2⟩ := hR2; subst e1; subst e2
        exact ⟨_, _, E2, opn, over, bX, la2, lc2, lo2, hi2, oa, oc, olo, ohi, ea, ec, elo, ehi, hop, by omega, hKI.stay (by omega), hE2, S.sub _ rfl, M⟩)
     | (revert h176; refine fun h176 : er = 0 => ?_
        obtain ⟨-, ⟨k9, hf⟩, rfl, hI2⟩ := hR.resolve_right (fun h => h.1 h176)
        have hK2 := hKI.end_ (by omega) hf hk hT hI.oks.2 hfew hI2
        refine ⟨keepS s (r5 q.r.name), S2, E2, opn.filter (· ≠ q.r.name), over ++ [q.r.name], bX, la2, lc2, lo2, hi2, ra, rc, lo4, hi4, aA, cA, loA, hiA, by rw [← hK2.len]; exact hI2.few, by rw [List.length_append, List.length_singleton]; omega, hK2, hE2, ?_, ?_⟩
        ·rw [List.length_append, List.length_singleton, keep5_cu]; exact S.sub _ rfl
        ·rw [nmE_snoc, show mC (keepS s (r5 q.r.name)).cu = mC s.cu by rw [keep5_cu]]; exact M)
     | (revert h176; refine fun h176 : ¬ er = 0 => ?_
        have hR2 := hR.resolve_left (fun h => h176 h.1)
        obtain ⟨-, e1, e2⟩ := hR2; subst e1; subst e2
        exact ⟨_, _, E2, opn, over, bX, la2, lc2, lo2, hi2, oa, oc, olo, ohi, ea, ec, elo, ehi, hop, by omega, hKI.stay (by omega), hE2, S.sub _ rfl, M⟩)
     | (revert h193; refine fun h193 : er = 0 => ?_
        obtain ⟨-, -, rfl, hI2⟩ := hR.resolve_right (fun h => h.1 h193)
        have hK2 := hKI.stamps (by omega) hk hfew hI2
        exact ⟨keepS s (r6 q.n), S2, E2, opn, over, bX, la2, lc2, lo2, hi2, oa, oc, olo, ohi, ea, ec, elo, ehi, hop, by omega, hK2, hE2, by rw [keep6_cu]; exact S.sub _ rfl, by rw [show mC (keepS s (r6 q.n)).cu = mC s.cu by rw [keep6_cu]]; exact M⟩)
     | (revert h193; refine fun h193 : ¬ er = 0 => ?_
        have hR2 := hR.resolve_left (fun h => h193 h.1)
        obtain ⟨-, e1, e2⟩ := hR2; subst e1; subst e2
        exact ⟨_, _, E2, opn, over, bX, la2, lc2, lo2, hi2, oa, oc, olo, ohi, ea, ec, elo, ehi, hop, by omega, hKI.stay (by omega), hE2, S.sub _ rfl, M⟩)
     | (revert hIck; intro hIck
        have hK2 := hKI.check (by omega) hk hfew hIck
        exact ⟨savedS s, S2, E2, opn, over, bX, la2, lc2, lo2, hi2, oa, oc, olo, ohi, ea, ec, elo, ehi, hop, by omega, hK2, hE2, S.sub _ rfl, M⟩)
     | (revert hKB2; intro hKB2
        obtain rfl : k = over.length := by omega
        exact ⟨{ s2 with su := begunSu s2.su }, S4, E4, opn2, [], bY, la2, lc2, lo2, hi2, oa, oc, olo, ohi, none, 0, elo9, ehi9, by omega, Nat.zero_le _, hKB2.done hI5 hk4, hE4, S.sub _ rfl, M⟩)
   clear S; intro h130 S
   refine st_condT S rfl (nxD (qG [1] S ?_)); clear S a; intro a S
   refine qY S (y_loadAgg (cs := [_, _, _]) S (by kernel_rfl) rfl rfl (M.cellsAt (k := 3) 2 rfl rfl)) ?_; clear S a; intro a S
   refine st_lit (ps := [(0, .tmp 132)]) (e := 24) (sz := 3) (zl := [.int .i64 0, .int .i64 0, .int .i64 0]) (cs := [_, _, _]) S M rfl rfl (by kernel_rfl) rfl (rfl) ?_; clear S M a; intro a w12 bZ S M hB
   refine st_append (e := 24) (sz := 3) (by_ := 24) (zc := [.int .i64 0, .int .i64 0, .int .i64 0]) S M 4 rfl rfl (by kernel_rfl) rfl (by decide) rfl rfl rfl (show Rd _ _ _ 3 _ 1 q.r.name.cells.toList from M.sliceAt 0 rfl (M.cellsAt (k := 3) 0 rfl rfl) rfl (Nat.le_refl _) (by unfold maxLen; omega)) (rfl) (by omega) (by unfold maxLen; omega) ?_; clear S M a; intro a w13 vA loA hiA S M
   obtain ⟨aA, cA, rfl, -, -⟩ := (M.readAll 0 rfl (by unfold maxLen; omega)).form
   replace M := M.drop 1
   simp only [List.eraseIdx_cons_succ, List.eraseIdx_cons_zero] at M
   refine qY S (y_assign S rfl) ?_; clear S a; intro a S
   refine nxA (qG [1] S ?_); clear S a; intro a S
   refine qY S (y_loadAgg (cs := [_, _, _]) S (by kernel_rfl) rfl rfl (M.cellsAt (k := 3) 3 rfl rfl)) ?_; clear S a; intro a S
   refine qC (xs := [.tmp 135, .tmp 136]) S (qE Tryz.func21) rfl (without20_any ea ec over q.r.name _ (M.readAll 4 rfl (by unfold maxLen; omega)) (by omega)) ?_
   rintro _ w14 ⟨ra, rc, rfl, hF⟩; refine ⟨_, rfl, ?_⟩; clear S a; intro a S
   obtain ⟨lo4, hi4, -, M1⟩ := M.pushFresh hF; clear M; have M := M1; clear M1
   replace M := M.drop 5
   simp only [List.eraseIdx_cons_succ, List.eraseIdx_cons_zero] at M
   refine qG [1] S ?_; clear S a; intro a S
   replace S := S.keep [0, 3, 4, 5, 9, 10, 48, 11, 61, 121, 130, 7, 8]
   refine nxA (qG [1, 1] S ?_); clear S a; intro a S
   refine qY S (y_indexR (e := 60) (sz := 16) S (by kernel_rfl) rfl ((M.arg hv.1)) rfl (by first | omega | (simp; done) | (simp; omega))) ?_; clear S a; intro a S
   try simp only [Int.toNat_natCast, Nat.mul_one, Nat.zero_add] at S
   refine qG [2, 10, 1] S ?_; clear S a; intro a S
   refine qY S (y_load S (by kernel_rfl) rfl (((M.arg hv.1).at_.row (i := i) hc rfl) 10 (by show 10 < 16; omega))) ?_; clear S a; intro a S
   refine qG [1, 1] S ?_; clear S a; intro a S
   refine st_fi (t := 146) S rfl ?_ ?_
   ·clear S; intro h146 S
    refine qG [0, 0, 0, 0, 0, 0, 0, 0, 1] S ?_; clear S a; intro a S
    replace S := S.keep [0, 3, 4, 5, 9, 10, 48, 11, 61, 121, 130, 7, 8, 155]
    refine nxC (st_condF S rfl (wp_skip (block_normal (then_normal ?_))))
    skip
    replace M := M.drop 4
    simp only [List.eraseIdx_cons_succ, List.eraseIdx_cons_zero] at M
    replace M := M.ord [4, 1, 2, 4, 4] (by simp only [ordO, oG, oS, oE, oZ, oB] <;> rfl)
    first
     | (revert h130; refine fun h130 : er = 0 => ?_
        obtain ⟨-, ⟨hr, h4, hf⟩, rfl, hI2⟩ := hR.resolve_right (fun h => h.1 h130)
        have hK2 := hKI.commit (by omega) h4 hf hk hfew hI2
        have hcs := rec_cs hr
        refine ⟨keepS s q.r, S2, E2, opn ++ [q.r.name], over.filter (· ≠ q.r.name), bX, la2, lc2, lo2, hi2, aA, cA, loA, hiA, ra, rc, lo4, hi4, by rw [← hK2.len]; exact hI2.few, Nat.le_trans (List.length_filter_le _ _) (by omega), hK2, hE2, ?_, ?_⟩
        ·rw [List.length_append, List.length_singleton, keep4_bound h4]; exact S.sub _ rfl
        ·rw [nmE_snoc]
         first
          | (rw [show mC (keepS s q.r).cu = mC s.cu by rw [keep4_cu h4, if_neg (by omega)]]; exact M)
          | (rw [show mC (keepS s q.r).cu = putL (mC s.cu) q.r.cs.toNat [.int .i64 q.r.ct] by rw [keep4_cu h4, if_pos (by omega), mC_set _ _ (by omega)]]; exact M))
     | (revert h130; refine fun h130 : ¬ er = 0 => ?_
        have hR2 := hR.resolve_left (fun h => h130 h.1)
        obtain ⟨-, e1, e2⟩ := hR2; subst e1; subst e2
        exact ⟨_, _, E2, opn, over, bX, la2, lc2, lo2, hi2, oa, oc, olo, ohi, ea, ec, elo, ehi, hop, by omega, hKI.stay (by omega), hE2, S.sub _ rfl, M⟩)
     | (revert h176; refine fun h176 : er = 0 => ?_
        obtain ⟨-, ⟨k9, hf⟩, rfl, hI2⟩ := hR.resolve_right (fun h => h.1 h176)
        have hK2 := hKI.end_ (by omega) hf hk hT hI.oks.2 hfew hI2
        refine ⟨keepS s (r5 q.r.name), S2, E2, opn.filter (· ≠ q.r.name), over ++ [q.r.name], bX, la2, lc2, lo2, hi2, ra, rc, lo4, hi4, aA, cA, loA, hiA, by rw [← hK2.len]; exact hI2.few, by rw [List.length_append, List.length_singleton]; omega, hK2, hE2, ?_, ?_⟩
        ·rw [List.length_append, List.length_singleton, keep5_cu]; exact S.sub _ rfl
        ·rw [nmE_snoc, show mC (keepS s (r5 q.r.name)).cu = mC s.cu by rw [keep5_cu]]; exact M)
     | (revert h176; refine fun h176 : ¬ er = 0 => ?_
        have hR2 := hR.resolve_left (fun h => h176 h.1)
        obtain ⟨-, e1, e2⟩ := hR2; subst e1; subst e2
        exact ⟨_, _, E2, opn, over, bX, la2, lc2, lo2, hi2, oa, oc, olo, ohi, ea, ec, elo, ehi, hop, by omega, hKI.stay (by omega), hE2, S.sub _ rfl, M⟩)
     | (revert h193; refine fun h193 : er = 0 => ?_
        obtain ⟨-, -, rfl, hI2⟩ := hR.resolve_right (fun h => h.1 h193)
        have hK2 := hKI.stamps (by omega) hk hfew hI2
        exact ⟨keepS s (r6 q.n), S2, E2, opn, over, bX, la2, lc2, lo2, hi2, oa, oc, olo, ohi, ea, ec, elo, ehi, hop, by omega, hK2, hE2, by rw [keep6_cu]; exact S.sub _ rfl, by rw [show mC (keepS s (r6 q.n)).cu = mC s.cu by rw [keep6_cu]]; exact M⟩)
     | (revert h193; refine fun h193 : ¬ er = 0 => ?_
        have hR2 := hR.resolve_left (fun h => h193 h.1)
        obtain ⟨-, e1, e2⟩ := hR2; subst e1; subst e2
        exact ⟨_, _, E2, opn, over, bX, la2, lc2, lo2, hi2, oa, oc, olo, ohi, ea, ec, elo, ehi, hop, by omega, hKI.stay (by omega), hE2, S.sub _ rfl, M⟩)
     | (revert hIck; intro hIck
        have hK2 := hKI.check (by omega) hk hfew hIck
        exact ⟨savedS s, S2, E2, opn, over, bX, la2, lc2, lo2, hi2, oa, oc, olo, ohi, ea, ec, elo, ehi, hop, by omega, hK2, hE2, S.sub _ rfl, M⟩)
     | (revert hKB2; intro hKB2
        obtain rfl : k = over.length := by omega
        exact ⟨{ s2 with su := begunSu s2.su }, S4, E4, opn2, [], bY, la2, lc2, lo2, hi2, oa, oc, olo, ohi, none, 0, elo9, ehi9, by omega, Nat.zero_le _, hKB2.done hI5 hk4, hE4, S.sub _ rfl, M⟩)
   clear S; intro h146 S
   refine qG [1, 1] S ?_; clear S a; intro a S
   refine qY S (y_indexR (e := 60) (sz := 16) S (by kernel_rfl) rfl ((M.arg hv.1)) rfl (by first | omega | (simp; done) | (simp; omega))) ?_; clear S a; intro a S
   try simp only [Int.toNat_natCast, Nat.mul_one, Nat.zero_add] at S
   refine qG [2, 10, 1] S ?_; clear S a; intro a S
   refine qY S (y_load S (by kernel_rfl) rfl (((M.arg hv.1).at_.row (i := i) hc rfl) 10 (by show 10 < 16; omega))) ?_; clear S a; intro a S
   refine qG [1, 1] S ?_; clear S a; intro a S
   replace S := S.keep [0, 3, 4, 5, 9, 10, 48, 11, 61, 121, 130, 7, 8, 155]
   refine nxC (st_fi (t := 155) S rfl ?_ ?_)
   ·clear S; intro h155 S
    refine st_condF S rfl (wp_skip (block_normal (then_normal ?_)))
    skip
    replace M := M.drop 4
    simp only [List.eraseIdx_cons_succ, List.eraseIdx_cons_zero] at M
    replace M := M.ord [4, 1, 2, 4, 4] (by simp only [ordO, oG, oS, oE, oZ, oB] <;> rfl)
    first
     | (revert h130; refine fun h130 : er = 0 => ?_
        obtain ⟨-, ⟨hr, h4, hf⟩, rfl, hI2⟩ := hR.resolve_right (fun h => h.1 h130)
        have hK2 := hKI.commit (by omega) h4 hf hk hfew hI2
        have hcs := rec_cs hr
        refine ⟨keepS s q.r, S2, E2, opn ++ [q.r.name], over.filter (· ≠ q.r.name), bX, la2, lc2, lo2, hi2, aA, cA, loA, hiA, ra, rc, lo4, hi4, by rw [← hK2.len]; exact hI2.few, Nat.le_trans (List.length_filter_le _ _) (by omega), hK2, hE2, ?_, ?_⟩
        ·rw [List.length_append, List.length_singleton, keep4_bound h4]; exact S.sub _ rfl
        ·rw [nmE_snoc]
         first
          | (rw [show mC (keepS s q.r).cu = mC s.cu by rw [keep4_cu h4, if_neg (by omega)]]; exact M)
          | (rw [show mC (keepS s q.r).cu = putL (mC s.cu) q.r.cs.toNat [.int .i64 q.r.ct] by rw [keep4_cu h4, if_pos (by omega), mC_set _ _ (by omega)]]; exact M))
     | (revert h130; refine fun h130 : ¬ er = 0 => ?_
        have hR2 := hR.resolve_left (fun h => h130 h.1)
        obtain ⟨-, e1, e2⟩ := hR2; subst e1; subst e2
        exact ⟨_, _, E2, opn, over, bX, la2, lc2, lo2, hi2, oa, oc, olo, ohi, ea, ec, elo, ehi, hop, by omega, hKI.stay (by omega), hE2, S.sub _ rfl, M⟩)
     | (revert h176; refine fun h176 : er = 0 => ?_
        obtain ⟨-, ⟨k9, hf⟩, rfl, hI2⟩ := hR.resolve_right (fun h => h.1 h176)
        have hK2 := hKI.end_ (by omega) hf hk hT hI.oks.2 hfew hI2
        refine ⟨keepS s (r5 q.r.name), S2, E2, opn.filter (· ≠ q.r.name), over ++ [q.r.name], bX, la2, lc2, lo2, hi2, ra, rc, lo4, hi4, aA, cA, loA, hiA, by rw [← hK2.len]; exact hI2.few, by rw [List.length_append, List.length_singleton]; omega, hK2, hE2, ?_, ?_⟩
        ·rw [List.length_append, List.length_singleton, keep5_cu]; exact S.sub _ rfl
        ·rw [nmE_snoc, show mC (keepS s (r5 q.r.name)).cu = mC s.cu by rw [keep5_cu]]; exact M)
     | (revert h176; refine fun h176 : ¬ er = 0 => ?_
        have hR2 := hR.resolve_left (fun h => h176 h.1)
        obtain ⟨-, e1, e2⟩ := hR2; subst e1; subst e2
        exact ⟨_, _, E2, opn, over, bX, la2, lc2, lo2, hi2, oa, oc, olo, ohi, ea, ec, elo, ehi, hop, by omega, hKI.stay (by omega), hE2, S.sub _ rfl, M⟩)
     | (revert h193; refine fun h193 : er = 0 => ?_
        obtain ⟨-, -, rfl, hI2⟩ := hR.resolve_right (fun h => h.1 h193)
        have hK2 := hKI.stamps (by omega) hk hfew hI2
        exact ⟨keepS s (r6 q.n), S2, E2, opn, over, bX, la2, lc2, lo2, hi2, oa, oc, olo, ohi, ea, ec, elo, ehi, hop, by omega, hK2, hE2, by rw [keep6_cu]; exact S.sub _ rfl, by rw [show mC (keepS s (r6 q.n)).cu = mC s.cu by rw [keep6_cu]]; exact M⟩)
     | (revert h193; refine fun h193 : ¬ er = 0 => ?_
        have hR2 := hR.resolve_left (fun h => h193 h.1)
        obtain ⟨-, e1, e2⟩ := hR2; subst e1; subst e2
        exact ⟨_, _, E2, opn, over, bX, la2, lc2, lo2, hi2, oa, oc, olo, ohi, ea, ec, elo, ehi, hop, by omega, hKI.stay (by omega), hE2, S.sub _ rfl, M⟩)
     | (revert hIck; intro hIck
        have hK2 := hKI.check (by omega) hk hfew hIck
        exact ⟨savedS s, S2, E2, opn, over, bX, la2, lc2, lo2, hi2, oa, oc, olo, ohi, ea, ec, elo, ehi, hop, by omega, hK2, hE2, S.sub _ rfl, M⟩)
     | (revert hKB2; intro hKB2
        obtain rfl : k = over.length := by omega
        exact ⟨{ s2 with su := begunSu s2.su }, S4, E4, opn2, [], bY, la2, lc2, lo2, hi2, oa, oc, olo, ohi, none, 0, elo9, ehi9, by omega, Nat.zero_le _, hKB2.done hI5 hk4, hE4, S.sub _ rfl, M⟩)
   clear S; intro h155 S
   refine st_condT S rfl (wp_regionK [15] #[false, false, false, false, false, false, false, false, false, false, false, false, false, false, false, false] rfl M (by kernel_rfl) ?_); clear M; intro w15 M
   refine k_pure 0 S rfl (fun w => y_move S rfl) ?_; clear S a; intro a S
   refine k_pure 1 S rfl (fun w => y_move S rfl) ?_; clear S a; intro a S
   refine k_read 2 S rfl (fun w hW => have M := M.grow hW; y_indexR (e := 60) (sz := 16) S (by kernel_rfl) rfl ((M.arg hv.1)) rfl (by first | omega | (simp; done) | (simp; omega))) ?_; clear S a; intro a S
   try simp only [Int.toNat_natCast, Nat.mul_one, Nat.zero_add] at S
   refine k_pure 3 S rfl (fun w => y_fieldAddr (k := 1) S (by kernel_rfl) rfl) ?_; clear S a; intro a S
   refine k_pure 4 S rfl (fun w => y_fieldAddr (k := 9) S (by kernel_rfl) rfl) ?_; clear S a; intro a S
   refine k_pure 5 S rfl (fun w => y_fieldAddr (k := 0) S (by kernel_rfl) rfl) ?_; clear S a; intro a S
   refine k_read 6 S rfl (fun w hW => have M := M.grow hW; y_load S (by kernel_rfl) rfl (((M.arg hv.1).at_.row (i := i) hc rfl) 10 (by show 10 < 16; omega))) ?_; clear S a; intro a S
   refine k_pure 7 S rfl (fun w => y_move S rfl) ?_; clear S a; intro a S
   refine k_pure 8 S rfl (fun w => y_move S rfl) ?_; clear S a; intro a S
   refine k_read 9 S rfl (fun w hW => have M := M.grow hW; y_indexR (e := 60) (sz := 16) S (by kernel_rfl) rfl ((M.arg hv.1)) rfl (by first | omega | (simp; done) | (simp; omega))) ?_; clear S a; intro a S
   try simp only [Int.toNat_natCast, Nat.mul_one, Nat.zero_add] at S
   refine k_pure 10 S rfl (fun w => y_fieldAddr (k := 1) S (by kernel_rfl) rfl) ?_; clear S a; intro a S
   refine k_pure 11 S rfl (fun w => y_fieldAddr (k := 9) S (by kernel_rfl) rfl) ?_; clear S a; intro a S
   refine k_pure 12 S rfl (fun w => y_fieldAddr (k := 1) S (by kernel_rfl) rfl) ?_; clear S a; intro a S
   refine k_read 13 S rfl (fun w hW => have M := M.grow hW; y_load S (by kernel_rfl) rfl (((M.arg hv.1).at_.row (i := i) hc rfl) 11 (by show 11 < 16; omega))) ?_; clear S a; intro a S
   refine k_pure 14 S rfl (fun w => y_indexA (m := 8) (sz := 1) S (by kernel_rfl) rfl rfl (by first | omega | (simp; done) | (simp; omega))) ?_; clear S a; intro a S
   try simp only [Int.toNat_natCast, Nat.mul_one, Nat.zero_add] at S
   refine k_one 15 rfl (by kernel_rfl) ?_
   refine st_store (sz := 1) (us := [_]) S M 5 rfl (by kernel_rfl) rfl rfl rfl rfl rfl rfl (by first | decide | (simp; done) | (simp; omega)) ?_; clear M; intro w16 M
   simp only [List.set_cons_zero, List.set_cons_succ] at M
   refine wpList_nil ?_; refine then_normal ?_; refine ⟨fun h => absurd h (by decide), ?_⟩
   refine k_end (by kernel_rfl) ?_
   replace S := S.keep [0, 3, 4, 5, 9, 10, 48, 11, 61, 121, 130, 7, 8, 155]
   refine block_normal (then_normal ?_)
   skip
   replace M := M.drop 4
   simp only [List.eraseIdx_cons_succ, List.eraseIdx_cons_zero] at M
   replace M := M.ord [4, 1, 2, 4, 4] (by simp only [ordO, oG, oS, oE, oZ, oB] <;> rfl)
   first
    | (revert h130; refine fun h130 : er = 0 => ?_
       obtain ⟨-, ⟨hr, h4, hf⟩, rfl, hI2⟩ := hR.resolve_right (fun h => h.1 h130)
       have hK2 := hKI.commit (by omega) h4 hf hk hfew hI2
       have hcs := rec_cs hr
       refine ⟨keepS s q.r, S2, E2, opn ++ [q.r.name], over.filter (· ≠ q.r.name), bX, la2, lc2, lo2, hi2, aA, cA, loA, hiA, ra, rc, lo4, hi4, by rw [← hK2.len]; exact hI2.few, Nat.le_trans (List.length_filter_le _ _) (by omega), hK2, hE2, ?_, ?_⟩
       ·rw [List.length_append, List.length_singleton, keep4_bound h4]; exact S.sub _ rfl
       ·rw [nmE_snoc]
        first
         | (rw [show mC (keepS s q.r).cu = mC s.cu by rw [keep4_cu h4, if_neg (by omega)]]; exact M)
         | (rw [show mC (keepS s q.r).cu = putL (mC s.cu) q.r.cs.toNat [.int .i64 q.r.ct] by rw [keep4_cu h4, if_pos (by omega), mC_set _ _ (by omega)]]; exact M))
    | (revert h130; refine fun h130 : ¬ er = 0 => ?_
       have hR2 := hR.resolve_left (fun h => h130 h.1)
       obtain ⟨-, e1, e2⟩ := hR2; subst e1; subst e2
       exact ⟨_, _, E2, opn, over, bX, la2, lc2, lo2, hi2, oa, oc, olo, ohi, ea, ec, elo, ehi, hop, by omega, hKI.stay (by omega), hE2, S.sub _ rfl, M⟩)
    | (revert h176; refine fun h176 : er = 0 => ?_
       obtain ⟨-, ⟨k9, hf⟩, rfl, hI2⟩ := hR.resolve_right (fun h => h.1 h176)
       have hK2 := hKI.end_ (by omega) hf hk hT hI.oks.2 hfew hI2
       refine ⟨keepS s (r5 q.r.name), S2, E2, opn.filter (· ≠ q.r.name), over ++ [q.r.name], bX, la2, lc2, lo2, hi2, ra, rc, lo4, hi4, aA, cA, loA, hiA, by rw [← hK2.len]; exact hI2.few, by rw [List.length_append, List.length_singleton]; omega, hK2, hE2, ?_, ?_⟩
       ·rw [List.length_append, List.length_singleton, keep5_cu]; exact S.sub _ rfl
       ·rw [nmE_snoc, show mC (keepS s (r5 q.r.name)).cu = mC s.cu by rw [keep5_cu]]; exact M)
    | (revert h176; refine fun h176 : ¬ er = 0 => ?_
       have hR2 := hR.resolve_left (fun h => h176 h.1)
       obtain ⟨-, e1, e2⟩ := hR2; subst e1; subst e2
       exact ⟨_, _, E2, opn, over, bX, la2, lc2, lo2, hi2, oa, oc, olo, ohi, ea, ec, elo, ehi, hop, by omega, hKI.stay (by omega), hE2, S.sub _ rfl, M⟩)
    | (revert h193; refine fun h193 : er = 0 => ?_
       obtain ⟨-, -, rfl, hI2⟩ := hR.resolve_right (fun h => h.1 h193)
       have hK2 := hKI.stamps (by omega) hk hfew hI2
       exact ⟨keepS s (r6 q.n), S2, E2, opn, over, bX, la2, lc2, lo2, hi2, oa, oc, olo, ohi, ea, ec, elo, ehi, hop, by omega, hK2, hE2, by rw [keep6_cu]; exact S.sub _ rfl, by rw [show mC (keepS s (r6 q.n)).cu = mC s.cu by rw [keep6_cu]]; exact M⟩)
    | (revert h193; refine fun h193 : ¬ er = 0 => ?_
       have hR2 := hR.resolve_left (fun h => h193 h.1)
       obtain ⟨-, e1, e2⟩ := hR2; subst e1; subst e2
       exact ⟨_, _, E2, opn, over, bX, la2, lc2, lo2, hi2, oa, oc, olo, ohi, ea, ec, elo, ehi, hop, by omega, hKI.stay (by omega), hE2, S.sub _ rfl, M⟩)
    | (revert hIck; intro hIck
       have hK2 := hKI.check (by omega) hk hfew hIck
       exact ⟨savedS s, S2, E2, opn, over, bX, la2, lc2, lo2, hi2, oa, oc, olo, ohi, ea, ec, elo, ehi, hop, by omega, hK2, hE2, S.sub _ rfl, M⟩)
    | (revert hKB2; intro hKB2
       obtain rfl : k = over.length := by omega
       exact ⟨{ s2 with su := begunSu s2.su }, S4, E4, opn2, [], bY, la2, lc2, lo2, hi2, oa, oc, olo, ohi, none, 0, elo9, ehi9, by omega, Nat.zero_le _, hKB2.done hI5 hk4, hE4, S.sub _ rfl, M⟩)
  clear S; intro h121 S
  refine st_condF S rfl (nxD (qG [1, 1] S ?_)); clear S a; intro a S
  refine nxC (st_if (t := 171) S rfl ?_ ?_)
  ·clear S; intro h171 S
   refine st_condT S rfl (wp_seq ?_)
   skip
   replace M := M.ord [2, 2] (by simp only [ordO, oG, oS, oE, oZ, oB] <;> rfl)
   refine wp_region_lit (qG [1] S ?_); clear S a; intro a S
   refine qY S (y_loadAgg (cs := [_, _, _]) S (by kernel_rfl) rfl rfl (M.cellsAt (k := 3) 2 rfl rfl)) ?_; clear S a; intro a S
   refine qC (xs := [.tmp 173, .tmp 174]) S (qE Tryz.func12) rfl (end_any (A := [_, _, _, _]) (T := T) (K := K) (N := (i : Int) + 2) s q.r.name la lc hE M hI hk hKI.lb) ?_
   rintro _ w17 ⟨er, rfl, hC⟩; refine ⟨_, rfl, ?_⟩; clear S a; intro a S
   obtain ⟨s2, S2, E2, la2, lc2, lo2, hi2, hE2, M1, hR⟩ := did_form (A := [_, _, _, _]) (C := ∃ k, fd s.op q.r.name = some k) hE (by
    rcases hC with ⟨k1, k2, k3⟩ | ⟨k1, -, k3⟩
    ·exact .inl ⟨k1, k2, k3⟩
    ·exact .inr ⟨k1, k3⟩)
   clear M hC; have M := M1; clear M1
   simp only [List.cons_append, List.nil_append] at M
   refine qG [1] S ?_; clear S a; intro a S
   refine nxC (st_fi (t := 176) S rfl ?_ ?_)
   ·clear S; intro h176 S
    refine st_condF S rfl (wp_skip (block_normal (then_normal ?_)))
    skip
    replace M := M.drop 2
    simp only [List.eraseIdx_cons_succ, List.eraseIdx_cons_zero] at M
    replace M := M.ord [4, 4, 4, 4, 4] (by simp only [ordO, oG, oS, oE, oZ, oB] <;> rfl)
    first
     | (revert h130; refine fun h130 : er = 0 => ?_
        obtain ⟨-, ⟨hr, h4, hf⟩, rfl, hI2⟩ := hR.resolve_right (fun h => h.1 h130)
        have hK2 := hKI.commit (by omega) h4 hf hk hfew hI2
        have hcs := rec_cs hr
        refine ⟨keepS s q.r, S2, E2, opn ++ [q.r.name], over.filter (· ≠ q.r.name), bX, la2, lc2, lo2, hi2, aA, cA, loA, hiA, ra, rc, lo4, hi4, by rw [← hK2.len]; exact hI2.few, Nat.le_trans (List.length_filter_le _ _) (by omega), hK2, hE2, ?_, ?_⟩
        ·rw [List.length_append, List.length_singleton, keep4_bound h4]; exact S.sub _ rfl
        ·rw [nmE_snoc]
         first
          | (rw [show mC (keepS s q.r).cu = mC s.cu by rw [keep4_cu h4, if_neg (by omega)]]; exact M)
          | (rw [show mC (keepS s q.r).cu = putL (mC s.cu) q.r.cs.toNat [.int .i64 q.r.ct] by rw [keep4_cu h4, if_pos (by omega), mC_set _ _ (by omega)]]; exact M))
     | (revert h130; refine fun h130 : ¬ er = 0 => ?_
        have hR2 := hR.resolve_left (fun h => h130 h.1)
        obtain ⟨-, e1, e2⟩ := hR2; subst e1; subst e2
        exact ⟨_, _, E2, opn, over, bX, la2, lc2, lo2, hi2, oa, oc, olo, ohi, ea, ec, elo, ehi, hop, by omega, hKI.stay (by omega), hE2, S.sub _ rfl, M⟩)
     | (revert h176; refine fun h176 : er = 0 => ?_
        obtain ⟨-, ⟨k9, hf⟩, rfl, hI2⟩ := hR.resolve_right (fun h => h.1 h176)
        have hK2 := hKI.end_ (by omega) hf hk hT hI.oks.2 hfew hI2
        refine ⟨keepS s (r5 q.r.name), S2, E2, opn.filter (· ≠ q.r.name), over ++ [q.r.name], bX, la2, lc2, lo2, hi2, ra, rc, lo4, hi4, aA, cA, loA, hiA, by rw [← hK2.len]; exact hI2.few, by rw [List.length_append, List.length_singleton]; omega, hK2, hE2, ?_, ?_⟩
        ·rw [List.length_append, List.length_singleton, keep5_cu]; exact S.sub _ rfl
        ·rw [nmE_snoc, show mC (keepS s (r5 q.r.name)).cu = mC s.cu by rw [keep5_cu]]; exact M)
     | (revert h176; refine fun h176 : ¬ er = 0 => ?_
        have hR2 := hR.resolve_left (fun h => h176 h.1)
        obtain ⟨-, e1, e2⟩ := hR2; subst e1; subst e2
        exact ⟨_, _, E2, opn, over, bX, la2, lc2, lo2, hi2, oa, oc, olo, ohi, ea, ec, elo, ehi, hop, by omega, hKI.stay (by omega), hE2, S.sub _ rfl, M⟩)
     | (revert h193; refine fun h193 : er = 0 => ?_
        obtain ⟨-, -, rfl, hI2⟩ := hR.resolve_right (fun h => h.1 h193)
        have hK2 := hKI.stamps (by omega) hk hfew hI2
        exact ⟨keepS s (r6 q.n), S2, E2, opn, over, bX, la2, lc2, lo2, hi2, oa, oc, olo, ohi, ea, ec, elo, ehi, hop, by omega, hK2, hE2, by rw [keep6_cu]; exact S.sub _ rfl, by rw [show mC (keepS s (r6 q.n)).cu = mC s.cu by rw [keep6_cu]]; exact M⟩)
     | (revert h193; refine fun h193 : ¬ er = 0 => ?_
        have hR2 := hR.resolve_left (fun h => h193 h.1)
        obtain ⟨-, e1, e2⟩ := hR2; subst e1; subst e2
        exact ⟨_, _, E2, opn, over, bX, la2, lc2, lo2, hi2, oa, oc, olo, ohi, ea, ec, elo, ehi, hop, by omega, hKI.stay (by omega), hE2, S.sub _ rfl, M⟩)
     | (revert hIck; intro hIck
        have hK2 := hKI.check (by omega) hk hfew hIck
        exact ⟨savedS s, S2, E2, opn, over, bX, la2, lc2, lo2, hi2, oa, oc, olo, ohi, ea, ec, elo, ehi, hop, by omega, hK2, hE2, S.sub _ rfl, M⟩)
     | (revert hKB2; intro hKB2
        obtain rfl : k = over.length := by omega
        exact ⟨{ s2 with su := begunSu s2.su }, S4, E4, opn2, [], bY, la2, lc2, lo2, hi2, oa, oc, olo, ohi, none, 0, elo9, ehi9, by omega, Nat.zero_le _, hKB2.done hI5 hk4, hE4, S.sub _ rfl, M⟩)
   clear S; intro h176 S
   refine st_condT S rfl (nxD (qG [1] S ?_)); clear S a; intro a S
   refine qY S (y_loadAgg (cs := [_, _, _]) S (by kernel_rfl) rfl rfl (M.cellsAt (k := 3) 2 rfl rfl)) ?_; clear S a; intro a S
   refine qC (xs := [.tmp 177, .tmp 178]) S (qE Tryz.func21) rfl (without20_any oa oc opn q.r.name _ (M.readAll 3 rfl (by unfold maxLen; omega)) (by omega)) ?_
   rintro _ w18 ⟨ra, rc, rfl, hF⟩; refine ⟨_, rfl, ?_⟩; clear S a; intro a S
   obtain ⟨lo4, hi4, -, M1⟩ := M.pushFresh hF; clear M; have M := M1; clear M1
   replace M := M.drop 4
   simp only [List.eraseIdx_cons_succ, List.eraseIdx_cons_zero] at M
   refine qG [1] S ?_; clear S a; intro a S
   refine nxB (qG [1] S ?_); clear S a; intro a S
   refine qY S (y_loadAgg (cs := [_, _, _]) S (by kernel_rfl) rfl rfl (M.cellsAt (k := 3) 3 rfl rfl)) ?_; clear S a; intro a S
   refine st_lit (ps := [(0, .tmp 181)]) (e := 24) (sz := 3) (zl := [.int .i64 0, .int .i64 0, .int .i64 0]) (cs := [_, _, _]) S M rfl rfl (by kernel_rfl) rfl (rfl) ?_; clear S M a; intro a w19 bZ S M hB
   refine st_append (e := 24) (sz := 3) (by_ := 24) (zc := [.int .i64 0, .int .i64 0, .int .i64 0]) S M 5 rfl rfl (by kernel_rfl) rfl (by decide) rfl rfl rfl (show Rd _ _ _ 3 _ 1 q.r.name.cells.toList from M.sliceAt 0 rfl (M.cellsAt (k := 3) 0 rfl rfl) rfl (Nat.le_refl _) (by unfold maxLen; omega)) (rfl) (by omega) (by unfold maxLen; omega) ?_; clear S M a; intro a w20 vA loA hiA S M
   obtain ⟨aA, cA, rfl, -, -⟩ := (M.readAll 0 rfl (by unfold maxLen; omega)).form
   replace M := M.drop 1
   simp only [List.eraseIdx_cons_succ, List.eraseIdx_cons_zero] at M
   refine qY S (y_assign S rfl) ?_; clear S a; intro a S
   refine wpList_nil (block_normal (then_normal ?_))
   skip
   replace M := M.drop 4
   simp only [List.eraseIdx_cons_succ, List.eraseIdx_cons_zero] at M
   replace M := M.ord [4, 1, 2, 4, 4] (by simp only [ordO, oG, oS, oE, oZ, oB] <;> rfl)
   first
    | (revert h130; refine fun h130 : er = 0 => ?_
       obtain ⟨-, ⟨hr, h4, hf⟩, rfl, hI2⟩ := hR.resolve_right (fun h => h.1 h130)
       have hK2 := hKI.commit (by omega) h4 hf hk hfew hI2
       have hcs := rec_cs hr
       refine ⟨keepS s q.r, S2, E2, opn ++ [q.r.name], over.filter (· ≠ q.r.name), bX, la2, lc2, lo2, hi2, aA, cA, loA, hiA, ra, rc, lo4, hi4, by rw [← hK2.len]; exact hI2.few, Nat.le_trans (List.length_filter_le _ _) (by omega), hK2, hE2, ?_, ?_⟩
       ·rw [List.length_append, List.length_singleton, keep4_bound h4]; exact S.sub _ rfl
       ·rw [nmE_snoc]
        first
         | (rw [show mC (keepS s q.r).cu = mC s.cu by rw [keep4_cu h4, if_neg (by omega)]]; exact M)
         | (rw [show mC (keepS s q.r).cu = putL (mC s.cu) q.r.cs.toNat [.int .i64 q.r.ct] by rw [keep4_cu h4, if_pos (by omega), mC_set _ _ (by omega)]]; exact M))
    | (revert h130; refine fun h130 : ¬ er = 0 => ?_
       have hR2 := hR.resolve_left (fun h => h130 h.1)
       obtain ⟨-, e1, e2⟩ := hR2; subst e1; subst e2
       exact ⟨_, _, E2, opn, over, bX, la2, lc2, lo2, hi2, oa, oc, olo, ohi, ea, ec, elo, ehi, hop, by omega, hKI.stay (by omega), hE2, S.sub _ rfl, M⟩)
    | (revert h176; refine fun h176 : er = 0 => ?_
       obtain ⟨-, ⟨k9, hf⟩, rfl, hI2⟩ := hR.resolve_right (fun h => h.1 h176)
       have hK2 := hKI.end_ (by omega) hf hk hT hI.oks.2 hfew hI2
       refine ⟨keepS s (r5 q.r.name), S2, E2, opn.filter (· ≠ q.r.name), over ++ [q.r.name], bX, la2, lc2, lo2, hi2, ra, rc, lo4, hi4, aA, cA, loA, hiA, by rw [← hK2.len]; exact hI2.few, by rw [List.length_append, List.length_singleton]; omega, hK2, hE2, ?_, ?_⟩
       ·rw [List.length_append, List.length_singleton, keep5_cu]; exact S.sub _ rfl
       ·rw [nmE_snoc, show mC (keepS s (r5 q.r.name)).cu = mC s.cu by rw [keep5_cu]]; exact M)
    | (revert h176; refine fun h176 : ¬ er = 0 => ?_
       have hR2 := hR.resolve_left (fun h => h176 h.1)
       obtain ⟨-, e1, e2⟩ := hR2; subst e1; subst e2
       exact ⟨_, _, E2, opn, over, bX, la2, lc2, lo2, hi2, oa, oc, olo, ohi, ea, ec, elo, ehi, hop, by omega, hKI.stay (by omega), hE2, S.sub _ rfl, M⟩)
    | (revert h193; refine fun h193 : er = 0 => ?_
       obtain ⟨-, -, rfl, hI2⟩ := hR.resolve_right (fun h => h.1 h193)
       have hK2 := hKI.stamps (by omega) hk hfew hI2
       exact ⟨keepS s (r6 q.n), S2, E2, opn, over, bX, la2, lc2, lo2, hi2, oa, oc, olo, ohi, ea, ec, elo, ehi, hop, by omega, hK2, hE2, by rw [keep6_cu]; exact S.sub _ rfl, by rw [show mC (keepS s (r6 q.n)).cu = mC s.cu by rw [keep6_cu]]; exact M⟩)
    | (revert h193; refine fun h193 : ¬ er = 0 => ?_
       have hR2 := hR.resolve_left (fun h => h193 h.1)
       obtain ⟨-, e1, e2⟩ := hR2; subst e1; subst e2
       exact ⟨_, _, E2, opn, over, bX, la2, lc2, lo2, hi2, oa, oc, olo, ohi, ea, ec, elo, ehi, hop, by omega, hKI.stay (by omega), hE2, S.sub _ rfl, M⟩)
    | (revert hIck; intro hIck
       have hK2 := hKI.check (by omega) hk hfew hIck
       exact ⟨savedS s, S2, E2, opn, over, bX, la2, lc2, lo2, hi2, oa, oc, olo, ohi, ea, ec, elo, ehi, hop, by omega, hK2, hE2, S.sub _ rfl, M⟩)
    | (revert hKB2; intro hKB2
       obtain rfl : k = over.length := by omega
       exact ⟨{ s2 with su := begunSu s2.su }, S4, E4, opn2, [], bY, la2, lc2, lo2, hi2, oa, oc, olo, ohi, none, 0, elo9, ehi9, by omega, Nat.zero_le _, hKB2.done hI5 hk4, hE4, S.sub _ rfl, M⟩)
  clear S; intro h171 S
  refine st_condF S rfl (nxD (qG [1, 1] S ?_)); clear S a; intro a S
  refine nxC (st_if (t := 184) S rfl ?_ ?_)
  ·clear S; intro h184 S
   refine st_condT S rfl (nxD (qG [1, 1, 1] S ?_)); clear S a; intro a S
   refine qY S (y_indexR (e := 60) (sz := 16) S (by kernel_rfl) rfl ((M.arg hv.1)) rfl (by first | omega | (simp; done) | (simp; omega))) ?_; clear S a; intro a S
   try simp only [Int.toNat_natCast, Nat.mul_one, Nat.zero_add] at S
   refine qG [14] S ?_; clear S a; intro a S
   refine qY S (y_load S (by kernel_rfl) rfl (((M.arg hv.1).at_.row (i := i) hc rfl) 13 (by show 13 < 16; omega))) ?_; clear S a; intro a S
   skip
   replace M := M.ord [2, 2] (by simp only [ordO, oG, oS, oE, oZ, oB] <;> rfl)
   refine qC (xs := [.tmp 186, .tmp 191]) S (qE Tryz.func13) rfl (stamps_any (A := [_, _, _, _]) (T := T) (K := K) (N := (i : Int) + 2) s q.n la lc hE M hI hk hKI.lb) ?_
   rintro _ w21 ⟨er, rfl, hC⟩; refine ⟨_, rfl, ?_⟩; clear S a; intro a S
   obtain ⟨s2, S2, E2, la2, lc2, lo2, hi2, hE2, M1, hR⟩ := did_form (A := [_, _, _, _]) (C := recOk (r6 q.n)) hE hC
   clear M hC; have M := M1; clear M1
   simp only [List.cons_append, List.nil_append] at M
   refine qG [1] S ?_; clear S a; intro a S
   refine nxC (st_fi (t := 193) S rfl ?_ ?_)
   ·clear S; intro h193 S
    refine st_condF S rfl (wp_skip (block_normal (then_normal ?_)))
    skip
    replace M := M.drop 2
    simp only [List.eraseIdx_cons_succ, List.eraseIdx_cons_zero] at M
    replace M := M.ord [4, 4, 4, 4, 4] (by simp only [ordO, oG, oS, oE, oZ, oB] <;> rfl)
    first
     | (revert h130; refine fun h130 : er = 0 => ?_
        obtain ⟨-, ⟨hr, h4, hf⟩, rfl, hI2⟩ := hR.resolve_right (fun h => h.1 h130)
        have hK2 := hKI.commit (by omega) h4 hf hk hfew hI2
        have hcs := rec_cs hr
        refine ⟨keepS s q.r, S2, E2, opn ++ [q.r.name], over.filter (· ≠ q.r.name), bX, la2, lc2, lo2, hi2, aA, cA, loA, hiA, ra, rc, lo4, hi4, by rw [← hK2.len]; exact hI2.few, Nat.le_trans (List.length_filter_le _ _) (by omega), hK2, hE2, ?_, ?_⟩
        ·rw [List.length_append, List.length_singleton, keep4_bound h4]; exact S.sub _ rfl
        ·rw [nmE_snoc]
         first
          | (rw [show mC (keepS s q.r).cu = mC s.cu by rw [keep4_cu h4, if_neg (by omega)]]; exact M)
          | (rw [show mC (keepS s q.r).cu = putL (mC s.cu) q.r.cs.toNat [.int .i64 q.r.ct] by rw [keep4_cu h4, if_pos (by omega), mC_set _ _ (by omega)]]; exact M))
     | (revert h130; refine fun h130 : ¬ er = 0 => ?_
        have hR2 := hR.resolve_left (fun h => h130 h.1)
        obtain ⟨-, e1, e2⟩ := hR2; subst e1; subst e2
        exact ⟨_, _, E2, opn, over, bX, la2, lc2, lo2, hi2, oa, oc, olo, ohi, ea, ec, elo, ehi, hop, by omega, hKI.stay (by omega), hE2, S.sub _ rfl, M⟩)
     | (revert h176; refine fun h176 : er = 0 => ?_
        obtain ⟨-, ⟨k9, hf⟩, rfl, hI2⟩ := hR.resolve_right (fun h => h.1 h176)
        have hK2 := hKI.end_ (by omega) hf hk hT hI.oks.2 hfew hI2
        refine ⟨keepS s (r5 q.r.name), S2, E2, opn.filter (· ≠ q.r.name), over ++ [q.r.name], bX, la2, lc2, lo2, hi2, ra, rc, lo4, hi4, aA, cA, loA, hiA, by rw [← hK2.len]; exact hI2.few, by rw [List.length_append, List.length_singleton]; omega, hK2, hE2, ?_, ?_⟩
        ·rw [List.length_append, List.length_singleton, keep5_cu]; exact S.sub _ rfl
        ·rw [nmE_snoc, show mC (keepS s (r5 q.r.name)).cu = mC s.cu by rw [keep5_cu]]; exact M)
     | (revert h176; refine fun h176 : ¬ er = 0 => ?_
        have hR2 := hR.resolve_left (fun h => h176 h.1)
        obtain ⟨-, e1, e2⟩ := hR2; subst e1; subst e2
        exact ⟨_, _, E2, opn, over, bX, la2, lc2, lo2, hi2, oa, oc, olo, ohi, ea, ec, elo, ehi, hop, by omega, hKI.stay (by omega), hE2, S.sub _ rfl, M⟩)
     | (revert h193; refine fun h193 : er = 0 => ?_
        obtain ⟨-, -, rfl, hI2⟩ := hR.resolve_right (fun h => h.1 h193)
        have hK2 := hKI.stamps (by omega) hk hfew hI2
        exact ⟨keepS s (r6 q.n), S2, E2, opn, over, bX, la2, lc2, lo2, hi2, oa, oc, olo, ohi, ea, ec, elo, ehi, hop, by omega, hK2, hE2, by rw [keep6_cu]; exact S.sub _ rfl, by rw [show mC (keepS s (r6 q.n)).cu = mC s.cu by rw [keep6_cu]]; exact M⟩)
     | (revert h193; refine fun h193 : ¬ er = 0 => ?_
        have hR2 := hR.resolve_left (fun h => h193 h.1)
        obtain ⟨-, e1, e2⟩ := hR2; subst e1; subst e2
        exact ⟨_, _, E2, opn, over, bX, la2, lc2, lo2, hi2, oa, oc, olo, ohi, ea, ec, elo, ehi, hop, by omega, hKI.stay (by omega), hE2, S.sub _ rfl, M⟩)
     | (revert hIck; intro hIck
        have hK2 := hKI.check (by omega) hk hfew hIck
        exact ⟨savedS s, S2, E2, opn, over, bX, la2, lc2, lo2, hi2, oa, oc, olo, ohi, ea, ec, elo, ehi, hop, by omega, hK2, hE2, S.sub _ rfl, M⟩)
     | (revert hKB2; intro hKB2
        obtain rfl : k = over.length := by omega
        exact ⟨{ s2 with su := begunSu s2.su }, S4, E4, opn2, [], bY, la2, lc2, lo2, hi2, oa, oc, olo, ohi, none, 0, elo9, ehi9, by omega, Nat.zero_le _, hKB2.done hI5 hk4, hE4, S.sub _ rfl, M⟩)
   clear S; intro h193 S
   refine st_condT S rfl (wp_region_lit (qG [1, 1] S ?_)); clear S a; intro a S
   refine qY S (y_indexR (e := 60) (sz := 16) S (by kernel_rfl) rfl ((M.arg hv.1)) rfl (by first | omega | (simp; done) | (simp; omega))) ?_; clear S a; intro a S
   try simp only [Int.toNat_natCast, Nat.mul_one, Nat.zero_add] at S
   refine qG [14] S ?_; clear S a; intro a S
   refine qY S (y_load S (by kernel_rfl) rfl (((M.arg hv.1).at_.row (i := i) hc rfl) 13 (by show 13 < 16; omega))) ?_; clear S a; intro a S
   refine qG [1] S ?_; clear S a; intro a S
   replace S := S.keep [0, 3, 4, 5, 7, 8, 10, 48, 11, 61, 121, 171, 184, 193, 9]
   refine wpList_nil (block_normal (then_normal ?_))
   skip
   replace M := M.drop 2
   simp only [List.eraseIdx_cons_succ, List.eraseIdx_cons_zero] at M
   replace M := M.ord [4, 4, 4, 4, 4] (by simp only [ordO, oG, oS, oE, oZ, oB] <;> rfl)
   first
    | (revert h130; refine fun h130 : er = 0 => ?_
       obtain ⟨-, ⟨hr, h4, hf⟩, rfl, hI2⟩ := hR.resolve_right (fun h => h.1 h130)
       have hK2 := hKI.commit (by omega) h4 hf hk hfew hI2
       have hcs := rec_cs hr
       refine ⟨keepS s q.r, S2, E2, opn ++ [q.r.name], over.filter (· ≠ q.r.name), bX, la2, lc2, lo2, hi2, aA, cA, loA, hiA, ra, rc, lo4, hi4, by rw [← hK2.len]; exact hI2.few, Nat.le_trans (List.length_filter_le _ _) (by omega), hK2, hE2, ?_, ?_⟩
       ·rw [List.length_append, List.length_singleton, keep4_bound h4]; exact S.sub _ rfl
       ·rw [nmE_snoc]
        first
         | (rw [show mC (keepS s q.r).cu = mC s.cu by rw [keep4_cu h4, if_neg (by omega)]]; exact M)
         | (rw [show mC (keepS s q.r).cu = putL (mC s.cu) q.r.cs.toNat [.int .i64 q.r.ct] by rw [keep4_cu h4, if_pos (by omega), mC_set _ _ (by omega)]]; exact M))
    | (revert h130; refine fun h130 : ¬ er = 0 => ?_
       have hR2 := hR.resolve_left (fun h => h130 h.1)
       obtain ⟨-, e1, e2⟩ := hR2; subst e1; subst e2
       exact ⟨_, _, E2, opn, over, bX, la2, lc2, lo2, hi2, oa, oc, olo, ohi, ea, ec, elo, ehi, hop, by omega, hKI.stay (by omega), hE2, S.sub _ rfl, M⟩)
    | (revert h176; refine fun h176 : er = 0 => ?_
       obtain ⟨-, ⟨k9, hf⟩, rfl, hI2⟩ := hR.resolve_right (fun h => h.1 h176)
       have hK2 := hKI.end_ (by omega) hf hk hT hI.oks.2 hfew hI2
       refine ⟨keepS s (r5 q.r.name), S2, E2, opn.filter (· ≠ q.r.name), over ++ [q.r.name], bX, la2, lc2, lo2, hi2, ra, rc, lo4, hi4, aA, cA, loA, hiA, by rw [← hK2.len]; exact hI2.few, by rw [List.length_append, List.length_singleton]; omega, hK2, hE2, ?_, ?_⟩
       ·rw [List.length_append, List.length_singleton, keep5_cu]; exact S.sub _ rfl
       ·rw [nmE_snoc, show mC (keepS s (r5 q.r.name)).cu = mC s.cu by rw [keep5_cu]]; exact M)
    | (revert h176; refine fun h176 : ¬ er = 0 => ?_
       have hR2 := hR.resolve_left (fun h => h176 h.1)
       obtain ⟨-, e1, e2⟩ := hR2; subst e1; subst e2
       exact ⟨_, _, E2, opn, over, bX, la2, lc2, lo2, hi2, oa, oc, olo, ohi, ea, ec, elo, ehi, hop, by omega, hKI.stay (by omega), hE2, S.sub _ rfl, M⟩)
    | (revert h193; refine fun h193 : er = 0 => ?_
       obtain ⟨-, -, rfl, hI2⟩ := hR.resolve_right (fun h => h.1 h193)
       have hK2 := hKI.stamps (by omega) hk hfew hI2
       exact ⟨keepS s (r6 q.n), S2, E2, opn, over, bX, la2, lc2, lo2, hi2, oa, oc, olo, ohi, ea, ec, elo, ehi, hop, by omega, hK2, hE2, by rw [keep6_cu]; exact S.sub _ rfl, by rw [show mC (keepS s (r6 q.n)).cu = mC s.cu by rw [keep6_cu]]; exact M⟩)
    | (revert h193; refine fun h193 : ¬ er = 0 => ?_
       have hR2 := hR.resolve_left (fun h => h193 h.1)
       obtain ⟨-, e1, e2⟩ := hR2; subst e1; subst e2
       exact ⟨_, _, E2, opn, over, bX, la2, lc2, lo2, hi2, oa, oc, olo, ohi, ea, ec, elo, ehi, hop, by omega, hKI.stay (by omega), hE2, S.sub _ rfl, M⟩)
    | (revert hIck; intro hIck
       have hK2 := hKI.check (by omega) hk hfew hIck
       exact ⟨savedS s, S2, E2, opn, over, bX, la2, lc2, lo2, hi2, oa, oc, olo, ohi, ea, ec, elo, ehi, hop, by omega, hK2, hE2, S.sub _ rfl, M⟩)
    | (revert hKB2; intro hKB2
       obtain rfl : k = over.length := by omega
       exact ⟨{ s2 with su := begunSu s2.su }, S4, E4, opn2, [], bY, la2, lc2, lo2, hi2, oa, oc, olo, ohi, none, 0, elo9, ehi9, by omega, Nat.zero_le _, hKB2.done hI5 hk4, hE4, S.sub _ rfl, M⟩)
  clear S; intro h184 S
  refine st_condF S rfl (nxD (qG [1, 1] S ?_)); clear S a; intro a S
  refine nxC (st_if (t := 199) S rfl ?_ ?_)
  ·clear S; intro h199 S
   refine st_condT S rfl (wp_seq ?_)
   skip
   replace M := M.ord [2, 2] (by simp only [ordO, oG, oS, oE, oZ, oB] <;> rfl)
   refine wp_region_lit (qG [1] S ?_); clear S a; intro a S
   refine qC (xs := [.tmp 201]) S (qE Tryz.func14) rfl (checkpoint_any (A := [_, _, _, _]) (T := T) (K := K) (N := (i : Int) + 2) s la lc hE M hI hk hKI.lb) ?_
   rintro _ w22 ⟨rfl, S2, E2, la2, lc2, lo2, hi2, hIck, -, hE2, M1⟩; refine ⟨_, rfl, ?_⟩; clear S M a; intro a S; have M := M1; clear M1
   simp only [List.cons_append, List.nil_append] at M
   refine qG [1] S ?_; clear S a; intro a S
   refine nxC (st_if (t := 203) S rfl ?_ ?_)
   ·clear S; intro h203 S
    exact absurd rfl h203
   clear S; intro h203 S
   refine st_condF S rfl (wp_skip (block_normal (then_normal ?_)))
   skip
   replace M := M.drop 2
   simp only [List.eraseIdx_cons_succ, List.eraseIdx_cons_zero] at M
   replace M := M.ord [4, 4, 4, 4, 4] (by simp only [ordO, oG, oS, oE, oZ, oB] <;> rfl)
   first
    | (revert h130; refine fun h130 : er = 0 => ?_
       obtain ⟨-, ⟨hr, h4, hf⟩, rfl, hI2⟩ := hR.resolve_right (fun h => h.1 h130)
       have hK2 := hKI.commit (by omega) h4 hf hk hfew hI2
       have hcs := rec_cs hr
       refine ⟨keepS s q.r, S2, E2, opn ++ [q.r.name], over.filter (· ≠ q.r.name), bX, la2, lc2, lo2, hi2, aA, cA, loA, hiA, ra, rc, lo4, hi4, by rw [← hK2.len]; exact hI2.few, Nat.le_trans (List.length_filter_le _ _) (by omega), hK2, hE2, ?_, ?_⟩
       ·rw [List.length_append, List.length_singleton, keep4_bound h4]; exact S.sub _ rfl
       ·rw [nmE_snoc]
        first
         | (rw [show mC (keepS s q.r).cu = mC s.cu by rw [keep4_cu h4, if_neg (by omega)]]; exact M)
         | (rw [show mC (keepS s q.r).cu = putL (mC s.cu) q.r.cs.toNat [.int .i64 q.r.ct] by rw [keep4_cu h4, if_pos (by omega), mC_set _ _ (by omega)]]; exact M))
    | (revert h130; refine fun h130 : ¬ er = 0 => ?_
       have hR2 := hR.resolve_left (fun h => h130 h.1)
       obtain ⟨-, e1, e2⟩ := hR2; subst e1; subst e2
       exact ⟨_, _, E2, opn, over, bX, la2, lc2, lo2, hi2, oa, oc, olo, ohi, ea, ec, elo, ehi, hop, by omega, hKI.stay (by omega), hE2, S.sub _ rfl, M⟩)
    | (revert h176; refine fun h176 : er = 0 => ?_
       obtain ⟨-, ⟨k9, hf⟩, rfl, hI2⟩ := hR.resolve_right (fun h => h.1 h176)
       have hK2 := hKI.end_ (by omega) hf hk hT hI.oks.2 hfew hI2
       refine ⟨keepS s (r5 q.r.name), S2, E2, opn.filter (· ≠ q.r.name), over ++ [q.r.name], bX, la2, lc2, lo2, hi2, ra, rc, lo4, hi4, aA, cA, loA, hiA, by rw [← hK2.len]; exact hI2.few, by rw [List.length_append, List.length_singleton]; omega, hK2, hE2, ?_, ?_⟩
       ·rw [List.length_append, List.length_singleton, keep5_cu]; exact S.sub _ rfl
       ·rw [nmE_snoc, show mC (keepS s (r5 q.r.name)).cu = mC s.cu by rw [keep5_cu]]; exact M)
    | (revert h176; refine fun h176 : ¬ er = 0 => ?_
       have hR2 := hR.resolve_left (fun h => h176 h.1)
       obtain ⟨-, e1, e2⟩ := hR2; subst e1; subst e2
       exact ⟨_, _, E2, opn, over, bX, la2, lc2, lo2, hi2, oa, oc, olo, ohi, ea, ec, elo, ehi, hop, by omega, hKI.stay (by omega), hE2, S.sub _ rfl, M⟩)
    | (revert h193; refine fun h193 : er = 0 => ?_
       obtain ⟨-, -, rfl, hI2⟩ := hR.resolve_right (fun h => h.1 h193)
       have hK2 := hKI.stamps (by omega) hk hfew hI2
       exact ⟨keepS s (r6 q.n), S2, E2, opn, over, bX, la2, lc2, lo2, hi2, oa, oc, olo, ohi, ea, ec, elo, ehi, hop, by omega, hK2, hE2, by rw [keep6_cu]; exact S.sub _ rfl, by rw [show mC (keepS s (r6 q.n)).cu = mC s.cu by rw [keep6_cu]]; exact M⟩)
    | (revert h193; refine fun h193 : ¬ er = 0 => ?_
       have hR2 := hR.resolve_left (fun h => h193 h.1)
       obtain ⟨-, e1, e2⟩ := hR2; subst e1; subst e2
       exact ⟨_, _, E2, opn, over, bX, la2, lc2, lo2, hi2, oa, oc, olo, ohi, ea, ec, elo, ehi, hop, by omega, hKI.stay (by omega), hE2, S.sub _ rfl, M⟩)
    | (revert hIck; intro hIck
       have hK2 := hKI.check (by omega) hk hfew hIck
       exact ⟨savedS s, S2, E2, opn, over, bX, la2, lc2, lo2, hi2, oa, oc, olo, ohi, ea, ec, elo, ehi, hop, by omega, hK2, hE2, S.sub _ rfl, M⟩)
    | (revert hKB2; intro hKB2
       obtain rfl : k = over.length := by omega
       exact ⟨{ s2 with su := begunSu s2.su }, S4, E4, opn2, [], bY, la2, lc2, lo2, hi2, oa, oc, olo, ohi, none, 0, elo9, ehi9, by omega, Nat.zero_le _, hKB2.done hI5 hk4, hE4, S.sub _ rfl, M⟩)
  clear S; intro h199 S
  refine st_condF S rfl (wp_seq (nxD (qG [1, 1, 1] S ?_))); clear S a; intro a S
  refine qY S (y_indexR (e := 60) (sz := 16) S (by kernel_rfl) rfl ((M.arg hv.1)) rfl (by first | omega | (simp; done) | (simp; omega))) ?_; clear S a; intro a S
  try simp only [Int.toNat_natCast, Nat.mul_one, Nat.zero_add] at S
  refine qG [15] S ?_; clear S a; intro a S
  refine qY S (y_load S (by kernel_rfl) rfl (((M.arg hv.1).at_.row (i := i) hc rfl) 14 (by show 14 < 16; omega))) ?_; clear S a; intro a S
  refine qC (xs := [.tmp 62, .tmp 67]) S (qE Tryz.func22) rfl (crash_any (A := [_, _, _, _, _, _]) pa pc q.plan hE M (fun W M9 => M9.argW hP) hI.up hI.cache) ?_
  rintro _ w23 ⟨rfl, E2, hE2, M1⟩; refine ⟨_, rfl, ?_⟩; clear S M a; intro a S; have M := M1; clear M1
  refine qG [1, 1] S ?_; clear S a; intro a S
  refine st_if (t := 70) S rfl ?_ ?_
  ·clear S; intro h70 S
   exact absurd rfl h70
  clear S; intro h70 S
  refine qG [1] S ?_; clear S a; intro a S
  refine qC (xs := [.tmp 71]) S (qE Tryz.func23) rfl (up_any (A := [_, _, _, _, _, _]) hE2 M rfl) ?_
  rintro _ w24 ⟨rfl, E3, hE3, M1⟩; refine ⟨_, rfl, ?_⟩; clear S M a; intro a S; have M := M1; clear M1
  refine qG [1, 1] S ?_; clear S a; intro a S
  replace S := S.keep [0, 3, 4, 5, 7, 8, 9, 10, 48, 11, 61, 121, 171, 184, 199, 74]
  refine nxC (st_if (t := 74) S rfl ?_ ?_)
  ·clear S; intro h74 S
   all_goals (first | exact absurd rfl h74 | (simp at h74))
  clear S; intro h74 S
  refine st_condF S rfl (wp_skip (then_normal (wp_seq ?_)))
  obtain ⟨s2, K2, hsu2, hcu2, hI4, hk4, hKB⟩ := hKI.crash (by omega) q.plan
  refine wp_region_lit (qG [1] S ?_); clear S a; intro a S
  refine qC (xs := [.tmp 76]) S (qE Tryz.func9) rfl (openL_any (A := [_, _, _, _, _, _]) s2 hE3 M hI4) ?_
  rintro _ w25 ⟨bY, la2, lc2, lo2, hi2, rfl, M1⟩; refine ⟨_, rfl, ?_⟩; clear S M a; intro a S; have M := M1; clear M1
  simp only [List.cons_append, List.nil_append] at M
  replace M := M.drop 3
  simp only [List.eraseIdx_cons_succ, List.eraseIdx_cons_zero] at M
  replace M := M.drop 3
  simp only [List.eraseIdx_cons_succ, List.eraseIdx_cons_zero] at M
  refine qG [1, 1, 1, 1, 1] S ?_; clear S a; intro a S
  refine nxC (wp_seq (nxD (qG [1, 1, 1] S ?_))); clear S a; intro a S
  refine st_if (t := 82) S rfl ?_ ?_
  ·clear S; intro h82 S
   exact absurd rfl h82
  clear S; intro h82 S
  refine qG [1] S ?_; clear S a; intro a S
  refine qY S (y_eqlPS (by kernel_rfl) S rfl) ?_; clear S a; intro a S
  refine qG [1, 1, 1] S ?_; clear S a; intro a S
  refine qC (xs := [.tmp 87]) S (qE Tryz.func20) rfl (begins20_any (A := [_, _, _, _, _]) s2 _ hE3 M hI4 hKB.may) ?_
  rintro _ w26 ⟨rfl, S4, E4, hI5, hE4, M1⟩; refine ⟨_, rfl, ?_⟩; clear S M a; intro a S; have M := M1; clear M1
  simp only [List.cons_append, List.nil_append] at M
  refine qG [1, 1] S ?_; clear S a; intro a S
  replace S := S.keep [0, 3, 4, 5, 7, 8, 9, 10, 48, 11, 61, 121, 171, 184, 199, 74, 12, 13, 90]
  refine nxC (st_if (t := 90) S rfl ?_ ?_)
  ·clear S; intro h90 S
   all_goals (simp at h90)
  clear S; intro h90 S
  refine st_condF S rfl (wp_skip (nxE (qG [1, 1] S ?_))); clear S a; intro a S
  refine nxC (wp_seq (nxD (qG [1] S ?_))); clear S a; intro a S
  refine nxC (wp_block (wp_loop_g (fun m a w' => ∃ (k : Nat) (opn2 : List Nm) (oa : Option Addr) (oc olo ohi : Nat), k ≤ over.length ∧ m = over.length - k ∧ KB s2 i opn2 (over.drop k) ∧ Sees 237 a [(0, .slice va l.length vc), (3, .pointer (some ⟨b, 0, none⟩)), (4, .pointer (some ⟨bF, 0, none⟩)), (5, .pointer (some ⟨bY, 0, none⟩)), (7, .slice oa opn2.length oc), (8, .slice ea over.length ec), (9, .int .i64 s2.cu.bound), (10, .int .i64 (i : Int)), (14, .int .i64 (k : Int))] ∧ Mem w w' (lgE bY b { s2 with su := begunSu s2.su } la2 lc2 :: opE lo2 hi2 la2 lc2 s2.op :: .blk bN q.r.name.cells 24 :: nmE olo ohi oa oc opn2 :: nmE elo ehi ea ec over :: .blk bF (mC s2.cu).toArray 30 :: E4)) (over.length) ?_ ?_))
  ·skip
   exact ⟨0, opn, oa, oc, olo, ohi, Nat.zero_le _, rfl, hKB, by rw [hcu2]; exact S.sub _ rfl, by rw [show mC s2.cu = mC s.cu by rw [hcu2]]; exact M⟩
  clear S M a; intro m a wl
  rintro ⟨k, opn2, oa, oc, olo, ohi, hk2, rfl, hKB2, S, M⟩
  have hol : opn2.length ≤ s2.op.length := by
   have := nodup_lenJ hKB2.nd hKB2.sub
   rwa [List.length_map] at this
  have hf2 := hI4.few
  refine wp_seq (nxD (qG [1, 1] S ?_)); clear S a; intro a S
  refine qY S (y_lenR (E := 24) S rfl ((M.readAll 4 rfl (by unfold maxLen; omega))) (by kernel_rfl)) ?_; clear S a; intro a S
  refine qG [1] S ?_; clear S a; intro a S
  refine nxC (st_fi (t := 95) S rfl ?_ ?_)
  ·clear S; intro h95 S
   refine st_condF S rfl (wp_exit (then_exit (then_exit (block_hit (then_normal ?_)))))
   obtain ⟨elo9, ehi9, M1⟩ := M.nilRow 24 3
   clear M; have M := M1; clear M1
   replace M := M.drop 5
   simp only [List.eraseIdx_cons_succ, List.eraseIdx_cons_zero] at M
   refine wp_region_lit (qG [1] S ?_); clear S a; intro a S
   refine wpList_nil (block_normal (then_normal ?_))
   skip
   replace M := M.drop 3
   simp only [List.eraseIdx_cons_succ, List.eraseIdx_cons_zero] at M
   replace M := M.ord [4, 1, 4, 4, 4] (by simp only [ordO, oG, oS, oE, oZ, oB] <;> rfl)
   first
    | (revert h130; refine fun h130 : er = 0 => ?_
       obtain ⟨-, ⟨hr, h4, hf⟩, rfl, hI2⟩ := hR.resolve_right (fun h => h.1 h130)
       have hK2 := hKI.commit (by omega) h4 hf hk hfew hI2
       have hcs := rec_cs hr
       refine ⟨keepS s q.r, S2, E2, opn ++ [q.r.name], over.filter (· ≠ q.r.name), bX, la2, lc2, lo2, hi2, aA, cA, loA, hiA, ra, rc, lo4, hi4, by rw [← hK2.len]; exact hI2.few, Nat.le_trans (List.length_filter_le _ _) (by omega), hK2, hE2, ?_, ?_⟩
       ·rw [List.length_append, List.length_singleton, keep4_bound h4]; exact S.sub _ rfl
       ·rw [nmE_snoc]
        first
         | (rw [show mC (keepS s q.r).cu = mC s.cu by rw [keep4_cu h4, if_neg (by omega)]]; exact M)
         | (rw [show mC (keepS s q.r).cu = putL (mC s.cu) q.r.cs.toNat [.int .i64 q.r.ct] by rw [keep4_cu h4, if_pos (by omega), mC_set _ _ (by omega)]]; exact M))
    | (revert h130; refine fun h130 : ¬ er = 0 => ?_
       have hR2 := hR.resolve_left (fun h => h130 h.1)
       obtain ⟨-, e1, e2⟩ := hR2; subst e1; subst e2
       exact ⟨_, _, E2, opn, over, bX, la2, lc2, lo2, hi2, oa, oc, olo, ohi, ea, ec, elo, ehi, hop, by omega, hKI.stay (by omega), hE2, S.sub _ rfl, M⟩)
    | (revert h176; refine fun h176 : er = 0 => ?_
       obtain ⟨-, ⟨k9, hf⟩, rfl, hI2⟩ := hR.resolve_right (fun h => h.1 h176)
       have hK2 := hKI.end_ (by omega) hf hk hT hI.oks.2 hfew hI2
       refine ⟨keepS s (r5 q.r.name), S2, E2, opn.filter (· ≠ q.r.name), over ++ [q.r.name], bX, la2, lc2, lo2, hi2, ra, rc, lo4, hi4, aA, cA, loA, hiA, by rw [← hK2.len]; exact hI2.few, by rw [List.length_append, List.length_singleton]; omega, hK2, hE2, ?_, ?_⟩
       ·rw [List.length_append, List.length_singleton, keep5_cu]; exact S.sub _ rfl
       ·rw [nmE_snoc, show mC (keepS s (r5 q.r.name)).cu = mC s.cu by rw [keep5_cu]]; exact M)
    | (revert h176; refine fun h176 : ¬ er = 0 => ?_
       have hR2 := hR.resolve_left (fun h => h176 h.1)
       obtain ⟨-, e1, e2⟩ := hR2; subst e1; subst e2
       exact ⟨_, _, E2, opn, over, bX, la2, lc2, lo2, hi2, oa, oc, olo, ohi, ea, ec, elo, ehi, hop, by omega, hKI.stay (by omega), hE2, S.sub _ rfl, M⟩)
    | (revert h193; refine fun h193 : er = 0 => ?_
       obtain ⟨-, -, rfl, hI2⟩ := hR.resolve_right (fun h => h.1 h193)
       have hK2 := hKI.stamps (by omega) hk hfew hI2
       exact ⟨keepS s (r6 q.n), S2, E2, opn, over, bX, la2, lc2, lo2, hi2, oa, oc, olo, ohi, ea, ec, elo, ehi, hop, by omega, hK2, hE2, by rw [keep6_cu]; exact S.sub _ rfl, by rw [show mC (keepS s (r6 q.n)).cu = mC s.cu by rw [keep6_cu]]; exact M⟩)
    | (revert h193; refine fun h193 : ¬ er = 0 => ?_
       have hR2 := hR.resolve_left (fun h => h193 h.1)
       obtain ⟨-, e1, e2⟩ := hR2; subst e1; subst e2
       exact ⟨_, _, E2, opn, over, bX, la2, lc2, lo2, hi2, oa, oc, olo, ohi, ea, ec, elo, ehi, hop, by omega, hKI.stay (by omega), hE2, S.sub _ rfl, M⟩)
    | (revert hIck; intro hIck
       have hK2 := hKI.check (by omega) hk hfew hIck
       exact ⟨savedS s, S2, E2, opn, over, bX, la2, lc2, lo2, hi2, oa, oc, olo, ohi, ea, ec, elo, ehi, hop, by omega, hK2, hE2, S.sub _ rfl, M⟩)
    | (revert hKB2; intro hKB2
       obtain rfl : k = over.length := by omega
       exact ⟨{ s2 with su := begunSu s2.su }, S4, E4, opn2, [], bY, la2, lc2, lo2, hi2, oa, oc, olo, ohi, none, 0, elo9, ehi9, by omega, Nat.zero_le _, hKB2.done hI5 hk4, hE4, S.sub _ rfl, M⟩)
  clear S; intro h95 S
  refine st_condT S rfl (wp_skip (then_normal (wp_seq (wp_block (wp_seq ?_)))))
  obtain ⟨x, hx⟩ : ∃ x, over[k]? = some x := ⟨_, List.getElem?_eq_getElem (by omega)⟩
  refine wp_regionK [] #[false, false, false, false, false, false, false, false, false, false, false, false, false, false, false, false] rfl M (by kernel_rfl) ?_; clear M; intro w27 M
  refine k_pure 0 S rfl (fun w => y_move S rfl) ?_; clear S a; intro a S
  refine k_pure 2 S rfl (fun w => y_move S rfl) ?_; clear S a; intro a S
  refine k_pure 3 S rfl (fun w => y_move S rfl) ?_; clear S a; intro a S
  refine k_read 4 S rfl (fun w hW => have M := M.grow hW; y_indexR (e := 24) (sz := 3) S (by kernel_rfl) rfl ((M.readAll 4 rfl (by unfold maxLen; omega))) rfl (by first | omega | (simp; done) | (simp; omega))) ?_; clear S a; intro a S
  try simp only [Int.toNat_natCast, Nat.mul_one, Nat.zero_add] at S
  refine k_read 5 S rfl (fun w hW => have M := M.grow hW; y_loadAgg S (by kernel_rfl) rfl rfl ((M.readAll 4 rfl (by unfold maxLen; omega)).at_.row (i := k) (nmcells_get hx) rfl)) ?_; clear S a; intro a S
  refine k_one 1 rfl (by kernel_rfl) ?_
  refine qC (xs := [.tmp 98]) S (qE Tryz.func15) rfl (unfinished_any (.pointer (some ⟨b, 0, none⟩)) { s2 with su := begunSu s2.su } la2 lc2 _ (M.blk 0 rfl) (rd_rcs M (p := 1) rfl (by show s2.op.length ≤ 1000; omega)) (by show s2.op.length ≤ 1000; omega)) ?_
  rintro _ w28 ⟨ra, rc, rfl, hF⟩; refine ⟨_, rfl, ?_⟩; clear S a; intro a S
  have hK := hF.below
  obtain ⟨lo6, hi6, -, M1⟩ := M.pushFresh hF; clear M; have M := M1; clear M1
  refine wpList_nil ?_; refine then_normal ?_; refine ⟨fun _ => hK, ?_⟩
  refine k_one 6 rfl (by kernel_rfl) ?_
  refine qQ (xs := [.tmp 99, .tmp 103]) S (qE Tryz.func24) rfl (has20_any ra rc s2.op x _ (rd_rcs M (p := 0) rfl (by omega))) M ?_; clear S M a; intro a w29 S hK M
  refine wpList_nil ?_; refine then_normal ?_; refine ⟨fun _ => hK, ?_⟩
  refine k_pure 7 S rfl (fun w => y_move S rfl) ?_; clear S a; intro a S
  refine st_fi (t := 105) S rfl ?_ ?_
  ·clear S; intro h105 S
   refine k_no 8 S rfl ?_; clear S a; intro a S
   refine k_no 9 S rfl ?_; clear S a; intro a S
   refine k_no 10 S rfl ?_; clear S a; intro a S
   refine k_no 11 S rfl ?_; clear S a; intro a S
   refine k_no 12 S rfl ?_; clear S a; intro a S
   refine k_no 13 S rfl ?_; clear S a; intro a S
   refine k_no 14 S rfl ?_; clear S a; intro a S
   refine k_pure 15 S rfl (fun w => y_pickF S rfl rfl) ?_; clear S a; intro a S
   refine k_end (by kernel_rfl) ?_
   replace S := S.keep [0, 3, 4, 5, 7, 8, 9, 10, 14, 95, 113]
   refine then_normal (st_condF S rfl (wp_skip (block_normal (nxF (qG [1] S ?_))))); clear S a; intro a S
   (first | refine qY S (y_addN S rfl rfl (by omega)) ?_ | refine qY S (y_int S rfl rfl rfl) ?_); clear S a; intro a S
   refine qG [1] S ?_; clear S a; intro a S
   refine nxC ?_
   skip
   replace M := M.drop 0
   simp only [List.eraseIdx_cons_succ, List.eraseIdx_cons_zero] at M
   replace M := M.ord [5, 5, 5, 5, 5, 5] (by simp only [ordO, oG, oS, oE, oZ, oB] <;> rfl)
   first
    | exact ⟨over.length - (k + 1), by omega, k + 1, opn2 ++ [x], aA, cA, loA, hiA, by omega, rfl, (hKB2.step hx).1 ⟨by assumption, by assumption⟩, by rw [List.length_append, List.length_singleton]; exact S.sub _ rfl, by rw [nmE_snoc]; exact M⟩
    | exact ⟨over.length - (k + 1), by omega, k + 1, opn2, oa, oc, olo, ohi, by omega, rfl, (hKB2.step hx).2 (fun h9 => by first | exact absurd h9.1 (by assumption) | exact absurd (by assumption) h9.2), S.sub _ rfl, M⟩
  clear S; intro h105 S
  refine k_pure 8 S rfl (fun w => y_move S rfl) ?_; clear S a; intro a S
  refine k_pure 9 S rfl (fun w => y_move S rfl) ?_; clear S a; intro a S
  refine k_pure 10 S rfl (fun w => y_move S rfl) ?_; clear S a; intro a S
  refine k_read 11 S rfl (fun w hW => have M := M.grow hW; y_indexR (e := 24) (sz := 3) S (by kernel_rfl) rfl ((M.readAll 5 rfl (by unfold maxLen; omega))) rfl (by first | omega | (simp; done) | (simp; omega))) ?_; clear S a; intro a S
  try simp only [Int.toNat_natCast, Nat.mul_one, Nat.zero_add] at S
  refine k_read 12 S rfl (fun w hW => have M := M.grow hW; y_loadAgg S (by kernel_rfl) rfl rfl ((M.readAll 5 rfl (by unfold maxLen; omega)).at_.row (i := k) (nmcells_get hx) rfl)) ?_; clear S a; intro a S
  refine k_one 13 rfl (by kernel_rfl) ?_
  refine qQ (xs := [.tmp 106, .tmp 110]) S (qE Tryz.func25) rfl (in20_any oa oc opn2 x _ (M.readAll 4 rfl (by unfold maxLen; omega))) M ?_; clear S M a; intro a w30 S hK M
  refine wpList_nil ?_; refine then_normal ?_; refine ⟨fun _ => hK, ?_⟩
  refine k_pure 14 S rfl (fun w => y_not S rfl) ?_; clear S a; intro a S
  refine k_pure 15 S rfl (fun w => y_pickT S rfl rfl) ?_; clear S a; intro a S
  refine k_end (by kernel_rfl) ?_
  replace S := S.keep [0, 3, 4, 5, 7, 8, 9, 10, 14, 95, 113]
  refine then_normal (st_fi (t := 113) S rfl ?_ ?_)
  ·clear S; intro h113 S
   refine st_condF S rfl (wp_skip (block_normal (nxF (qG [1] S ?_)))); clear S a; intro a S
   (first | refine qY S (y_addN S rfl rfl (by omega)) ?_ | refine qY S (y_int S rfl rfl rfl) ?_); clear S a; intro a S
   refine qG [1] S ?_; clear S a; intro a S
   refine nxC ?_
   skip
   replace M := M.drop 0
   simp only [List.eraseIdx_cons_succ, List.eraseIdx_cons_zero] at M
   replace M := M.ord [5, 5, 5, 5, 5, 5] (by simp only [ordO, oG, oS, oE, oZ, oB] <;> rfl)
   first
    | exact ⟨over.length - (k + 1), by omega, k + 1, opn2 ++ [x], aA, cA, loA, hiA, by omega, rfl, (hKB2.step hx).1 ⟨by assumption, by assumption⟩, by rw [List.length_append, List.length_singleton]; exact S.sub _ rfl, by rw [nmE_snoc]; exact M⟩
    | exact ⟨over.length - (k + 1), by omega, k + 1, opn2, oa, oc, olo, ohi, by omega, rfl, (hKB2.step hx).2 (fun h9 => by first | exact absurd h9.1 (by assumption) | exact absurd (by assumption) h9.2), S.sub _ rfl, M⟩
  clear S; intro h113 S
  refine st_condT S rfl (wp_region_lit (qG [1, 1, 1] S ?_)); clear S a; intro a S
  refine qY S (y_indexR (e := 24) (sz := 3) S (by kernel_rfl) rfl ((M.readAll 5 rfl (by unfold maxLen; omega))) rfl (by first | omega | (simp; done) | (simp; omega))) ?_; clear S a; intro a S
  try simp only [Int.toNat_natCast, Nat.mul_one, Nat.zero_add] at S
  refine qY S (y_loadAgg S (by kernel_rfl) rfl rfl ((M.readAll 5 rfl (by unfold maxLen; omega)).at_.row (i := k) (nmcells_get hx) rfl)) ?_; clear S a; intro a S
  refine st_lit (ps := [(0, .tmp 118)]) (e := 24) (sz := 3) (zl := [.int .i64 0, .int .i64 0, .int .i64 0]) (cs := [_, _, _]) S M rfl rfl (by kernel_rfl) rfl (rfl) ?_; clear S M a; intro a w31 bZ S M hB
  refine st_append (e := 24) (sz := 3) (by_ := 24) (zc := [.int .i64 0, .int .i64 0, .int .i64 0]) S M 5 rfl rfl (by kernel_rfl) rfl (by decide) rfl rfl rfl (show Rd _ _ _ 3 _ 1 x.cells.toList from M.sliceAt 0 rfl (M.cellsAt (k := 3) 0 rfl rfl) rfl (Nat.le_refl _) (by unfold maxLen; omega)) (rfl) (by omega) (by unfold maxLen; omega) ?_; clear S M a; intro a w32 vA loA hiA S M
  obtain ⟨aA, cA, rfl, -, -⟩ := (M.readAll 0 rfl (by unfold maxLen; omega)).form
  replace M := M.drop 1
  simp only [List.eraseIdx_cons_succ, List.eraseIdx_cons_zero] at M
  refine qY S (y_assign S rfl) ?_; clear S a; intro a S
  refine wpList_nil (block_normal (nxF (qG [1] S ?_))); clear S a; intro a S
  (first | refine qY S (y_addN S rfl rfl (by omega)) ?_ | refine qY S (y_int S rfl rfl rfl) ?_); clear S a; intro a S
  refine qG [1] S ?_; clear S a; intro a S
  refine nxC ?_
  skip
  replace M := M.drop 1
  simp only [List.eraseIdx_cons_succ, List.eraseIdx_cons_zero] at M
  replace M := M.ord [5, 5, 2, 5, 5, 5] (by simp only [ordO, oG, oS, oE, oZ, oB] <;> rfl)
  first
   | exact ⟨over.length - (k + 1), by omega, k + 1, opn2 ++ [x], aA, cA, loA, hiA, by omega, rfl, (hKB2.step hx).1 ⟨by assumption, by assumption⟩, by rw [List.length_append, List.length_singleton]; exact S.sub _ rfl, by rw [nmE_snoc]; exact M⟩
   | exact ⟨over.length - (k + 1), by omega, k + 1, opn2, oa, oc, olo, ohi, by omega, rfl, (hKB2.step hx).2 (fun h9 => by first | exact absurd h9.1 (by assumption) | exact absurd (by assumption) h9.2), S.sub _ rfl, M⟩
 clear S a M; intro a wc
 rintro ⟨s, S0, E, opn, over, bX, la, lc, lo, hi, oa, oc, olo, ohi, ea, ec, elo, ehi, hop, hov, hKI, hE, S, M⟩
 refine wp_seq (wp_seq ?_)
 have hsl := hKI.len
 obtain ⟨T, K, hI, hk, hT⟩ := hKI.inv
 have hfew := hI.few
 refine wp_regionK [] #[false, false, false, false, false, false, false, false, false, false, false, false, false, false, false, false, false, false] rfl M (by kernel_rfl) ?_; clear M; intro w33 M
 refine k_pure 0 S rfl (fun w => y_move S rfl) ?_; clear S a; intro a S
 refine k_read 2 S rfl (fun w hW => have M := M.grow hW; y_loadAgg (cs := [_, _, _, _, _, _, _, _]) S (by kernel_rfl) rfl rfl (M.cellsAt (k := 8) 4 rfl rfl)) ?_; clear S a; intro a S
 refine k_one 1 rfl (by kernel_rfl) ?_
 refine qQ (xs := [.tmp 204]) S (qE Tryz.func26) rfl (map_any (.pointer (some ⟨b, 0, none⟩)) s _ _ (M.blk 0 rfl)) M ?_; clear S M a; intro a w34 S hK M
 refine wpList_nil ?_; refine then_normal ?_; refine ⟨fun _ => hK, ?_⟩
 refine k_pure 3 S rfl (fun w => y_neqG (by kernel_rfl) S rfl rfl (fun w => equalM8 9998 s.cu.m0 s.cu.m1 s.cu.m2 s.cu.m3 s.cu.m4 s.cu.m5 s.cu.m6 s.cu.m7 w)) ?_; clear S a; intro a S
 refine k_pure 4 S rfl (fun w => y_move S rfl) ?_; clear S a; intro a S
 refine st_if (t := 208) S rfl ?_ ?_
 ·clear S; intro h208 S
  all_goals (simp at h208)
 clear S; intro h208 S
 refine k_pure 5 S rfl (fun w => y_move S rfl) ?_; clear S a; intro a S
 refine k_pure 7 S rfl (fun w => y_move S rfl) ?_; clear S a; intro a S
 refine k_one 6 rfl (by kernel_rfl) ?_
 refine qQ (xs := [.tmp 209]) S (qE Tryz.func16) rfl (bound_any (.pointer (some ⟨b, 0, none⟩)) s _ _ (M.blk 0 rfl)) M ?_; clear S M a; intro a w35 S hK M
 refine wpList_nil ?_; refine then_normal ?_; refine ⟨fun _ => hK, ?_⟩
 refine k_pure 8 S rfl (fun w => y_int S rfl rfl rfl) ?_; clear S a; intro a S
 refine k_pure 9 S rfl (fun w => y_pickF S rfl rfl) ?_; clear S a; intro a S
 refine k_pure 10 S rfl (fun w => y_move S rfl) ?_; clear S a; intro a S
 refine st_if (t := 214) S rfl ?_ ?_
 ·clear S; intro h214 S
  all_goals (simp at h214)
 clear S; intro h214 S
 refine k_pure 11 S rfl (fun w => y_move S rfl) ?_; clear S a; intro a S
 refine k_pure 14 S rfl (fun w => y_move S rfl) ?_; clear S a; intro a S
 refine k_pure 15 S rfl (fun w => y_lenS (E := 24) S rfl (by kernel_rfl)) ?_; clear S a; intro a S
 refine k_one 12 rfl (by kernel_rfl) ?_
 refine qC (xs := [.tmp 215]) S (qE Tryz.func15) rfl (unfinished_any (.pointer (some ⟨b, 0, none⟩)) s la lc _ (M.blk 0 rfl) (rd_rcs M (p := 1) rfl (by omega)) (by omega)) ?_
 rintro _ w36 ⟨ra, rc, rfl, hF⟩; refine ⟨_, rfl, ?_⟩; clear S a; intro a S
 have hK := hF.below
 replace M := M.grow hK
 refine wpList_nil ?_; refine then_normal ?_; refine ⟨fun _ => hK, ?_⟩
 refine k_pure 13 S rfl (fun w => y_lenS (E := 29) S rfl (by kernel_rfl)) ?_; clear S a; intro a S
 refine k_pure 16 S rfl (fun w => y_int S rfl rfl rfl) ?_; clear S a; intro a S
 refine k_pure 17 S rfl (fun w => y_pickF S rfl rfl) ?_; clear S a; intro a S
 refine k_end (by kernel_rfl) ?_
 replace S := S.keep [0, 3, 4, 5, 7, 8, 9, 10, 221]
 refine then_normal (st_if (t := 221) S rfl ?_ ?_)
 ·clear S; intro h221 S
  all_goals (exfalso; omega)
 clear S; intro h221 S
 refine st_condF S rfl (wp_skip (nxE (qG [1] S ?_))); clear S a; intro a S
 refine nxC (wp_block (wp_loop_g (fun m a w' => ∃ (j : Nat), j ≤ opn.length ∧ m = opn.length - j ∧ Sees 237 a [(0, .slice va l.length vc), (3, .pointer (some ⟨b, 0, none⟩)), (4, .pointer (some ⟨bF, 0, none⟩)), (5, .pointer (some ⟨bX, 0, none⟩)), (7, .slice oa opn.length oc), (8, .slice ea over.length ec), (9, .int .i64 s.cu.bound), (10, .int .i64 (i : Int)), (15, .int .i64 (j : Int))] ∧ Mem w w' (lgE bX b s la lc :: opE lo hi la lc s.op :: nmE olo ohi oa oc opn :: nmE elo ehi ea ec over :: .blk bF (mC s.cu).toArray 30 :: E)) (opn.length) ?_ ?_))
 ·skip
  exact ⟨0, Nat.zero_le _, rfl, S.sub _ rfl, M⟩
 clear S M a; intro m a wl
 rintro ⟨j, hj, rfl, S, M⟩
 refine wp_seq (nxD (qG [1, 1] S ?_)); clear S a; intro a S
 refine qY S (y_lenR (E := 24) S rfl ((M.readAll 2 rfl (by unfold maxLen; omega))) (by kernel_rfl)) ?_; clear S a; intro a S
 refine qG [1] S ?_; clear S a; intro a S
 refine nxC (st_fi (t := 225) S rfl ?_ ?_)
 ·clear S; intro h225 S
  refine st_condF S rfl (wp_exit (then_exit (then_exit (block_hit (block_normal (nxF (qG [1] S ?_))))))); clear S a; intro a S
  (first | refine qY S (y_addN S rfl rfl (by omega)) ?_ | refine qY S (y_int S rfl rfl rfl) ?_); clear S a; intro a S
  refine qG [1] S ?_; clear S a; intro a S
  refine nxC ?_
  exact ⟨l.length - (i + 1), by omega, i + 1, s, S0, E, opn, over, bX, la, lc, lo, hi, oa, oc, olo, ohi, ea, ec, elo, ehi, by omega, rfl, hop, hov, hKI, hE, S.sub _ rfl, M⟩
 clear S; intro h225 S
 refine st_condT S rfl (wp_skip (then_normal (wp_seq (wp_block (wp_seq ?_)))))
 obtain ⟨x, hx⟩ : ∃ x, opn[j]? = some x := ⟨_, List.getElem?_eq_getElem (by omega)⟩
 refine wp_regionK [] #[false, false, false, false, false, false, false, false] rfl M (by kernel_rfl) ?_; clear M; intro w37 M
 refine k_pure 0 S rfl (fun w => y_move S rfl) ?_; clear S a; intro a S
 refine k_pure 2 S rfl (fun w => y_move S rfl) ?_; clear S a; intro a S
 refine k_pure 3 S rfl (fun w => y_move S rfl) ?_; clear S a; intro a S
 refine k_read 4 S rfl (fun w hW => have M := M.grow hW; y_indexR (e := 24) (sz := 3) S (by kernel_rfl) rfl ((M.readAll 2 rfl (by unfold maxLen; omega))) rfl (by first | omega | (simp; done) | (simp; omega))) ?_; clear S a; intro a S
 try simp only [Int.toNat_natCast, Nat.mul_one, Nat.zero_add] at S
 refine k_read 5 S rfl (fun w hW => have M := M.grow hW; y_loadAgg S (by kernel_rfl) rfl rfl ((M.readAll 2 rfl (by unfold maxLen; omega)).at_.row (i := j) (nmcells_get hx) rfl)) ?_; clear S a; intro a S
 refine k_one 1 rfl (by kernel_rfl) ?_
 refine qC (xs := [.tmp 228]) S (qE Tryz.func15) rfl (unfinished_any (.pointer (some ⟨b, 0, none⟩)) s la lc _ (M.blk 0 rfl) (rd_rcs M (p := 1) rfl (by omega)) (by omega)) ?_
 rintro _ w38 ⟨ra, rc, rfl, hF⟩; refine ⟨_, rfl, ?_⟩; clear S a; intro a S
 have hK := hF.below
 obtain ⟨lo6, hi6, -, M1⟩ := M.pushFresh hF; clear M; have M := M1; clear M1
 refine wpList_nil ?_; refine then_normal ?_; refine ⟨fun _ => hK, ?_⟩
 refine k_one 6 rfl (by kernel_rfl) ?_
 refine qQ (xs := [.tmp 229, .tmp 233]) S (qE Tryz.func24) rfl (has20_any ra rc s.op x _ (rd_rcs M (p := 0) rfl (by omega))) M ?_; clear S M a; intro a w39 S hK M
 refine wpList_nil ?_; refine then_normal ?_; refine ⟨fun _ => hK, ?_⟩
 refine k_pure 7 S rfl (fun w => y_not S rfl) ?_; clear S a; intro a S
 refine k_end (by kernel_rfl) ?_
 refine then_normal (st_if (t := 235) S rfl ?_ ?_)
 ·clear S; intro h235 S
  exact absurd ((hKI.iff x).1 (List.mem_of_getElem? hx)) (by simpa using h235)
 clear S; intro h235 S
 refine st_condF S rfl (wp_skip (block_normal (nxF (qG [1] S ?_)))); clear S a; intro a S
 (first | refine qY S (y_addN S rfl rfl (by omega)) ?_ | refine qY S (y_int S rfl rfl rfl) ?_); clear S a; intro a S
 refine qG [1] S ?_; clear S a; intro a S
 refine nxC ?_
 skip
 replace M := M.drop 0
 simp only [List.eraseIdx_cons_succ, List.eraseIdx_cons_zero] at M
 exact ⟨opn.length - (j + 1), by omega, j + 1, by omega, rfl, S.sub _ rfl, M⟩
end Go.Proofs.YtmdededhoibofaaGreat

namespace Go.Proofs.YtmdededhoibofaaGreat
open Go.RowKit Go.Sort
structure JLog (S : DS) (t inc : Int) (put : List (List UInt8)) (c : Nat) : Prop where
 inv : JInv S t (framesL inc t put) c
 ok : ∀ p ∈ beginsL t put, cutOk p.2 p.1 inc
 up : S.down = false
 small : ∀ k, (S.cache k).length ≤ (framesL inc t put).length
abbrev JLog.nx (t inc : Int) (put : List (List UInt8)) : Int := t + ((framesL inc t put).length : Nat)
def PutV (w0 : World) (pvs : List Value) (put : List (List UInt8)) : Prop := pvs.length = put.length ∧ ∀ (i : Nat) x bs, pvs[i]? = some x → put[i]? = some bs → Bs 0 w0.heap.size w0 x bs
structure ArgB (w : World) (v : Value) (bss : List (List UInt8)) : Prop where
 rows : BRows w v bss
end Go.Proofs.YtmdededhoibofaaGreat

namespace Go.Proofs.YtmdededhoibofaaGreat
open Go.ChangeShapes Go.WideShapes Go.ChangeAt Go.RowKit Go.Joins
theorem Tryz.own : ownKnob Tryz.prog.godebug = none := by kernel_rfl
theorem Tryz.laidOut : laidOutB Tryz.prog = true := by kernel_rfl
section
variable {H : Type} {enc : TypeId × Value → H} {P : Program}
theorem trodAll_stays (hl : laidOutB P = true) {W W' : World} (hb : Below W.heap.size W W') {sp : Nat → Bool} : ∀ (ts : List TypeId) (vs : List Value) (ds : List (DataW H)) (ps : List MemPlace),
 (∀ t ∈ ts, P.readableRec t = true ∧ t < P.types.size) → (∀ p ∈ ps, p.block < W.heap.size ∧ sp p.block = true) →
 DataW.TrodAll enc P W 0 (fun _ => true) true ts vs ds ps → DataW.TrodAll enc P W' 0 sp true ts vs ds ps
 | [], vs, ds, ps, _, _, h => by
   obtain ⟨rfl, rfl, rfl⟩ := trodAll_nil h
   exact trodAll_mk0
 | t :: ts, vs, ds, ps, ht, hp, h => by
   obtain ⟨v, vs', d, ds', p, q, rfl, rfl, rfl, h0, h1⟩ := trodAll_cons h
   exact trodAll_cons_mk (WideElems.Trod_stays hl (ht t (by simp)).1 (ht t (by simp)).2 h0 (fun x hx => hb.same (hp x (by simp [hx])).1) (fun x hx => (hp x (by simp [hx])).2))
    (trodAll_stays hl hb ts vs' ds' q (fun t' h' => ht t' (by simp [h'])) (fun x hx => hp x (by simp [hx])) h1)
theorem law_post {f : Func} {s : ChangeSpec} {apart fresh handsOn again : Bool} {W W' : World} {args : Array Value} {ds gs : List (DataW H)} {before : List MemPlace} {tb : TypeId}
 (hl : laidOutB P = true) (hts : ∀ t ∈ f.params.toList, P.readableRec t = true ∧ t < P.types.size) (hv : s.vars = []) (hrt : f.resultTypes = #[tb]) (htb : P.underlying tb = some .bool)
 (hs : ∀ ds : List (DataW H), ds.length = f.params.size → s.fn H ds = { results := [.lit (.bool true)], args := ds })
 (hW : DataW.Whole enc P f.params.toList s.vars apart W args.toList ds gs before) (hb : Below W.heap.size W W') : s.post enc P f apart fresh handsOn again W args (.bool true) W' := by
 have hlt : ∀ p ∈ before, p.block < W.heap.size := fun p hp => hW.lt p hp
 have hW' := hW
 obtain ⟨p, q, hA, hV, rfl, hfz, hnd⟩ := hW
 rw [hv] at hV
 obtain ⟨rfl, rfl⟩ := trodVars_none hV
 have hlen : ds.length = f.params.size := by
  have : ∀ (ts : List TypeId) (vs : List Value) (ds : List (DataW H)) (ps : List MemPlace), DataW.TrodAll enc P W 0 (fun _ => true) true ts vs ds ps → ds.length = ts.length := by
   intro ts
   induction ts with
   | nil => intro vs ds ps h; obtain ⟨_, rfl, _⟩ := trodAll_nil h; rfl
   | cons t ts ih => intro vs ds ps h; obtain ⟨v, vs', d, ds', p, q, _, rfl, _, _, h1⟩ := trodAll_cons h; simp [ih _ _ _ h1]
  simpa using this _ _ _ _ hA
 have e := hs ds hlen
 have args_read : ∀ sp : Nat → Bool, (∀ x ∈ p ++ [], sp x.block = true) → DataW.TrodAll enc P W' 0 sp true f.params.toList args.toList ds p := fun sp hsp =>
  trodAll_stays hl hb _ _ _ _ hts (fun x hx => ⟨hlt x (by simp [hx]), hsp x (by simp [hx])⟩) hA
 have res_read : ∀ (b : Nat) (sp : Nat → Bool) (hd : Bool), DataW.TrodAll enc P W' b sp hd f.resultTypes.toList (Value.resultList f.resultTypes.size (.bool true)) [.lit (.bool true)] [] := fun b sp hd => by
  rw [hrt]; exact trodAll_mk1 (shut_bool htb _)
 have no_vars : ∀ sp : Nat → Bool, DataW.TrodVars enc P W' sp s.vars ([] : List (DataW H)) [] := fun sp => by rw [hv]; rfl
 have hold : ∀ x ∈ p ++ [], (fun b => decide (b < W.heap.size)) x.block = true := fun x hx => by simpa using hlt x hx
 have e' : s.fn H (ds ++ []) = { results := [.lit (.bool true)], args := ds } := by rw [List.append_nil]; exact e
 refine ⟨ds, [], p ++ [], [], p, [], hW', ?_, ?_, ?_, World.keptBut_mono (fun x hx => ⟨hx, ?_⟩) (hb.frame (· ∈ p ++ [])), fun _ => ?_⟩
 ·rw [e']; exact res_read _ _ _
 ·rw [e']; exact args_read _ hold
 ·rw [e']; exact no_vars _
 ·exact Or.inr (by simpa using hx)
 ·refine ⟨ok_one hrt rfl (okWide_bool_mk htb _), _, _, ([] ++ p) ++ [], ⟨[] ++ p, [], trodAll_append (args_read _ (fun _ _ => rfl)) (res_read _ _ _), no_vars _, rfl, fun b off hx => ?_, fun ha => by simpa using hnd ha⟩, fun x hx _ => by simpa using hx⟩
  have hin : MemPlace.cell b off ∈ p ++ [] := by simpa using hx
  rw [hb.frozen (hlt _ hin)]
  exact hfz b off hin
end
end Go.Proofs.YtmdededhoibofaaGreat
namespace Go.Proofs.YtmdededhoibofaaGreat
open Go.ChangeShapes Go.WideShapes Go.ChangeAt Go.RowKit Go.Joins
section
variable {H : Type} {enc : TypeId × Value → H} {P : Program} {W : World} {base : Nat} {t : TypeId} {v : Value} {d : DataW H} {ps : List MemPlace}
theorem cells_one {x : Value} (h : v.cells.toList = [x]) (hna : ∀ cs, v ≠ .agg cs) : v = x := by
 cases v <;> first | exact absurd rfl (hna _) | (simp [Value.cells] at h; exact h)
end
end Go.Proofs.YtmdededhoibofaaGreat
namespace Go.Proofs.YtmdededhoibofaaGreat
open Go.ChangeShapes Go.WideShapes Go.ChangeAt Go.RowKit Go.Joins
section
variable {H : Type} {enc : TypeId × Value → H} {P : Program} {W : World} {base : Nat} {t : TypeId} {v : Value} {d : DataW H} {ps : List MemPlace}
end
end Go.Proofs.YtmdededhoibofaaGreat
namespace Go.Proofs.YtmdededhoibofaaGreat
open Go.ChangeShapes Go.WideShapes Go.ChangeAt Go.RowKit Go.Joins
section
variable {H : Type} {enc : TypeId × Value → H} {P : Program} {W : World} {t : TypeId} {cs : List Value}
def Rdt (enc : TypeId × Value → H) (P : Program) (W : World) (t : TypeId) (cs : List Value) : Prop := ∃ n x, DataW.trod enc P W 0 (fun _ => true) true n t cs = some x
theorem Rdt.int {k : IntKind} (h : Rdt enc P W t cs) (ht : P.underlying t = some (.int k)) : ∃ z, cs = [.int k z] ∧ k.min ≤ z ∧ z ≤ k.max := by
 obtain ⟨n, x, h⟩ := h
 obtain ⟨z, e, -, hw⟩ := DataW.trod_int ht h
 simp only [Lit.wf, Bool.and_eq_true, decide_eq_true_eq] at hw
 exact ⟨z, e, hw⟩
theorem Rdt.i64 (h : Rdt enc P W t cs) (ht : P.underlying t = some (.int .i64)) : ∃ z, cs = [.int .i64 z] ∧ -9223372036854775808 ≤ z ∧ z ≤ 9223372036854775807 := by
 obtain ⟨z, e, h1, h2⟩ := h.int ht
 have e1 : IntKind.i64.min = -9223372036854775808 := rfl
 have e2 : IntKind.i64.max = 9223372036854775807 := rfl
 exact ⟨z, e, by omega, by omega⟩
theorem Rdt.u8 (h : Rdt enc P W t cs) (ht : P.underlying t = some (.int .u8)) : ∃ b : UInt8, cs = [.int .u8 (b.toNat : Int)] := by
 obtain ⟨z, e, h1, h2⟩ := h.int ht
 have e1 : IntKind.u8.min = 0 := rfl
 have e2 : IntKind.u8.max = 255 := rfl
 refine ⟨UInt8.ofNat z.toNat, ?_⟩
 rw [e]; simp; omega
theorem Rdt.bool (h : Rdt enc P W t cs) (ht : P.underlying t = some .bool) : ∃ b, cs = [.bool b] := by
 obtain ⟨n, x, h⟩ := h
 obtain ⟨b, e, -⟩ := DataW.trod_bool ht h
 exact ⟨b, e⟩
theorem Rdt.len_struct {fs : Array Field} (h : Rdt enc P W t cs) (ht : P.underlying t = some (.struct fs)) : cs.length = P.cellsOf t := by
 obtain ⟨n, x, h⟩ := h
 obtain ⟨xs, m, -, -, hl, -, -⟩ := DataW.trod_struct ht h
 exact hl
theorem Rdt.field {fs : Array Field} (h : Rdt enc P W t cs) (ht : P.underlying t = some (.struct fs)) (i : Nat) {f : Field} (hf : fs[i]? = some f) {k : Nat} (hk : P.cellsOf f.type = k) : Rdt enc P W f.type ((cs.drop f.offset).take k) := by
 obtain ⟨n, x, h⟩ := h
 obtain ⟨xs, m, -, -, hl, hlen, hx⟩ := DataW.trod_struct ht h
 have hlt : i < xs.length := by rw [hlen]; exact (Array.getElem?_eq_some_iff.1 hf).1
 subst hk
 exact ⟨m, xs[i], by rw [← List.getElem?_eq_getElem hlt]; exact hx i f hf⟩
theorem Rdt.len_array {m : Nat} {e : TypeId} (h : Rdt enc P W t cs) (ht : P.underlying t = some (.array m e)) : cs.length = P.cellsOf t := by
 obtain ⟨n, x, h⟩ := h
 obtain ⟨xs, m, -, -, hl, -, -⟩ := DataW.trod_array ht h
 exact hl
theorem Rdt.elem {m : Nat} {e : TypeId} (h : Rdt enc P W t cs) (ht : P.underlying t = some (.array m e)) {k : Nat} (hk : P.cellsOf e = k) (i : Nat) (hi : i < m) : Rdt enc P W e ((cs.drop (i * k)).take k) := by
 obtain ⟨n, x, h⟩ := h
 obtain ⟨xs, q, -, -, hl, hlen, hx⟩ := DataW.trod_array ht h
 have hlt : i < xs.length := by rw [hlen]; exact hi
 subst hk
 exact ⟨q, xs[i], by rw [← List.getElem?_eq_getElem hlt]; exact hx i hi⟩
theorem list_of {α : Type} {Q : Nat → α → Prop} : ∀ (n : Nat), (∀ i, i < n → ∃ a, Q i a) → ∃ xs : List α, xs.length = n ∧ ∀ i a, xs[i]? = some a → Q i a
 | 0, _ => ⟨[], rfl, fun i a h => by simp at h⟩
 | n + 1, h => by
   obtain ⟨xs, hl, hx⟩ := list_of n (fun i hi => h i (by omega))
   obtain ⟨a, ha⟩ := h n (by omega)
   refine ⟨xs ++ [a], by simp [hl], fun i b hb => ?_⟩
   rcases Nat.lt_or_ge i n with hi | hi
   ·rw [List.getElem?_append_left (by omega)] at hb; exact hx i b hb
   ·rw [List.getElem?_append_right (by omega)] at hb
    have : i - xs.length = 0 := by
     rcases Nat.eq_zero_or_pos (i - xs.length) with h0 | h0
     ·exact h0
     ·rw [List.getElem?_eq_none (by simp; omega)] at hb; cases hb
    rw [this] at hb
    obtain rfl : a = b := by simpa using hb
    obtain rfl : i = n := by omega
    exact ha
theorem addr_add2 (ad : Addr) (m j : Nat) : (ad.add m).add j = ad.add (m + j) := by
 unfold Addr.add
 by_cases h1 : m = 0
 ·subst h1; simp
 ·by_cases h2 : j = 0
  ·subst h2; simp
  ·simp [h1, h2, Nat.add_assoc]
theorem flat_get {sz : Nat} : ∀ (l : List (List Value)) (i j : Nat) (r : List Value), (∀ r ∈ l, r.length = sz) → l[i]? = some r → j < sz → l.flatten[i * sz + j]? = r[j]?
 | [], i, j, r, _, h, _ => by simp at h
 | x :: l, 0, j, r, hl, h, hj => by
   obtain rfl : x = r := by simpa using h
   have := hl x (by simp)
   rw [Nat.zero_mul, Nat.zero_add, List.flatten_cons, List.getElem?_append_left (by omega)]
 | x :: l, i + 1, j, r, hl, h, hj => by
   have hx := hl x (by simp)
   have := flat_get l i j r (fun q hq => hl q (by simp [hq])) (by simpa using h) hj
   rw [List.flatten_cons, List.getElem?_append_right (by rw [hx, Nat.succ_mul]; omega), ← this, hx]
   congr 1; rw [Nat.succ_mul]; omega
theorem flat_len {sz : Nat} : ∀ (l : List (List Value)), (∀ r ∈ l, r.length = sz) → l.flatten.length = l.length * sz
 | [], _ => by simp
 | x :: l, hl => by rw [List.flatten_cons, List.length_append, flat_len l (fun q hq => hl q (by simp [hq])), hl x (by simp), List.length_cons, Nat.succ_mul]; omega
theorem Rdt.rows {α : Type} {Φ : α → List Value → Prop} {e sz : Nat} (h : Rdt enc P W t cs) (ht : P.underlying t = some (.slice e)) (hc : P.cellsOf e = sz) (hsz : 0 < sz) (hl : ∀ a cs, Φ a cs → cs.length = sz) (he : ∀ cs, Rdt enc P W e cs → ∃ a, Φ a cs) :
 ∃ u css, ∃ xs : List α, cs = [u] ∧ Rd 0 W.heap.size W sz u xs.length css ∧ ∀ i a, xs[i]? = some a → Φ a ((css.drop (i * sz)).take sz) := by
 obtain ⟨n, x, h⟩ := h
 rcases DataW.trod_slice ht h with ⟨rfl, -⟩ | ⟨ad, len, cap, elems, rest, m, -, rfl, -, -, hlc, hcm, hlen, hel, -, -⟩
 ·exact ⟨_, [], [], rfl, Rd.nil _ _ _ _, fun i a h => by simp at h⟩
 ·have each : ∀ i, i < len → ∃ q : α × List Value, W.cells? 0 (ad.add (i * sz)) sz = some q.2 ∧ Φ q.1 q.2 := fun i hi => by
   have h1 := hel i hi
   rw [hc, List.getElem?_eq_getElem (by omega)] at h1
   obtain ⟨r, h2, h3⟩ := Option.bind_eq_some_iff.1 h1
   obtain ⟨a, ha⟩ := he r ⟨m, _, h3⟩
   exact ⟨(a, r), h2, ha⟩
  obtain ⟨qs, hql, hq⟩ := list_of len each
  have hrl : ∀ r ∈ qs.map (·.2), r.length = sz := fun r hr => by
   obtain ⟨q, hq1, rfl⟩ := List.mem_map.1 hr
   obtain ⟨i, hi⟩ := List.getElem?_of_mem hq1
   exact hl _ _ (hq i q hi).2
  have hcell : ∀ i j (r : List Value), (qs.map (·.2))[i]? = some r → j < sz → W.cell? (ad.add (i * sz + j)) = r[j]? := fun i j r hr hj => by
   rw [List.getElem?_map, Option.map_eq_some_iff] at hr
   obtain ⟨q, hq1, rfl⟩ := hr
   obtain ⟨-, h2, h3⟩ := World.cells?_some (hq i q hq1).1
   have := h3 j hj
   rw [← this, addr_add2]
  have hfl := flat_len (qs.map (·.2)) hrl
  rw [List.length_map, hql] at hfl
  have hsp : 0 < len → ad.spot = none ∧ ad.block < W.heap.size := fun h0 => by
   obtain ⟨q, hq0⟩ : ∃ q, qs[0]? = some q := ⟨_, List.getElem?_eq_getElem (by omega)⟩
   have hr0 : (qs.map (·.2))[0]? = some q.2 := by simp [hq0]
   have h1 := hcell 0 0 q.2 hr0 hsz
   have hq2 := hrl q.2 (List.mem_of_getElem? hr0)
   rw [Nat.zero_mul, Nat.add_zero, show ad.add 0 = ad from rfl, List.getElem?_eq_getElem (by omega)] at h1
   refine ⟨?_, block_lt_of_cell h1⟩
   unfold World.cell? at h1
   split at h1
   ·split at h1
    ·cases h1
    ·rename_i hs; simpa using hs
   ·cases h1
  refine ⟨_, (qs.map (·.2)).flatten, qs.map (·.1), rfl, ?_, fun i a ha => ?_⟩
  ·rw [List.length_map, hql]
   refine ⟨hfl, by omega, .inr ⟨ad, cap, rfl, hlc, hcm, fun j hj => ?_, fun h0 => ⟨(hsp h0).1, Nat.zero_le _, (hsp h0).2⟩⟩⟩
   rw [hfl] at hj
   have hlen0 : 0 < len := by rcases Nat.eq_zero_or_pos len with h | h; · rw [h] at hj; simp at hj
                              ·exact h
   have hi : j / sz < len := Nat.div_lt_of_lt_mul (by rw [Nat.mul_comm]; exact hj)
   have hm := Nat.mod_lt j hsz
   have ej : j = j / sz * sz + j % sz := by rw [Nat.mul_comm]; exact (Nat.div_add_mod j sz).symm
   obtain ⟨q, hq1⟩ : ∃ q, qs[j / sz]? = some q := ⟨_, List.getElem?_eq_getElem (by omega)⟩
   have hr1 : (qs.map (·.2))[j / sz]? = some q.2 := by simp [hq1]
   have h1 := hcell (j / sz) (j % sz) q.2 hr1 hm
   have h2 := flat_get _ (j / sz) (j % sz) q.2 hrl hr1 hm
   rw [← ej] at h1 h2
   rw [h2, ← h1]
   obtain ⟨b, o, sp⟩ := ad
   have : sp = none := (hsp hlen0).1
   subst this
   rw [addr_add]
  ·rw [List.getElem?_map, Option.map_eq_some_iff] at ha
   obtain ⟨q, hq1, rfl⟩ := ha
   have hr1 : (qs.map (·.2))[i]? = some q.2 := by simp [hq1]
   have hq2 := hrl q.2 (List.mem_of_getElem? hr1)
   have : ((qs.map (·.2)).flatten.drop (i * sz)).take sz = q.2 := by
    apply List.ext_getElem?
    intro j
    rcases Nat.lt_or_ge j sz with hj | hj
    ·rw [List.getElem?_take_of_lt hj, List.getElem?_drop, flat_get _ i j q.2 hrl hr1 hj]
    ·rw [List.getElem?_eq_none (by simp; omega), List.getElem?_eq_none (by omega)]
   rw [this]
   exact (hq i q hq1).2
theorem rows_flat {α : Type} {f : α → List Value} {sz : Nat} : ∀ (xs : List α) (css : List Value), css.length = xs.length * sz → (∀ a, (f a).length = sz) → (∀ i a, xs[i]? = some a → (css.drop (i * sz)).take sz = f a) → css = xs.flatMap f
 | [], css, hl, _, _ => by simpa using List.eq_nil_of_length_eq_zero (by simpa using hl)
 | x :: xs, css, hl, hf, h => by
   have h0 := h 0 x rfl
   rw [Nat.zero_mul, List.drop_zero] at h0
   have hr := rows_flat xs (css.drop sz) (by rw [List.length_drop, hl, List.length_cons, Nat.succ_mul]; omega) hf (fun i a hi => by
    have := h (i + 1) a (by simpa using hi)
    rw [List.drop_drop, ← this]; congr 2; rw [Nat.succ_mul]; omega)
   rw [List.flatMap_cons, ← h0, ← hr, List.take_append_drop]
theorem Rdt.flat {α : Type} {f : α → List Value} {e sz : Nat} (h : Rdt enc P W t cs) (ht : P.underlying t = some (.slice e)) (hc : P.cellsOf e = sz) (hsz : 0 < sz) (hl : ∀ a, (f a).length = sz) (he : ∀ cs, Rdt enc P W e cs → ∃ a, cs = f a) :
 ∃ u, ∃ xs : List α, cs = [u] ∧ Rd 0 W.heap.size W sz u xs.length (xs.flatMap f) := by
 obtain ⟨u, css, xs, rfl, hR, hx⟩ := h.rows (Φ := fun a cs => cs = f a) ht hc hsz (fun a cs h => by rw [h]; exact hl a) he
 rw [rows_flat xs css hR.1 hl hx] at hR
 exact ⟨u, xs, rfl, hR⟩
theorem rdt_slice {e : TypeId} {base : Nat} {v : Value} {d : DataW H} {ps : List MemPlace} (ht : P.underlying t = some (.slice e)) (hv : Value.okWide P W .any base t v) (h : DataW.Trod enc P W 0 (fun _ => true) true t v d ps) : ∃ cs : List Value, Rdt enc P W t cs ∧ ∀ u, cs = [u] → v = u := by
 obtain ⟨fuel, h⟩ := h
 refine ⟨_, ⟨fuel, _, h⟩, fun u hu => ?_⟩
 unfold Value.okWide at hv
 simp only [ht] at hv
 have hv' : Cell.okWide P W .any base t v := hv
 have hna : ∀ cs, v ≠ .agg cs := fun cs hc => by subst hc; simp [Cell.okWide, Cell.ok, ht] at hv'
 exact cells_one hu hna
end
end Go.Proofs.YtmdededhoibofaaGreat

namespace Go.Proofs.YtmdededhoibofaaGreat
open Go.ChangeShapes Go.WideShapes Go.ChangeAt Go.RowKit Go.Joins
section
variable {H : Type} {enc : TypeId × Value → H} {W : World} {cs : List Value}
end
end Go.Proofs.YtmdededhoibofaaGreat

namespace Go.Proofs.YtmdededhoibofaaGreat
open Go.ChangeShapes Go.WideShapes Go.ChangeAt Go.RowKit Go.Joins
section
variable {H : Type} {enc : TypeId × Value → H} {W : World} {cs : List Value}
theorem rdt_kept (h : Rdt enc Tryz.prog W 57 cs) : ∃ pa pc plan, cs = [.slice pa plan.length pc] ∧ Rd 0 W.heap.size W 2 (.slice pa plan.length pc) plan.length (kcells plan) := by
 obtain ⟨u, plan, e, hR⟩ := h.flat (f := kcellsL) (sz := 2) Tryz.underlying57 (by kernel_rfl) (by omega) (fun _ => rfl) (fun cs h => by
  have hl := h.len_struct Tryz.underlying141
  rw [show Tryz.prog.cellsOf 141 = 2 by kernel_rfl] at hl
  match cs, hl with
  | [c0, c1], _ =>
    have k1 : Tryz.prog.cellsOf 3 = 1 := by kernel_rfl
    obtain ⟨z0, e0, -⟩ := (show Rdt enc Tryz.prog W 3 [c0] from h.field Tryz.underlying141 0 rfl k1).i64 Tryz.underlying3
    obtain ⟨z1, e1, -⟩ := (show Rdt enc Tryz.prog W 3 [c1] from h.field Tryz.underlying141 1 rfl k1).i64 Tryz.underlying3
    cases e0; cases e1
    exact ⟨(z0, z1), rfl⟩)
 obtain ⟨va, vc, rfl, -, -⟩ := hR.form
 exact ⟨va, vc, plan, e, hR⟩
end
end Go.Proofs.YtmdededhoibofaaGreat

namespace Go.Proofs.YtmdededhoibofaaGreat
open Go.ChangeShapes Go.WideShapes Go.ChangeAt Go.RowKit Go.Joins
section
variable {H : Type} {enc : TypeId × Value → H} {W : World} {cs : List Value}
theorem rdt_nm (h : Rdt enc Tryz.prog W 24 cs) : ∃ n : Nm, cs = n.cells.toList := by
 have hl := h.len_struct Tryz.underlying24
 rw [show Tryz.prog.cellsOf 24 = 3 by kernel_rfl] at hl
 match cs, hl with
 | [c0, c1, c2], _ =>
   have k1 : Tryz.prog.cellsOf 3 = 1 := by kernel_rfl
   obtain ⟨z0, e0, -⟩ := (show Rdt enc Tryz.prog W 3 [c0] from h.field Tryz.underlying24 0 rfl k1).i64 Tryz.underlying3
   obtain ⟨z1, e1, -⟩ := (show Rdt enc Tryz.prog W 3 [c1] from h.field Tryz.underlying24 1 rfl k1).i64 Tryz.underlying3
   obtain ⟨z2, e2, -⟩ := (show Rdt enc Tryz.prog W 3 [c2] from h.field Tryz.underlying24 2 rfl k1).i64 Tryz.underlying3
   cases e0; cases e1; cases e2
   exact ⟨⟨z0, z1, z2⟩, rfl⟩
theorem rdt_v8 (h : Rdt enc Tryz.prog W 144 cs) : ∃ v : V8, cs = v.cellsL := by
 have hl := h.len_array Tryz.underlying144
 rw [show Tryz.prog.cellsOf 144 = 8 by kernel_rfl] at hl
 match cs, hl with
 | [c0, c1, c2, c3, c4, c5, c6, c7], _ =>
   have k1 : Tryz.prog.cellsOf 5 = 1 := by kernel_rfl
   obtain ⟨z0, e0⟩ := (show Rdt enc Tryz.prog W 5 [c0] from h.elem Tryz.underlying144 k1 0 (by omega)).u8 Tryz.underlying5
   obtain ⟨z1, e1⟩ := (show Rdt enc Tryz.prog W 5 [c1] from h.elem Tryz.underlying144 k1 1 (by omega)).u8 Tryz.underlying5
   obtain ⟨z2, e2⟩ := (show Rdt enc Tryz.prog W 5 [c2] from h.elem Tryz.underlying144 k1 2 (by omega)).u8 Tryz.underlying5
   obtain ⟨z3, e3⟩ := (show Rdt enc Tryz.prog W 5 [c3] from h.elem Tryz.underlying144 k1 3 (by omega)).u8 Tryz.underlying5
   obtain ⟨z4, e4⟩ := (show Rdt enc Tryz.prog W 5 [c4] from h.elem Tryz.underlying144 k1 4 (by omega)).u8 Tryz.underlying5
   obtain ⟨z5, e5⟩ := (show Rdt enc Tryz.prog W 5 [c5] from h.elem Tryz.underlying144 k1 5 (by omega)).u8 Tryz.underlying5
   obtain ⟨z6, e6⟩ := (show Rdt enc Tryz.prog W 5 [c6] from h.elem Tryz.underlying144 k1 6 (by omega)).u8 Tryz.underlying5
   obtain ⟨z7, e7⟩ := (show Rdt enc Tryz.prog W 5 [c7] from h.elem Tryz.underlying144 k1 7 (by omega)).u8 Tryz.underlying5
   cases e0; cases e1; cases e2; cases e3; cases e4; cases e5; cases e6; cases e7
   exact ⟨⟨z0, z1, z2, z3, z4, z5, z6, z7⟩, rfl⟩
theorem rdt_wr (h : Rdt enc Tryz.prog W 146 cs) : ∃ x : Wr, cs = x.cellsL := by
 have hl := h.len_struct Tryz.underlying146
 rw [show Tryz.prog.cellsOf 146 = 9 by kernel_rfl] at hl
 match cs, hl with
 | [c0, c1, c2, c3, c4, c5, c6, c7, c8], _ =>
   obtain ⟨z0, e0, -⟩ := (show Rdt enc Tryz.prog W 3 [c0] from h.field Tryz.underlying146 0 rfl (k := 1) (by kernel_rfl)).i64 Tryz.underlying3
   obtain ⟨v, e1⟩ := rdt_v8 (show Rdt enc Tryz.prog W 144 [c1, c2, c3, c4, c5, c6, c7, c8] from h.field Tryz.underlying146 1 rfl (k := 8) (by kernel_rfl))
   cases e0
   exact ⟨⟨z0, v⟩, by rw [e1]⟩
theorem rdt_ws {t : TypeId} (h : Rdt enc Tryz.prog W t cs) (ht : Tryz.prog.underlying t = some (.slice 146)) : ∃ u x, cs = [u] ∧ Ws 0 W.heap.size W u x :=
 h.flat (f := Wr.cellsL) ht (by kernel_rfl) (by omega) (fun _ => rfl) (fun _ h => rdt_wr h)
theorem rdt_rec (h : Rdt enc Tryz.prog W 29 cs) : ∃ (r : Rc) (v : Value) (x : List Wr), cs = (r.cells v).toList ∧ Ws 0 W.heap.size W v x ∧ (-128 ≤ r.kind ∧ r.kind ≤ 127) ∧ r.shards ≤ 9223372036854775807 := by
 have hl := h.len_struct Tryz.underlying29
 rw [show Tryz.prog.cellsOf 29 = 12 by kernel_rfl] at hl
 match cs, hl with
 | [c0, c1, c2, c3, c4, c5, c6, c7, c8, c9, c10, c11], _ =>
   have k1 : Tryz.prog.cellsOf 3 = 1 := by kernel_rfl
   obtain ⟨z0, e0, hz0⟩ := (show Rdt enc Tryz.prog W 22 [c0] from h.field Tryz.underlying29 0 rfl (k := 1) (by kernel_rfl)).int Tryz.underlying22
   obtain ⟨n, e1⟩ := rdt_nm (show Rdt enc Tryz.prog W 24 [c1, c2, c3] from h.field Tryz.underlying29 1 rfl (k := 3) (by kernel_rfl))
   obtain ⟨y, e4⟩ := (show Rdt enc Tryz.prog W 4 [c4] from h.field Tryz.underlying29 2 rfl (k := 1) (by kernel_rfl)).bool Tryz.underlying4
   obtain ⟨u, x, e5, hw⟩ := rdt_ws (show Rdt enc Tryz.prog W 25 [c5] from h.field Tryz.underlying29 3 rfl (k := 1) (by kernel_rfl)) Tryz.underlying25
   obtain ⟨z6, e6, -⟩ := (show Rdt enc Tryz.prog W 3 [c6] from h.field Tryz.underlying29 4 rfl k1).i64 Tryz.underlying3
   obtain ⟨z7, e7, -⟩ := (show Rdt enc Tryz.prog W 3 [c7] from h.field Tryz.underlying29 5 rfl k1).i64 Tryz.underlying3
   obtain ⟨z8, e8, hz8⟩ := (show Rdt enc Tryz.prog W 3 [c8] from h.field Tryz.underlying29 6 rfl k1).i64 Tryz.underlying3
   have hc := (show Rdt enc Tryz.prog W 27 [c9, c10] from h.field Tryz.underlying29 7 rfl (k := 2) (by kernel_rfl))
   obtain ⟨z9, e9, -⟩ := (show Rdt enc Tryz.prog W 3 [c9] from hc.field Tryz.underlying27 0 rfl k1).i64 Tryz.underlying3
   obtain ⟨z10, e10, -⟩ := (show Rdt enc Tryz.prog W 3 [c10] from hc.field Tryz.underlying27 1 rfl k1).i64 Tryz.underlying3
   obtain ⟨z11, e11, -⟩ := (show Rdt enc Tryz.prog W 3 [c11] from h.field Tryz.underlying29 8 rfl k1).i64 Tryz.underlying3
   have e1' : c1 = .int .i64 n.stamp ∧ c2 = .int .i64 n.inc ∧ c3 = .int .i64 n.try_ := by simpa using e1
   obtain ⟨rfl, rfl, rfl⟩ := e1'
   cases e0; cases e4; cases e5; cases e6; cases e7; cases e8; cases e9; cases e10; cases e11
   have m1 : IntKind.i8.min = -128 := rfl
   have m2 : IntKind.i8.max = 127 := rfl
   exact ⟨⟨z0, n, y, z6, z7, z8, z9, z10, z11⟩, c5, x, rfl, hw, by simp only; omega, hz8.2⟩
end
end Go.Proofs.YtmdededhoibofaaGreat

namespace Go.Proofs.YtmdededhoibofaaGreat
open Go.ChangeShapes Go.WideShapes Go.ChangeAt Go.RowKit Go.Joins
section
variable {H : Type} {enc : TypeId × Value → H} {W : World} {cs : List Value}
theorem rdt_bytesL (h : Rdt enc Tryz.prog W 58 cs) : ∃ u bs, cs = [u] ∧ Bs 0 W.heap.size W u bs := by
 obtain ⟨u, bs, e, hR⟩ := h.flat (f := fun b : UInt8 => [Value.int .u8 (b.toNat : Int)]) (sz := 1) Tryz.underlying58 (by kernel_rfl) (by omega) (fun _ => rfl) (fun cs h => h.u8 Tryz.underlying5)
 have hb : bs.flatMap (fun b => [Value.int .u8 (b.toNat : Int)]) = bcells bs := by
  clear hR
  induction bs with
  | nil => rfl
  | cons z zs ih => rw [List.flatMap_cons, ih]; rfl
 rw [hb] at hR
 exact ⟨u, bs, e, hR⟩
theorem rdt_act20 (h : Rdt enc Tryz.prog W 60 cs) : ∃ (q : Act20) (wv pv bv : Value), cs = q.cellsL wv pv bv ∧ q.r.shards ≤ 9223372036854775807 ∧ Ws 0 W.heap.size W wv q.x ∧ Rd 0 W.heap.size W 2 pv q.plan.length (kcells q.plan) ∧ Bs 0 W.heap.size W bv q.bs := by
 have hl := h.len_struct Tryz.underlying60
 rw [show Tryz.prog.cellsOf 60 = 16 by kernel_rfl] at hl
 match cs, hl with
 | [c0, c1, c2, c3, c4, c5, c6, c7, c8, c9, c10, c11, c12, c13, c14, c15], _ =>
   have k1 : Tryz.prog.cellsOf 3 = 1 := by kernel_rfl
   obtain ⟨z0, e0, -⟩ := (show Rdt enc Tryz.prog W 3 [c0] from h.field Tryz.underlying60 0 rfl k1).i64 Tryz.underlying3
   obtain ⟨r, v, x, e1, hw, -, hs⟩ := rdt_rec (show Rdt enc Tryz.prog W 29 [c1, c2, c3, c4, c5, c6, c7, c8, c9, c10, c11, c12] from h.field Tryz.underlying60 1 rfl (k := 12) (by kernel_rfl))
   obtain ⟨z13, e13, -⟩ := (show Rdt enc Tryz.prog W 3 [c13] from h.field Tryz.underlying60 2 rfl k1).i64 Tryz.underlying3
   obtain ⟨pa, pc, plan, e14, hP⟩ := rdt_kept (show Rdt enc Tryz.prog W 57 [c14] from h.field Tryz.underlying60 3 rfl (k := 1) (by kernel_rfl))
   obtain ⟨u, bs, e15, hB⟩ := rdt_bytesL (show Rdt enc Tryz.prog W 58 [c15] from h.field Tryz.underlying60 4 rfl (k := 1) (by kernel_rfl))
   cases e0; cases e13; cases e14; cases e15
   refine ⟨⟨z0, r, x, z13, plan, bs⟩, v, .slice pa plan.length pc, c15, ?_, hs, hw, hP, hB⟩
   have e1' : [c1, c2, c3, c4, c5, c6, c7, c8, c9, c10, c11, c12] = (r.cells v).toList := e1
   show .int .i64 z0 :: ([c1, c2, c3, c4, c5, c6, c7, c8, c9, c10, c11, c12] ++ [.int .i64 z13, .slice pa plan.length pc, c15]) = _
   rw [e1']; rfl
theorem rdt_acts20 {t : TypeId} (h : Rdt enc Tryz.prog W t cs) (ht : Tryz.prog.underlying t = some (.slice 60)) : ∃ va vc css l, cs = [.slice va l.length vc] ∧ RowT css 0 W.heap.size W (.slice va l.length vc) l := by
 obtain ⟨u, css, xs, e, hR, hx⟩ := h.rows (α := Act20) (Φ := fun q cs => ∃ wv pv bv, cs = q.cellsL wv pv bv ∧ q.r.shards ≤ 9223372036854775807 ∧ Ws 0 W.heap.size W wv q.x ∧ Rd 0 W.heap.size W 2 pv q.plan.length (kcells q.plan) ∧ Bs 0 W.heap.size W bv q.bs) (sz := 16) ht (by kernel_rfl) (by omega) (fun q cs ⟨wv, pv, bv, e, _⟩ => by rw [e]; rfl) (fun cs h => rdt_act20 h)
 obtain ⟨va, vc, rfl, -, -⟩ := hR.form
 refine ⟨va, vc, css, xs, e, hR, fun i q hq => ?_⟩
 obtain ⟨wv, pv, bv, e1, hs, hW, hP, hB⟩ := hx i q hq
 obtain ⟨wa, wc, rfl, -, -⟩ := hW.form
 obtain ⟨pa, pc, rfl, -, -⟩ := hP.form
 obtain ⟨ba, bc, rfl, -, -⟩ := hB.form
 exact ⟨hs, wa, wc, pa, pc, ba, bc, e1, hW, hP, hB⟩
end
end Go.Proofs.YtmdededhoibofaaGreat

