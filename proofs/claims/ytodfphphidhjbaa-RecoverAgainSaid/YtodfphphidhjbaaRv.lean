/-
  Packages overlay, recover: is, On, alone, Find.
-/
import Derived.Test.YtodfphphidhjbaaOv
import Derived.Test.YtodfphphidhjbaaClw
import Derived.Test.YtodfphphidhjbaaEql
import Derived.Test.YtodfphphidhjbaaGX
import Derived.Test.YtodfphphidhjbaaRa
namespace Go.Proofs.Ytodfphphidhjbaa
open Go.RowKit Go.Sort

theorem is_any (k : Int) (w : World) : Calls Try.prog 34 #[.int .i64 k] w fun e w' => e = .returned (.bool (decide (blkIs k))) ∧ Below w.heap.size w w' := by
  have M := Mem.start w
  refine calls_enter Try.func34 rfl 9 rfl rfl ?_; intro a S
  refine nxD ?_
  refine st_go [1] S rfl (by kernel_rfl) ?_; clear S a; intro a S
  refine nxA ?_
  refine st_go [1, 1, 1] S rfl (by kernel_rfl) ?_; clear S a; intro a S
  refine st_if (t := 5) S rfl ?_ ?_
  · clear S; intro h5 S
    refine st_go [1, 1, 1, 1] S rfl (by kernel_rfl) ?_; clear S a; intro a S
    refine nxC ?_
    refine wp_ret ?_
    refine end_one S rfl (res_tmp rfl) ?_
    refine ⟨ret_bool ?_, M.below⟩; show _ = decide (0 ≤ k ∧ k < 32); rw [Bool.eq_iff_iff]; (first | (simp; done) | (simp; omega))
  clear S; intro h5 S
  refine st_go [0, 0, 1, 1] S rfl (by kernel_rfl) ?_; clear S a; intro a S
  refine nxC ?_
  refine wp_ret ?_
  refine end_one S rfl (res_tmp rfl) ?_
  refine ⟨ret_bool ?_, M.below⟩; show _ = decide (0 ≤ k ∧ k < 32); rw [Bool.eq_iff_iff]; (first | (simp; done) | (simp; omega))
def zHome : List Value := hcells (List.replicate 32 zV8)
theorem zHome_len : zHome.length = 256 := by unfold zHome; rw [hcells_length]; rfl
theorem on_any (home : List V8) (v : Value) (ws : List Wr) (w : World) (hh : home.length = 32) (hv : Ws 0 w.heap.size w v ws) : Calls Try.prog 16 #[.agg (hcells home).toArray, v] w fun e w' => e = .returned (.agg (hcells (onF home ws)).toArray) ∧ Below w.heap.size w w' := by
  have M := Mem.start w
  have hl := hv.2.1
  have hh1 : (hcells home).length = 256 := by rw [hcells_length, hh]
  have hh2 : ∀ x, (hcells (onF home x)).length = 256 := fun x => by rw [hcells_length, onF_length, hh]
  unfold maxLen at hl
  refine calls_enter Try.func16 rfl 23 rfl rfl ?_; intro a S
  refine nxD ?_
  refine st_box S M rfl rfl rfl _ rfl ?_; clear S M a; intro a w1 bF S M hB
  refine st_alloc S M rfl rfl (zHome).toArray (by kernel_rfl) ?_; clear S M a; intro a w2 bR S M hB
  refine nxC ?_
  refine wp_seq ?_
  refine nxD ?_
  refine st_go [1] S rfl (by kernel_rfl) ?_; clear S a; intro a S
  refine st_y S rfl rfl rfl (y_lenR (E := 49) S rfl (M.arg hv) (by kernel_rfl)) ?_; clear S a; intro a S
  refine st_go [1] S rfl (by kernel_rfl) ?_; clear S a; intro a S
  refine nxC ?_
  refine wp_block ?_
  refine wp_loop_g (fun m a w' => ∃ (k : Nat), k ≤ ws.length ∧ m = ws.length - k ∧ Sees 23 a [(2, .pointer (some ⟨bF, 0, none⟩)), (4, .pointer (some ⟨bR, 0, none⟩)), (7, v), (8, .int .i64 (ws.length : Int)), (9, .int .i64 (k : Int))] ∧ Mem w w' [.blk bR zHome.toArray 24, .blk bF (hcells (onF home (ws.take k))).toArray 24]) (ws.length) ?_ ?_
  · skip
    exact ⟨0, Nat.zero_le _, rfl, S.sub _ rfl, M⟩
  clear S M a; intro m a wl
  rintro ⟨k, hk, rfl, S, M⟩
  refine nxD ?_
  refine st_go [1] S rfl (by kernel_rfl) ?_; clear S a; intro a S
  refine nxC ?_
  refine wp_seq ?_
  refine st_fi (t := 10) S rfl ?_ ?_
  · clear S; intro h10 S
    refine st_condF S rfl ?_
    refine wp_exit ?_
    refine then_exit ?_
    refine then_exit ?_
    refine block_hit ?_
    refine nxE ?_
    refine st_y S rfl rfl rfl (y_loadAgg (k := 256) (cs := _) S (by kernel_rfl) rfl (by first | exact hh1 | exact hh2 _ | exact zHome_len) (M.cellsAt 1 rfl cutL_all)) ?_; clear S a; intro a S
    refine st_storeAll (sz := 256) S M 0 rfl (by kernel_rfl) rfl rfl (by first | exact hh1 | exact hh2 _ | exact zHome_len) (by exact allOne_hcells _) rfl (by first | exact hh1 | exact hh2 _ | exact zHome_len) ?_; clear M; intro w7 M
    simp only [List.set_cons_zero, List.set_cons_succ] at M
    refine nxC ?_
    refine wp_ret ?_
    refine end_one S rfl (res_agg (k := 256) (cs := _) (by kernel_rfl) rfl (by first | exact hh1 | exact hh2 _ | exact zHome_len) (M.cellsAt 0 rfl cutL_all)) ?_
    obtain rfl : k = ws.length := by omega
    exact ⟨by rw [List.take_length], M.below⟩
  clear S; intro h10 S
  refine st_condT S rfl ?_
  refine wp_skip ?_
  refine then_normal ?_
  refine wp_seq ?_
  refine wp_block ?_
  refine nxD ?_
  have hk' : k < ws.length := by omega
  obtain ⟨x, hx⟩ : ∃ x, ws[k]? = some x := ⟨_, List.getElem?_eq_getElem hk'⟩
  refine st_y S rfl rfl rfl (y_indexR (e := 49) (sz := 9) S (by kernel_rfl) rfl ((M.arg hv)) rfl (by first | omega | (simp; done) | (simp; omega))) ?_; clear S a; intro a S
  try simp only [Int.toNat_natCast, Nat.mul_one, Nat.zero_add] at S
  refine st_y S rfl rfl rfl (y_loadAgg S (by kernel_rfl) rfl rfl ((M.arg hv).at_.row (i := k) (wcells_get hx) rfl)) ?_; clear S a; intro a S
  refine st_alloc S M rfl rfl #[.int .i64 0, .int .u8 0, .int .u8 0, .int .u8 0, .int .u8 0, .int .u8 0, .int .u8 0, .int .u8 0, .int .u8 0] (by kernel_rfl) ?_; clear S M a; intro a w3 bW S M hB
  refine st_store (sz := 9) (us := [_, _, _, _, _, _, _, _, _]) S M 0 rfl (by kernel_rfl) rfl rfl rfl rfl rfl rfl (by first | decide | (simp; done) | (simp; omega)) ?_; clear M; intro w4 M
  simp only [putL, List.set_cons_zero, List.set_cons_succ, Nat.reduceAdd] at M
  refine nxA ?_
  refine st_run [1, 1] S M rfl (by kernel_rfl) ?_; clear S a; intro a S
  refine st_call (xs := [(Operand.tmp 14)]) S (enters_of Try.func34 (by decide) rfl) rfl rfl rfl (is_any _ _) ?_
  rintro _ w5 ⟨rfl, hK⟩; refine ⟨_, rfl, ?_⟩; clear S a; intro a S; replace M := M.grow hK
  refine nxC ?_
  refine st_fi (t := 15) S rfl ?_ ?_
  · clear S; intro h15 S
    refine st_condF S rfl ?_
    refine wp_skip ?_
    refine block_normal ?_
    refine nxF ?_
    (first | refine st_y S rfl rfl rfl (y_addN S rfl rfl (by omega)) ?_ | refine st_y S rfl rfl rfl (y_int S rfl rfl rfl) ?_); clear S a; intro a S
    refine st_go [1] S rfl (by kernel_rfl) ?_; clear S a; intro a S
    refine nxC ?_
    replace M := M.drop 0
    simp only [List.eraseIdx_cons_succ, List.eraseIdx_cons_zero] at M
    refine ⟨ws.length - (k + 1), by omega, k + 1, by omega, rfl, S.sub _ rfl, ?_⟩
    rw [onF_succ hx]; unfold on1
    first
      | (rw [if_pos hin, ← hcells_set (by rw [onF_length]; omega)]; exact M)
      | (rw [if_neg (by simpa using h15)]; exact M)
  clear S; intro h15 S
  refine st_condT S rfl ?_
  have hin : blkIs x.block := by simpa using h15
  have hin' : 0 ≤ x.block ∧ x.block < 32 := hin
  refine wp_region_lit ?_
  refine st_run [1, 1, 2] S M rfl (by kernel_rfl) ?_; clear S a; intro a S
  refine st_y S rfl rfl rfl (y_loadAgg (cs := [_, _, _, _, _, _, _, _]) S (by kernel_rfl) rfl rfl (M.cellsAt (k := 8) 0 rfl rfl)) ?_; clear S a; intro a S
  refine st_y S rfl rfl rfl (y_indexA (m := 32) (sz := 8) S (by kernel_rfl) rfl rfl (by first | omega | (simp; done) | (simp; omega))) ?_; clear S a; intro a S
  try simp only [Int.toNat_natCast, Nat.mul_one, Nat.zero_add] at S
  refine st_store (sz := 8) (us := [_, _, _, _, _, _, _, _]) S M 2 rfl (by kernel_rfl) rfl rfl rfl rfl rfl rfl (by rw [hh2]; simp only [List.length_cons, List.length_nil]; omega) ?_; clear M; intro w6 M
  simp only [List.set_cons_zero, List.set_cons_succ] at M
  refine wpList_nil ?_
  refine block_normal ?_
  refine nxF ?_
  (first | refine st_y S rfl rfl rfl (y_addN S rfl rfl (by omega)) ?_ | refine st_y S rfl rfl rfl (y_int S rfl rfl rfl) ?_); clear S a; intro a S
  refine st_go [1] S rfl (by kernel_rfl) ?_; clear S a; intro a S
  refine nxC ?_
  replace M := M.drop 0
  simp only [List.eraseIdx_cons_succ, List.eraseIdx_cons_zero] at M
  refine ⟨ws.length - (k + 1), by omega, k + 1, by omega, rfl, S.sub _ rfl, ?_⟩
  rw [onF_succ hx]; unfold on1
  first
    | (rw [if_pos hin, ← hcells_set (by rw [onF_length]; omega)]; exact M)
    | (rw [if_neg (by simpa using h15)]; exact M)
theorem alone_any (p : Pr) (va : Option Addr) (vc : Nat) (ws : List Wr) (w : World) (hv : Ws 0 w.heap.size w (.slice va ws.length vc) ws) (hl : ws.length ≤ 1000000) :
    Calls Try.prog 15 #[.agg (p.cellsL (.slice va ws.length vc)).toArray] w fun e w' => ∃ ad cp, e = .returned (.agg (p.cellsL (.slice ad ws.length cp)).toArray) ∧ Fresh w w' 49 9 (.slice ad ws.length cp) ws.length (wcells ws) := by
  have M := Mem.start w
  refine calls_enter Try.func15 rfl 8 rfl rfl ?_; intro a S
  refine nxD ?_
  refine st_box S M rfl rfl rfl #[_, _, _, _, _, _] rfl ?_; clear S M a; intro a w1 b1 S M hB
  refine st_alloc S M rfl rfl #[.int .i64 0, .int .i64 0, .int .i64 0, .slice none 0 0, .int .i64 0, .int .i64 0] (by kernel_rfl) ?_; clear S M a; intro a w2 b2 S M hB
  refine nxA ?_
  refine st_run [4, 2] S M rfl (by kernel_rfl) ?_; clear S a; intro a S
  refine st_call (xs := [(Operand.tmp 4)]) S (enters_of Try.func33 (by decide) rfl) rfl rfl rfl (cloneW_any _ ws _ (M.argW hv) hl) ?_
  rintro _ w3 ⟨v', rfl, hF⟩; refine ⟨_, rfl, ?_⟩; clear S a; intro a S
  obtain ⟨ad, cp, hE, -, -⟩ := (hF.rd0 (by unfold maxLen; omega)).form
  obtain ⟨lo, hi, -, M⟩ := M.pushFresh hF
  subst hE
  refine st_go [4] S rfl (by kernel_rfl) ?_; clear S a; intro a S
  refine st_store (sz := 1) (us := [_]) S M 2 rfl (by kernel_rfl) rfl rfl rfl rfl rfl rfl (by first | decide | (simp; done) | (simp; omega)) ?_; clear M; intro w4 M
  simp only [putL, List.set_cons_zero, List.set_cons_succ, Nat.reduceAdd] at M
  refine nxA ?_
  refine st_y S rfl rfl rfl (y_loadAgg (cs := [_, _, _, _, _, _]) S (by kernel_rfl) rfl rfl (M.cellsAt (k := 6) 2 rfl rfl)) ?_; clear S a; intro a S
  refine st_store (sz := 6) (us := [_, _, _, _, _, _]) S M 1 rfl (by kernel_rfl) rfl rfl rfl rfl rfl rfl (by first | decide | (simp; done) | (simp; omega)) ?_; clear M; intro w5 M
  simp only [putL, List.set_cons_zero, List.set_cons_succ, Nat.reduceAdd] at M
  refine nxC ?_
  refine wp_ret ?_
  refine end_one S rfl (res_agg (cs := [_, _, _, _, _, _]) (by kernel_rfl) rfl rfl (M.cellsAt (k := 6) 1 rfl rfl)) ?_
  exact ⟨ad, cp, rfl, M.fresh 0 rfl⟩

/-- the slice v reads as these that are in doubt, each with its writes -/
def PrsC (cs : List Value) (lo hi : Nat) (w : World) (v : Value) (ps : Pl) : Prop :=
  Rd lo hi w 6 v ps.length cs ∧ ∀ (i : Nat) (q : Pr × List Wr), ps[i]? = some q → ∃ lv, (cs.drop (i * 6)).take 6 = q.1.cellsL lv ∧ Ws lo hi w lv q.2
theorem PrsC.same {cs : List Value} {lo hi : Nat} {w w' : World} {v : Value} {ps : Pl} (h : PrsC cs lo hi w v ps) (hs : SameOn lo hi w w') : PrsC cs lo hi w' v ps :=
  ⟨h.1.same hs, fun i q hi => let ⟨lv, e, hb⟩ := h.2 i q hi; ⟨lv, e, hb.same hs⟩⟩
theorem PrsC.wide {cs : List Value} {lo hi lo' hi' : Nat} {w : World} {v : Value} {ps : Pl} (h : PrsC cs lo hi w v ps) (h1 : lo' ≤ lo) (h2 : hi ≤ hi') : PrsC cs lo' hi' w v ps :=
  ⟨h.1.wide h1 h2, fun i q hi => let ⟨lv, e, hb⟩ := h.2 i q hi; ⟨lv, e, hb.wide h1 h2⟩⟩
theorem PrsC.nil (lo hi : Nat) (w : World) : PrsC [] lo hi w (.slice none 0 0) [] := ⟨Rd.nil _ _ _ _, fun i q hi => by simp at hi⟩
theorem Mem.prs {w0 w : World} {H : List Ent} {cs : List Value} {v : Value} {ps : Pl} (M : Mem w0 w H) (h : PrsC cs 0 w0.heap.size w0 v ps) : PrsC cs 0 w0.heap.size w v ps := h.same fun k _ h2 => M.below.block k h2
theorem Mem.prsW {w0 w : World} {H : List Ent} {cs : List Value} {v : Value} {ps : Pl} (M : Mem w0 w H) (h : PrsC cs 0 w0.heap.size w0 v ps) : PrsC cs 0 w.heap.size w v ps := (M.prs h).wide (Nat.le_refl _) M.below.size
theorem PrsC.sl {cs : List Value} {lo hi i : Nat} {w : World} {v : Value} {ps : Pl} {q : Pr × List Wr} (h : PrsC cs lo hi w v ps) (hi' : ps[i]? = some q) : ∃ ad cp, (cs.drop (i * 6)).take 6 = q.1.cellsL (.slice ad q.2.length cp) ∧ Ws lo hi w (.slice ad q.2.length cp) q.2 := by
  obtain ⟨lv, e, hb⟩ := h.2 i q hi'
  obtain ⟨ad, cp, rfl, -, -⟩ := hb.form
  exact ⟨ad, cp, e, hb⟩
def FindPost (ps : Pl) (nm : Nm) (w : World) (e : Ending) (w' : World) : Prop :=
  ∃ (k : Nat) (b : Bool), e = .returned (.tuple #[.int .i64 (k : Int), .bool b]) ∧ Below w.heap.size w w' ∧ ((b = true ∧ findP nm ps = some k) ∨ (b = false ∧ k = 0 ∧ findP nm ps = none))
set_option maxHeartbeats 1000000 in
theorem find_any (s : St) (hs : s.ok) (dv : Value) (cs : List Value) (ps : Pl) (nm : Nm) (w : World) (hd : PrsC cs 0 w.heap.size w dv ps) : Calls Try.prog 17 #[.agg (s.cellsL dv).toArray, .agg nm.cells] w (FindPost ps nm w) := by
  have M := Mem.start w
  have hl := hd.1.2.1
  unfold maxLen at hl
  refine calls_enter Try.func17 rfl 22 rfl rfl ?_; intro a S
  refine nxD ?_
  refine st_box S M rfl rfl rfl _ rfl ?_; clear S M a; intro a w1 bF S M hB
  refine st_box S M rfl rfl rfl #[_, _, _] rfl ?_; clear S M a; intro a w2 bN S M hB
  refine st_go [1, 1] S rfl (by kernel_rfl) ?_; clear S a; intro a S
  refine nxC ?_
  refine wp_seq ?_
  refine nxD ?_
  refine st_go [272] S rfl (by kernel_rfl) ?_; clear S a; intro a S
  refine st_y S rfl rfl rfl (y_load S (by kernel_rfl) rfl (M.cell 1 rfl (St.doubt hs dv))) ?_; clear S a; intro a S
  refine st_y S rfl rfl rfl (y_lenR (E := 52) S rfl ((M.prs hd).1) (by kernel_rfl)) ?_; clear S a; intro a S
  refine st_go [1] S rfl (by kernel_rfl) ?_; clear S a; intro a S
  refine nxC ?_
  refine wp_block ?_
  refine wp_loop_g (fun m a w' => ∃ (k : Nat), k ≤ ps.length ∧ m = ps.length - k ∧ Sees 22 a [(3, .pointer (some ⟨bN, 0, none⟩)), (9, dv), (10, .int .i64 (ps.length : Int)), (11, .int .i64 (k : Int))] ∧ Mem w w' [.blk bN nm.cells 38] ∧ ∀ (i : Nat) (p : Pr × List Wr), i < k → ps[i]? = some p → p.1.name.eqb nm = false) (ps.length) ?_ ?_
  · skip
    replace M := M.drop 1
    simp only [List.eraseIdx_cons_succ, List.eraseIdx_cons_zero] at M
    exact ⟨0, Nat.zero_le _, rfl, S.sub _ rfl, M, fun i p h => absurd h (by omega)⟩
  clear S M a; intro m a wl
  rintro ⟨k, hk, rfl, S, M, hno⟩
  refine nxD ?_
  refine st_go [1] S rfl (by kernel_rfl) ?_; clear S a; intro a S
  refine nxC ?_
  refine wp_seq ?_
  refine st_fi (t := 12) S rfl ?_ ?_
  · clear S; intro h12 S
    refine st_condF S rfl ?_
    refine wp_exit ?_
    refine then_exit ?_
    refine then_exit ?_
    refine block_hit ?_
    refine nxE ?_
    refine st_go [1, 1] S rfl (by kernel_rfl) ?_; clear S a; intro a S
    refine nxC ?_
    refine wp_ret ?_
    refine end_two S rfl (res_tmp rfl) (res_tmp rfl) ?_
    refine ⟨0, false, rfl, M.below, .inr ⟨rfl, rfl, findP_none fun i p hp => hno i p ?_ hp⟩⟩
    have := (List.getElem?_eq_some_iff.1 hp).1; omega
  clear S; intro h12 S
  refine st_condT S rfl ?_
  refine wp_skip ?_
  refine then_normal ?_
  refine wp_seq ?_
  refine wp_block ?_
  refine nxD ?_
  have hk' : k < ps.length := by omega
  obtain ⟨q, hq⟩ : ∃ q, ps[k]? = some q := ⟨_, List.getElem?_eq_getElem hk'⟩
  obtain ⟨ad, cp, hrow, hws⟩ := (M.prs hd).sl hq
  refine st_y S rfl rfl rfl (y_move S rfl) ?_; clear S a; intro a S
  refine st_y S rfl rfl rfl (y_indexR (e := 52) (sz := 6) S (by kernel_rfl) rfl ((M.prs hd).1) rfl (by first | omega | (simp; done) | (simp; omega))) ?_; clear S a; intro a S
  try simp only [Int.toNat_natCast, Nat.mul_one, Nat.zero_add] at S
  refine st_y S rfl rfl rfl (y_loadAgg S (by kernel_rfl) rfl rfl ((M.prs hd).1.at_.row (i := k) hrow rfl)) ?_; clear S a; intro a S
  refine st_alloc S M rfl rfl #[.int .i64 0, .int .i64 0, .int .i64 0, .slice none 0 0, .int .i64 0, .int .i64 0] (by kernel_rfl) ?_; clear S M a; intro a w3 bP S M hB
  refine st_go [1] S rfl (by kernel_rfl) ?_; clear S a; intro a S
  refine st_store (sz := 6) (us := [_, _, _, _, _, _]) S M 0 rfl (by kernel_rfl) rfl rfl rfl rfl rfl rfl (by first | decide | (simp; done) | (simp; omega)) ?_; clear M; intro w4 M
  simp only [putL, List.set_cons_zero, List.set_cons_succ, Nat.reduceAdd] at M
  refine nxA ?_
  refine st_go [1] S rfl (by kernel_rfl) ?_; clear S a; intro a S
  refine st_y S rfl rfl rfl (y_loadAgg (cs := [_, _, _]) S (by kernel_rfl) rfl rfl (M.cellsAt (k := 3) 0 rfl rfl)) ?_; clear S a; intro a S
  refine st_y S rfl rfl rfl (y_loadAgg (cs := [_, _, _]) S (by kernel_rfl) rfl rfl (M.cellsAt (k := 3) 1 rfl rfl)) ?_; clear S a; intro a S
  refine st_y S rfl rfl rfl (y_eqlG (by kernel_rfl) S rfl rfl (fun w => equalNm 9998 q.1.name nm w)) ?_; clear S a; intro a S
  refine nxC ?_
  refine st_split (t := 19) S rfl ?_ ?_
  · clear S; intro h19 S
    refine st_condT S rfl ?_
    refine nxD ?_
    refine st_go [1, 1, 1] S rfl (by kernel_rfl) ?_; clear S a; intro a S
    refine nxC ?_
    refine wp_ret ?_
    refine block_ret ?_
    refine then_ret ?_
    refine then_ret ?_
    refine block_ret ?_
    refine then_ret ?_
    refine end_two S rfl (res_tmp rfl) (res_tmp rfl) ?_
    exact ⟨k, true, rfl, M.below, .inl ⟨rfl, findP_some hq h19 hno⟩⟩
  clear S; intro h19 S
  refine st_condF S rfl ?_
  refine wp_skip ?_
  refine block_normal ?_
  refine nxF ?_
  (first | refine st_y S rfl rfl rfl (y_addN S rfl rfl (by omega)) ?_ | refine st_y S rfl rfl rfl (y_int S rfl rfl rfl) ?_); clear S a; intro a S
  refine st_go [1] S rfl (by kernel_rfl) ?_; clear S a; intro a S
  refine nxC ?_
  replace M := M.drop 0
  simp only [List.eraseIdx_cons_succ, List.eraseIdx_cons_zero] at M
  refine ⟨ps.length - (k + 1), by omega, k + 1, by omega, rfl, S.sub _ rfl, M, fun i p hi hp => ?_⟩
  rcases Nat.lt_or_ge i k with h | h
  · exact hno i p h hp
  · obtain rfl : i = k := by omega
    rw [hq] at hp
    obtain rfl := Option.some.inj hp
    exact h19

end Go.Proofs.Ytodfphphidhjbaa
