/-
  Package model: All.
-/
import Derived.Test.YtgngbdhdnnkncaaNb
namespace Go.Proofs.Ytgngbdhdnnkncaa
open Go.RowKit Go.Sort

def allStep (p : List V8 × Bool × Nat) (t : List Sn) : List V8 × Bool × Nat :=
  ((doR p.1 t).1, p.2.1 && (doR p.1 t).2, if (p.2.1 && (doR p.1 t).2) = true then p.2.2 + 1 else p.2.2)
def allR (home : List V8) (ts : List (List Sn)) : List V8 × Bool × Nat := ts.foldl allStep (home, true, 0)
theorem allStep_of {h1 h2 : List V8} {rt told : Bool} {cnt : Nat} {t : List Sn} (h : (h2, told) = doR h1 t) : allStep (h1, rt, cnt) t = (h2, rt && told, if (rt && told) = true then cnt + 1 else cnt) := by
  unfold allStep; rw [← h]
set_option maxHeartbeats 2000000 in
set_option maxRecDepth 10000 in
theorem all_any (home : List V8) (hh : home.length = 32) (va : Option Addr) (vc : Nat) (ts : List (Value × List Sn)) (w : World) (hv : Rd 0 w.heap.size w 1 (.slice va ts.length vc) ts.length (ts.map (·.1)))
    (hts : ∀ q ∈ ts, ∃ a c, q.1 = .slice a q.2.length c ∧ Ss 0 w.heap.size w (.slice a q.2.length c) q.2) (hok : ∀ q ∈ ts, ∀ x ∈ q.2, okS x) (hl : ts.length ≤ 1000) :
    Calls Try.prog 10 #[.agg (hcells home).toArray, .slice va ts.length vc] w fun e w' => e = .returned (.tuple #[.agg (hcells (allR home (ts.map (·.2))).1).toArray, .int .i64 ((allR home (ts.map (·.2))).2.2 : Int), .int .i64 0]) ∧ Below w.heap.size w w' := by
  have M := Mem.start w
  have hhc : (hcells home).length = 256 := by rw [hcells_length, hh]
  refine calls_enter Try.func10 rfl 41 rfl rfl ?_; intro a S
  refine nxD ?_
  refine st_box S M rfl rfl rfl _ rfl ?_; clear S M a; intro a w1 bC S M hB
  refine st_alloc S M rfl rfl (hcells zHome).toArray (by kernel_rfl) ?_; clear S M a; intro a w2 bZ S M hB
  refine st_go [1, 1] S rfl (by kernel_rfl) ?_; clear S a; intro a S
  refine nxA ?_
  refine st_go [1] S rfl (by kernel_rfl) ?_; clear S a; intro a S
  refine nxC ?_
  refine wp_seq ?_
  refine nxD ?_
  refine st_go [1] S rfl (by kernel_rfl) ?_; clear S a; intro a S
  refine st_y S rfl rfl rfl (y_lenS (E := 25) S rfl (by kernel_rfl)) ?_; clear S a; intro a S
  refine st_go [1] S rfl (by kernel_rfl) ?_; clear S a; intro a S
  refine nxC ?_
  refine wp_block ?_
  refine wp_loop_g (fun m a w' => ∃ (i : Nat) (h1 : List V8) (rt : Bool) (cnt : Nat), i ≤ ts.length ∧ m = ts.length - i ∧ (h1, rt, cnt) = allR home ((ts.take i).map (·.2)) ∧ h1.length = 32 ∧ cnt ≤ i ∧ Sees 41 a [(2, .pointer (some ⟨bC, 0, none⟩)), (4, .pointer (some ⟨bZ, 0, none⟩)), (5, .int .i64 (cnt : Int)), (7, .bool rt), (13, .slice va ts.length vc), (14, .int .i64 (ts.length : Int)), (15, .int .i64 (i : Int))] ∧ Mem w w' [.blk bZ (hcells zHome).toArray 24, .blk bC (hcells h1).toArray 24]) (ts.length) ?_ ?_
  · skip
    exact ⟨0, home, true, 0, Nat.zero_le _, rfl, rfl, hh, Nat.le_refl _, S.sub _ rfl, M⟩
  clear S M a; intro m a wl
  rintro ⟨i, h1, rt, cnt, hi', rfl, hp, hh1, hcnt, S, M⟩
  have hl1 : (hcells h1).length = 256 := by rw [hcells_length, hh1]
  refine nxD ?_
  refine st_go [1] S rfl (by kernel_rfl) ?_; clear S a; intro a S
  refine nxC ?_
  refine wp_seq ?_
  refine st_fi (t := 16) S rfl ?_ ?_
  · clear S; intro h16 S
    refine st_condF S rfl ?_
    refine wp_exit ?_
    refine then_exit ?_
    refine then_exit ?_
    refine block_hit ?_
    refine nxE ?_
    refine st_y S rfl rfl rfl (y_loadAgg (k := 256) (cs := _) S (by kernel_rfl) rfl (by with_reducible first | exact hhc | exact zHome_len | exact hl1 | exact hl2) (M.cellsAt 1 rfl cutL_all)) ?_; clear S a; intro a S
    refine st_go [1] S rfl (by kernel_rfl) ?_; clear S a; intro a S
    refine st_storeAll (sz := 256) S M 0 rfl (by kernel_rfl) rfl rfl (by with_reducible first | exact hhc | exact zHome_len | exact hl1 | exact hl2) (by exact allOne_hcells _) rfl (by with_reducible first | exact hhc | exact zHome_len | exact hl1 | exact hl2) ?_; clear M; intro w7 M
    simp only [List.set_cons_zero, List.set_cons_succ] at M
    refine st_go [1, 1] S rfl (by kernel_rfl) ?_; clear S a; intro a S
    refine nxC ?_
    refine wp_ret ?_
    refine end_three S rfl (res_agg (k := 256) (cs := _) (by kernel_rfl) rfl (by with_reducible first | exact hhc | exact zHome_len | exact hl1 | exact hl2) (M.cellsAt 0 rfl cutL_all)) (res_tmp rfl) (res_tmp rfl) ?_
    obtain rfl : i = ts.length := by omega
    rw [List.take_length] at hp
    rw [← hp]
    exact ⟨rfl, M.below⟩
  clear S; intro h16 S
  refine st_condT S rfl ?_
  refine wp_skip ?_
  refine then_normal ?_
  refine wp_seq ?_
  refine wp_block ?_
  refine wp_seq ?_
  obtain ⟨q, hq⟩ : ∃ q, ts[i]? = some q := ⟨_, List.getElem?_eq_getElem (by omega)⟩
  have hqm := List.mem_of_getElem? hq
  obtain ⟨qa, qc, hqv, hqs⟩ := hts q hqm
  refine wp_region_lit ?_
  refine st_y S rfl rfl rfl (y_indexR (e := 25) (sz := 1) S (by kernel_rfl) rfl ((M.arg hv)) rfl (by first | omega | (simp; done) | (simp; omega))) ?_; clear S a; intro a S
  try simp only [Int.toNat_natCast, Nat.mul_one, Nat.zero_add] at S
  refine st_y S rfl rfl rfl (y_load S (by kernel_rfl) rfl ((M.arg hv).at_.one i (by rw [List.getElem?_map, hq, Option.map_some, hqv]))) ?_; clear S a; intro a S
  refine st_go [1] S rfl (by kernel_rfl) ?_; clear S a; intro a S
  refine nxA ?_
  refine st_y S rfl rfl rfl (y_loadAgg (k := 256) (cs := _) S (by kernel_rfl) rfl (by with_reducible first | exact hhc | exact zHome_len | exact hl1 | exact hl2) (M.cellsAt 1 rfl cutL_all)) ?_; clear S a; intro a S
  refine st_go [1] S rfl (by kernel_rfl) ?_; clear S a; intro a S
  refine st_call (xs := [(Operand.tmp 20), (Operand.tmp 21)]) S (enters_of Try.func6 (by decide) rfl) rfl rfl rfl (do_any h1 hh1 qa qc q.2 _ (M.argW hqs)) ?_
  rintro _ w3 ⟨er, h2, told, rfl, hK, hh2, her, hdo⟩
  obtain rfl := her.2 (hok q hqm)
  have hd := allStep_of (rt := rt) (cnt := cnt) (hdo rfl)
  have hl2 : (hcells h2).length = 256 := by rw [hcells_length, hh2]
  refine ⟨_, rfl, ?_⟩; clear S a; intro a S; replace M := M.grow hK
  refine st_go [1, 1, 1, 1] S rfl (by kernel_rfl) ?_; clear S a; intro a S
  refine st_alloc S M rfl rfl (hcells zHome).toArray (by kernel_rfl) ?_; clear S M a; intro a w4 bX S M hB
  refine st_storeAll (sz := 256) S M 0 rfl (by kernel_rfl) rfl rfl (by with_reducible first | exact hhc | exact zHome_len | exact hl1 | exact hl2) (by exact allOne_hcells _) rfl (by with_reducible first | exact hhc | exact zHome_len | exact hl1 | exact hl2) ?_; clear M; intro w5 M
  simp only [List.set_cons_zero, List.set_cons_succ] at M
  refine st_go [1, 1] S rfl (by kernel_rfl) ?_; clear S a; intro a S
  refine nxC ?_
  refine wp_seq ?_
  refine nxD ?_
  refine st_go [1, 1] S rfl (by kernel_rfl) ?_; clear S a; intro a S
  refine nxC ?_
  refine st_if (t := 27) S rfl ?_ ?_
  · clear S; intro h27 S
    exact absurd rfl h27
  clear S; intro h27 S
  refine st_condF S rfl ?_
  refine wp_skip ?_
  refine nxE ?_
  refine st_y S rfl rfl rfl (y_loadAgg (k := 256) (cs := _) S (by kernel_rfl) rfl (by with_reducible first | exact hhc | exact zHome_len | exact hl1 | exact hl2) (M.cellsAt 0 rfl cutL_all)) ?_; clear S a; intro a S
  refine st_storeAll (sz := 256) S M 2 rfl (by kernel_rfl) rfl rfl (by with_reducible first | exact hhc | exact zHome_len | exact hl1 | exact hl2) (by exact allOne_hcells _) rfl (by with_reducible first | exact hhc | exact zHome_len | exact hl1 | exact hl2) ?_; clear M; intro w6 M
  simp only [List.set_cons_zero, List.set_cons_succ] at M
  refine nxA ?_
  refine st_go [1, 1] S rfl (by kernel_rfl) ?_; clear S a; intro a S
  refine st_fi (t := 32) S rfl ?_ ?_
  · clear S; intro h32 S
    refine st_go [0, 1, 1] S rfl (by kernel_rfl) ?_; clear S a; intro a S
    replace S := S.sub [(2, _), (4, _), (5, _), (13, _), (14, _), (15, _), (16, _), (9, _), (10, _), (11, _), (12, _), (27, _), (7, _)] rfl
    refine nxA ?_
    refine st_go [1] S rfl (by kernel_rfl) ?_; clear S a; intro a S
    refine nxC ?_
    refine st_condF S rfl ?_
    refine wp_skip ?_
    refine block_normal ?_
    refine nxF ?_
    (first | refine st_y S rfl rfl rfl (y_addN S rfl rfl (by omega)) ?_ | refine st_y S rfl rfl rfl (y_int S rfl rfl rfl) ?_); clear S a; intro a S
    refine st_go [1] S rfl (by kernel_rfl) ?_; clear S a; intro a S
    refine nxC ?_
    skip
    replace M := M.drop 0
    simp only [List.eraseIdx_cons_succ, List.eraseIdx_cons_zero] at M
    have hp2 : allStep (h1, rt, cnt) q.2 = allR home ((ts.take (i + 1)).map (·.2)) := by
      rw [List.take_add_one, hq, hp]
      simp only [Option.toList_some, List.map_append, List.map_cons, List.map_nil, allR, List.foldl_append, List.foldl_cons, List.foldl_nil]
    rw [hd] at hp2
    first
      | (subst h32; simp only [Bool.false_and, Bool.false_eq_true, if_false] at hp2
         exact ⟨ts.length - (i + 1), by omega, i + 1, h2, false, cnt, by omega, rfl, hp2, hh2, by omega, S.sub _ rfl, M⟩)
      | (subst h32; subst h35; simp only [Bool.and_false, Bool.false_eq_true, if_false] at hp2
         exact ⟨ts.length - (i + 1), by omega, i + 1, h2, false, cnt, by omega, rfl, hp2, hh2, by omega, S.sub _ rfl, M⟩)
      | (subst h32; subst h35; simp only [Bool.and_true, if_true] at hp2
         exact ⟨ts.length - (i + 1), by omega, i + 1, h2, true, cnt + 1, by omega, rfl, hp2, hh2, by omega, S.sub _ rfl, M⟩)
  clear S; intro h32 S
  refine st_go [1, 1, 1] S rfl (by kernel_rfl) ?_; clear S a; intro a S
  replace S := S.sub [(2, _), (4, _), (5, _), (13, _), (14, _), (15, _), (16, _), (9, _), (10, _), (11, _), (12, _), (27, _), (7, _)] rfl
  refine nxA ?_
  refine st_go [1] S rfl (by kernel_rfl) ?_; clear S a; intro a S
  refine nxC ?_
  refine st_fi (t := 35) S rfl ?_ ?_
  · clear S; intro h35 S
    refine st_condF S rfl ?_
    refine wp_skip ?_
    refine block_normal ?_
    refine nxF ?_
    (first | refine st_y S rfl rfl rfl (y_addN S rfl rfl (by omega)) ?_ | refine st_y S rfl rfl rfl (y_int S rfl rfl rfl) ?_); clear S a; intro a S
    refine st_go [1] S rfl (by kernel_rfl) ?_; clear S a; intro a S
    refine nxC ?_
    skip
    replace M := M.drop 0
    simp only [List.eraseIdx_cons_succ, List.eraseIdx_cons_zero] at M
    have hp2 : allStep (h1, rt, cnt) q.2 = allR home ((ts.take (i + 1)).map (·.2)) := by
      rw [List.take_add_one, hq, hp]
      simp only [Option.toList_some, List.map_append, List.map_cons, List.map_nil, allR, List.foldl_append, List.foldl_cons, List.foldl_nil]
    rw [hd] at hp2
    first
      | (subst h32; simp only [Bool.false_and, Bool.false_eq_true, if_false] at hp2
         exact ⟨ts.length - (i + 1), by omega, i + 1, h2, false, cnt, by omega, rfl, hp2, hh2, by omega, S.sub _ rfl, M⟩)
      | (subst h32; subst h35; simp only [Bool.and_false, Bool.false_eq_true, if_false] at hp2
         exact ⟨ts.length - (i + 1), by omega, i + 1, h2, false, cnt, by omega, rfl, hp2, hh2, by omega, S.sub _ rfl, M⟩)
      | (subst h32; subst h35; simp only [Bool.and_true, if_true] at hp2
         exact ⟨ts.length - (i + 1), by omega, i + 1, h2, true, cnt + 1, by omega, rfl, hp2, hh2, by omega, S.sub _ rfl, M⟩)
  clear S; intro h35 S
  refine st_condT S rfl ?_
  refine wp_region_lit ?_
  refine st_go [1] S rfl (by kernel_rfl) ?_; clear S a; intro a S
  (first | refine st_y S rfl rfl rfl (y_addN S rfl rfl (by omega)) ?_ | refine st_y S rfl rfl rfl (y_int S rfl rfl rfl) ?_); clear S a; intro a S
  refine st_go [1] S rfl (by kernel_rfl) ?_; clear S a; intro a S
  refine wpList_nil ?_
  refine block_normal ?_
  refine nxF ?_
  (first | refine st_y S rfl rfl rfl (y_addN S rfl rfl (by omega)) ?_ | refine st_y S rfl rfl rfl (y_int S rfl rfl rfl) ?_); clear S a; intro a S
  refine st_go [1] S rfl (by kernel_rfl) ?_; clear S a; intro a S
  refine nxC ?_
  skip
  replace M := M.drop 0
  simp only [List.eraseIdx_cons_succ, List.eraseIdx_cons_zero] at M
  have hp2 : allStep (h1, rt, cnt) q.2 = allR home ((ts.take (i + 1)).map (·.2)) := by
    rw [List.take_add_one, hq, hp]
    simp only [Option.toList_some, List.map_append, List.map_cons, List.map_nil, allR, List.foldl_append, List.foldl_cons, List.foldl_nil]
  rw [hd] at hp2
  first
    | (subst h32; simp only [Bool.false_and, Bool.false_eq_true, if_false] at hp2
       exact ⟨ts.length - (i + 1), by omega, i + 1, h2, false, cnt, by omega, rfl, hp2, hh2, by omega, S.sub _ rfl, M⟩)
    | (subst h32; subst h35; simp only [Bool.and_false, Bool.false_eq_true, if_false] at hp2
       exact ⟨ts.length - (i + 1), by omega, i + 1, h2, false, cnt, by omega, rfl, hp2, hh2, by omega, S.sub _ rfl, M⟩)
    | (subst h32; subst h35; simp only [Bool.and_true, if_true] at hp2
       exact ⟨ts.length - (i + 1), by omega, i + 1, h2, true, cnt + 1, by omega, rfl, hp2, hh2, by omega, S.sub _ rfl, M⟩)

end Go.Proofs.Ytgngbdhdnnkncaa
