/-
  law13: LockAlone.
-/
import Derived.Test.YtcbofgcmfkcglaaLk
namespace Go.Proofs.Ytcbofgcmfkcglaa
open Go.RowKit Go.Sort

theorem zero_bool (w : World) : (zeroValue 4).run Try.prog w = .ok (.bool false) w := by
  obtain ⟨i, hi, hz⟩ : ∃ i, Try.prog.info? 4 = some i ∧ i.zero = some (.bool false) := by
    refine ⟨_, rfl, ?_⟩
    kernel_rfl
  simp [zeroValue, typeInfo, hi, hz, go_sem]
theorem keyI : KeyT Try.prog 3 eI := key_int Try.underlying3
set_option maxHeartbeats 1500000 in
theorem alone13_any (n : Nm) (ba ea : Option Addr) (bc ec : Nat) (bs : List Int) (es : List Bool) (w : World) (hv : Rd 0 w.heap.size w 1 (.slice ba bs.length bc) bs.length (icells bs)) (hu : Rd 0 w.heap.size w 1 (.slice ea es.length ec) es.length (es.map Value.bool)) :
    Calls Try.prog 3 #[.agg n.cells, .slice ba bs.length bc, .slice ea es.length ec] w fun e w' => e = .returned (.bool true) ∧ Below w.heap.size w w' := by
  have M := Mem.start w
  refine calls_enter Try.func3 rfl 134 rfl rfl ?_; intro a S
  refine nxD ?_
  refine st_box S M rfl rfl rfl #[_, _, _] rfl ?_; clear S M a; intro a w1 bN S M hB
  refine st_go [1] S rfl (by kernel_rfl) ?_; clear S a; intro a S
  refine nxC ?_
  refine wp_seq ?_
  refine nxD ?_
  refine st_go [1] S rfl (by kernel_rfl) ?_; clear S a; intro a S
  refine st_y S rfl rfl rfl (y_lenS (E := 3) S rfl (by kernel_rfl)) ?_; clear S a; intro a S
  refine st_go [1, 1] S rfl (by kernel_rfl) ?_; clear S a; intro a S
  refine st_if (t := 24) S rfl ?_ ?_
  · clear S; intro h24 S
    refine st_go [0, 0, 0, 1] S rfl (by kernel_rfl) ?_; clear S a; intro a S
    refine nxC ?_
    refine st_condT S rfl ?_
    refine nxD ?_
    refine st_call (xs := []) S (enters_of Try.func6 (by decide) rfl) rfl rfl rfl (wakes13_any _) ?_
    rintro _ w2 ⟨rfl, hK⟩; refine ⟨_, rfl, ?_⟩; clear S a; intro a S; replace M := M.grow hK
    refine st_go [1] S rfl (by kernel_rfl) ?_; clear S a; intro a S
    refine nxC ?_
    refine wp_ret ?_
    refine then_ret ?_
    refine end_one S rfl (res_tmp rfl) ?_
    first | exact ⟨rfl, M.below⟩ | exact absurd rfl h69 | exact absurd rfl h116 | exact absurd rfl h121 | exact absurd (by decide) h131
  clear S; intro h24 S
  refine st_y S rfl rfl rfl (y_loadAgg (cs := [_, _, _]) S (by kernel_rfl) rfl rfl (M.cellsAt (k := 3) 0 rfl rfl)) ?_; clear S a; intro a S
  refine st_call (xs := [(Operand.tmp 25)]) S (enters_of Try.func5 (by decide) rfl) rfl rfl rfl (rNamed_any n _) ?_
  rintro _ w3 ⟨rfl, hK⟩; refine ⟨_, rfl, ?_⟩; clear S a; intro a S; replace M := M.grow hK
  refine st_go [1, 1] S rfl (by kernel_rfl) ?_; clear S a; intro a S
  refine nxC ?_
  refine st_if (t := 28) S rfl ?_ ?_
  · clear S; intro h28 S
    refine st_condT S rfl ?_
    refine nxD ?_
    refine st_call (xs := []) S (enters_of Try.func6 (by decide) rfl) rfl rfl rfl (wakes13_any _) ?_
    rintro _ w4 ⟨rfl, hK⟩; refine ⟨_, rfl, ?_⟩; clear S a; intro a S; replace M := M.grow hK
    refine st_go [1] S rfl (by kernel_rfl) ?_; clear S a; intro a S
    refine nxC ?_
    refine wp_ret ?_
    refine then_ret ?_
    refine end_one S rfl (res_tmp rfl) ?_
    first | exact ⟨rfl, M.below⟩ | exact absurd rfl h69 | exact absurd rfl h116 | exact absurd rfl h121 | exact absurd (by decide) h131
  clear S; intro h28 S
  refine st_condF S rfl ?_
  refine wp_skip ?_
  refine then_normal ?_
  refine wp_seq ?_
  have hnm : n.named = true := by first | exact h28 | simpa using h28
  refine wp_region_lit ?_
  refine st_alloc S M rfl rfl #[.slice none 0 0, .slice none 0 0] (by kernel_rfl) ?_; clear S M a; intro a w5 bT S M hB
  refine nxA ?_
  refine st_makeMap (κ := Int) S M rfl rfl ?_; clear S M a; intro a w6 bS S M hB
  refine st_go [1] S rfl (by kernel_rfl) ?_; clear S a; intro a S
  refine nxA ?_
  refine st_makeMap (κ := Int) S M rfl rfl ?_; clear S M a; intro a w7 bA S M hB
  refine st_go [1] S rfl (by kernel_rfl) ?_; clear S a; intro a S
  refine nxC ?_
  refine wp_seq ?_
  refine nxD ?_
  refine st_go [1] S rfl (by kernel_rfl) ?_; clear S a; intro a S
  refine st_y S rfl rfl rfl (y_lenS (E := 3) S rfl (by kernel_rfl)) ?_; clear S a; intro a S
  refine st_go [1] S rfl (by kernel_rfl) ?_; clear S a; intro a S
  refine nxC ?_
  refine wp_block ?_
  refine wp_loop_g (fun m a w' => ∃ (i : Nat) (h : List Lk) (ha wa : Option Addr) (hc uc lo1 hi1 lo2 hi2 : Nat) (ms ma : Mes Int) (cs ca : Nat), i ≤ bs.length ∧ m = bs.length - i ∧ AloneI n h ∧ h.length ≤ i ∧ Good eI ms cs ∧ Good eI ma ca ∧ SV n ms h ∧ AV n ma h ∧ Sees 134 a [(2, .slice ea es.length ec), (3, .pointer (some ⟨bN, 0, none⟩)), (7, .pointer (some ⟨bT, 0, none⟩)), (8, .map (some bS)), (9, .map (some bA)), (32, .slice ba bs.length bc), (33, .int .i64 (bs.length : Int)), (34, .int .i64 (i : Int))] ∧ Mem w w' [rowE lo1 hi1 37 5 (.slice ha h.length hc) h.length (lcells h), rowE lo2 hi2 37 5 (.slice wa 0 uc) 0 [], mapX bA ma ca, mapX bS ms cs, .blk bT #[.slice ha h.length hc, .slice wa 0 uc] 30, .blk bN n.cells 23]) (bs.length) ?_ ?_
  · skip
    replace M := (M.rowNil 37 5).rowNil 37 5
    exact ⟨0, [], none, none, 0, 0, _, _, _, _, [], [], 0, 0, Nat.zero_le _, rfl, ⟨fun q hq => (by cases hq), fun q hq => (by cases hq), .nil⟩, Nat.le_refl _, good_nil 0, good_nil 0, fun k => rfl, fun k => rfl, S.sub _ rfl, M⟩
  clear S M a; intro m a wl
  rintro ⟨i, h, ha, wa, hc, uc, lo1, hi1, lo2, hi2, ms, ma, cs, ca, hi', rfl, hAl, hhl, hGs, hGa, hSV, hAV, S, M⟩
  refine nxD ?_
  refine st_go [1] S rfl (by kernel_rfl) ?_; clear S a; intro a S
  refine nxC ?_
  refine wp_seq ?_
  refine st_fi (t := 35) S rfl ?_ ?_
  · clear S; intro h35 S
    refine st_condF S rfl ?_
    refine wp_exit ?_
    refine then_exit ?_
    refine then_exit ?_
    refine block_hit ?_
    refine then_normal ?_
    refine wp_seq ?_
    refine nxD ?_
    refine st_go [1] S rfl (by kernel_rfl) ?_; clear S a; intro a S
    refine nxC ?_
    refine wp_block ?_
    refine wp_loop_g (fun m a w' => ∃ (k : Nat), k ≤ 32 ∧ m = 32 - k ∧ Sees 134 a [(3, .pointer (some ⟨bN, 0, none⟩)), (7, .pointer (some ⟨bT, 0, none⟩)), (8, .map (some bS)), (9, .map (some bA)), (16, .int .i64 (k : Int))] ∧ Mem w w' [rowE lo1 hi1 37 5 (.slice ha h.length hc) h.length (lcells h), rowE lo2 hi2 37 5 (.slice wa 0 uc) 0 [], mapX bA ma ca, mapX bS ms cs, .blk bT #[.slice ha h.length hc, .slice wa 0 uc] 30, .blk bN n.cells 23]) (32) ?_ ?_
    · skip
      exact ⟨0, by omega, rfl, S.sub _ rfl, M⟩
    clear S M a; intro m a wl
    rintro ⟨k, hk, rfl, S, M⟩
    refine wp_seq ?_
    refine nxD ?_
    refine st_go [1, 1] S rfl (by kernel_rfl) ?_; clear S a; intro a S
    refine nxC ?_
    refine st_if (t := 86) S rfl ?_ ?_
    · clear S; intro h86 S
      refine st_condT S rfl ?_
      refine wp_skip ?_
      refine then_normal ?_
      refine wp_seq ?_
      refine wp_block ?_
      refine nxD ?_
      refine st_y S rfl rfl rfl (y_loadAgg (cs := [_, _]) S (by kernel_rfl) rfl rfl (M.cellsAt (k := 2) 4 rfl rfl)) ?_; clear S a; intro a S
      refine st_y S rfl rfl rfl (y_loadAgg (cs := [_, _, _]) S (by kernel_rfl) rfl rfl (M.cellsAt (k := 3) 5 rfl rfl)) ?_; clear S a; intro a S
      refine st_go [1] S rfl (by kernel_rfl) ?_; clear S a; intro a S
      refine st_call (xs := [(Operand.tmp 89), (Operand.tmp 90), (Operand.tmp 91)]) S (enters_of Try.func8 (by decide) rfl) rfl rfl rfl (holds_any ha wa hc _ uc h n (k : Int) _ (M.readAll 0 rfl (by unfold maxLen; omega))) ?_
      rintro _ w17 ⟨rfl, hK⟩; refine ⟨_, rfl, ?_⟩; clear S a; intro a S; replace M := M.grow hK
      refine st_go [1] S rfl (by kernel_rfl) ?_; clear S a; intro a S
      refine nxA ?_
      refine st_go [1, 1, 1, 1] S rfl (by kernel_rfl) ?_; clear S a; intro a S
      refine st_y S rfl rfl rfl (y_lookupM (pos := 2) S M (keyI) (hGa) Try.underlying31 (zero_bool) rfl rfl rfl) ?_; clear S a; intro a S
      simp only [Bool.false_eq_true, if_false, hAV (k : Int)] at S
      refine st_y S rfl rfl rfl (y_neqBool (by kernel_rfl) S rfl rfl) ?_; clear S a; intro a S
      refine st_go [1] S rfl (by kernel_rfl) ?_; clear S a; intro a S
      refine st_split (t := 99) S rfl ?_ ?_
      · clear S; intro h99 S
        exfalso; simp at h99
      clear S; intro h99 S
      refine st_go [1, 1, 1, 1] S rfl (by kernel_rfl) ?_; clear S a; intro a S
      refine st_y S rfl rfl rfl (y_lookupM (pos := 3) S M (keyI) (hGs) Try.underlying31 (zero_bool) rfl rfl rfl) ?_; clear S a; intro a S
      simp only [Bool.false_eq_true, if_false, hSV (k : Int)] at S
      refine st_y S rfl rfl rfl (y_neqBool (by kernel_rfl) S rfl rfl) ?_; clear S a; intro a S
      refine st_go [1] S rfl (by kernel_rfl) ?_; clear S a; intro a S
      replace S := S.sub [(3, _), (7, _), (8, _), (9, _), (16, _), (86, _), (17, _), (106, _)] rfl
      refine nxC ?_
      refine st_split (t := 106) S rfl ?_ ?_
      · clear S; intro h106 S
        exfalso; revert h106; simp; rw [Bool.eq_iff_iff, beq_iff_eq, decide_eq_true_eq]
      clear S; intro h106 S
      refine st_condF S rfl ?_
      refine wp_skip ?_
      refine block_normal ?_
      refine nxF ?_
      refine st_go [1] S rfl (by kernel_rfl) ?_; clear S a; intro a S
      (first | refine st_y S rfl rfl rfl (y_addN S rfl rfl (by omega)) ?_ | refine st_y S rfl rfl rfl (y_int S rfl rfl rfl) ?_); clear S a; intro a S
      refine st_go [1] S rfl (by kernel_rfl) ?_; clear S a; intro a S
      refine nxC ?_
      exact ⟨32 - (k + 1), by omega, k + 1, by omega, rfl, S.sub _ rfl, M⟩
    clear S; intro h86 S
    refine st_condF S rfl ?_
    refine wp_exit ?_
    refine then_exit ?_
    refine then_exit ?_
    refine block_hit ?_
    refine nxE ?_
    refine st_y S rfl rfl rfl (y_loadAgg (cs := [_, _]) S (by kernel_rfl) rfl rfl (M.cellsAt (k := 2) 4 rfl rfl)) ?_; clear S a; intro a S
    refine st_y S rfl rfl rfl (y_loadAgg (cs := [_, _, _]) S (by kernel_rfl) rfl rfl (M.cellsAt (k := 3) 5 rfl rfl)) ?_; clear S a; intro a S
    refine st_call (xs := [(Operand.tmp 108), (Operand.tmp 109)]) S (enters_of Try.func9 (by decide) rfl) rfl rfl rfl (relAlone_any ha wa hc uc h n _ (M.readAll 0 rfl (by unfold maxLen; omega)) (M.readAll 1 rfl (by decide)) (by omega) hAl.ok hAl.name) ?_
    rintro _ w18 ⟨v, rfl, hN⟩
    obtain ⟨ha2, wa2, hc2, uc2, lo3, hi3, lo4, hi4, rfl, M1⟩ := hN
    refine ⟨_, rfl, ?_⟩; clear S a; intro a S; replace M := M.join M1; clear M1
    simp only [List.cons_append, List.nil_append] at M
    refine st_go [1, 1, 1, 1] S rfl (by kernel_rfl) ?_; clear S a; intro a S
    refine st_alloc S M rfl rfl #[.slice none 0 0, .slice none 0 0] (by kernel_rfl) ?_; clear S M a; intro a w19 bO S M hB
    refine st_store (sz := 2) (us := [_, _]) S M 0 rfl (by kernel_rfl) rfl rfl rfl rfl rfl rfl (by first | decide | (simp; done) | (simp; omega)) ?_; clear M; intro w20 M
    simp only [putL, List.set_cons_zero, List.set_cons_succ, Nat.reduceAdd] at M
    refine st_go [1, 1] S rfl (by kernel_rfl) ?_; clear S a; intro a S
    refine nxA ?_
    refine st_go [1, 1, 1] S rfl (by kernel_rfl) ?_; clear S a; intro a S
    refine st_fi (t := 116) S rfl ?_ ?_
    · clear S; intro h116 S
      refine st_go [0, 0, 0, 1, 1, 0, 0, 0, 0, 0, 0, 0, 0, 1, 1, 0, 1, 1] S rfl (by kernel_rfl) ?_; clear S a; intro a S
      replace S := S.sub [(3, _), (7, _), (8, _), (9, _), (16, _), (86, _), (18, _), (19, _), (20, _), (6, _)] rfl
      refine nxC ?_
      refine wp_ret ?_
      refine end_one S rfl (res_tmp rfl) ?_
      first | exact ⟨rfl, M.below⟩ | exact absurd rfl h69 | exact absurd rfl h116 | exact absurd rfl h121 | exact absurd (by decide) h131
    clear S; intro h116 S
    refine st_go [1] S rfl (by kernel_rfl) ?_; clear S a; intro a S
    refine st_y S rfl rfl rfl (y_lenS (E := 37) S rfl (by kernel_rfl)) ?_; clear S a; intro a S
    refine st_go [1, 1, 1] S rfl (by kernel_rfl) ?_; clear S a; intro a S
    refine st_fi (t := 121) S rfl ?_ ?_
    · clear S; intro h121 S
      refine st_go [0, 0, 0, 0, 0, 0, 0, 0, 1, 1, 0, 1, 1] S rfl (by kernel_rfl) ?_; clear S a; intro a S
      replace S := S.sub [(3, _), (7, _), (8, _), (9, _), (16, _), (86, _), (18, _), (19, _), (20, _), (6, _)] rfl
      refine nxC ?_
      refine wp_ret ?_
      refine end_one S rfl (res_tmp rfl) ?_
      first | exact ⟨rfl, M.below⟩ | exact absurd rfl h69 | exact absurd rfl h116 | exact absurd rfl h121 | exact absurd (by decide) h131
    clear S; intro h121 S
    refine st_run [1, 1] S M rfl (by kernel_rfl) ?_; clear S a; intro a S
    refine st_y S rfl rfl rfl (y_lenS (E := 37) S rfl (by kernel_rfl)) ?_; clear S a; intro a S
    refine st_run [2, 1] S M rfl (by kernel_rfl) ?_; clear S a; intro a S
    refine st_y S rfl rfl rfl (y_lenS (E := 37) S rfl (by kernel_rfl)) ?_; clear S a; intro a S
    (first | refine st_y S rfl rfl rfl (y_addN S rfl rfl (by omega)) ?_ | refine st_y S rfl rfl rfl (y_int S rfl rfl rfl) ?_); clear S a; intro a S
    refine st_go [1, 1, 1] S rfl (by kernel_rfl) ?_; clear S a; intro a S
    refine st_fi (t := 131) S rfl ?_ ?_
    · clear S; intro h131 S
      refine st_go [0, 1, 1] S rfl (by kernel_rfl) ?_; clear S a; intro a S
      replace S := S.sub [(3, _), (7, _), (8, _), (9, _), (16, _), (86, _), (18, _), (19, _), (20, _), (6, _)] rfl
      refine nxC ?_
      refine wp_ret ?_
      refine end_one S rfl (res_tmp rfl) ?_
      first | exact ⟨rfl, M.below⟩ | exact absurd rfl h69 | exact absurd rfl h116 | exact absurd rfl h121 | exact absurd (by decide) h131
    clear S; intro h131 S
    refine st_call (xs := []) S (enters_of Try.func6 (by decide) rfl) rfl rfl rfl (wakes13_any _) ?_
    rintro _ w21 ⟨rfl, hK⟩; refine ⟨_, rfl, ?_⟩; clear S a; intro a S; replace M := M.grow hK
    refine st_go [1, 1] S rfl (by kernel_rfl) ?_; clear S a; intro a S
    replace S := S.sub [(3, _), (7, _), (8, _), (9, _), (16, _), (86, _), (18, _), (19, _), (20, _), (6, _)] rfl
    refine nxC ?_
    refine wp_ret ?_
    refine end_one S rfl (res_tmp rfl) ?_
    first | exact ⟨rfl, M.below⟩ | exact absurd rfl h69 | exact absurd rfl h116 | exact absurd rfl h121 | exact absurd (by decide) h131
  clear S; intro h35 S
  refine st_condT S rfl ?_
  refine wp_skip ?_
  refine then_normal ?_
  refine wp_seq ?_
  refine wp_block ?_
  refine wp_seq ?_
  obtain ⟨z, hz⟩ : ∃ z, bs[i]? = some z := ⟨_, List.getElem?_eq_getElem (by omega)⟩
  refine wp_region_lit ?_
  refine st_go [1] S rfl (by kernel_rfl) ?_; clear S a; intro a S
  refine st_y S rfl rfl rfl (y_indexR (e := 3) (sz := 1) S (by kernel_rfl) rfl ((M.arg hv)) rfl (by first | omega | (simp; done) | (simp; omega))) ?_; clear S a; intro a S
  try simp only [Int.toNat_natCast, Nat.mul_one, Nat.zero_add] at S
  refine st_y S rfl rfl rfl (y_load S (by kernel_rfl) rfl ((M.arg hv).icell (i := i) hz)) ?_; clear S a; intro a S
  refine st_go [1, 1] S rfl (by kernel_rfl) ?_; clear S a; intro a S
  refine nxC ?_
  refine wp_cut (fun a w' => ∃ (xb : Bool), Sees 134 a [(2, .slice ea es.length ec), (3, .pointer (some ⟨bN, 0, none⟩)), (7, .pointer (some ⟨bT, 0, none⟩)), (8, .map (some bS)), (9, .map (some bA)), (11, .int .i64 z), (12, .bool xb), (32, .slice ba bs.length bc), (33, .int .i64 (bs.length : Int)), (34, .int .i64 (i : Int))] ∧ Mem w w' [rowE lo1 hi1 37 5 (.slice ha h.length hc) h.length (lcells h), rowE lo2 hi2 37 5 (.slice wa 0 uc) 0 [], mapX bA ma ca, mapX bS ms cs, .blk bT #[.slice ha h.length hc, .slice wa 0 uc] 30, .blk bN n.cells 23]) ?_ ?_
  · skip
    refine wp_region_lit ?_
    refine st_go [1, 1] S rfl (by kernel_rfl) ?_; clear S a; intro a S
    refine st_y S rfl rfl rfl (y_lenR (E := 4) S rfl ((M.arg hu)) (by kernel_rfl)) ?_; clear S a; intro a S
    refine st_go [1, 1] S rfl (by kernel_rfl) ?_; clear S a; intro a S
    refine st_fi (t := 43) S rfl ?_ ?_
    · clear S; intro h43 S
      refine st_no S rfl rfl rfl ?_; clear S a; intro a S
      refine st_go [0, 0, 0, 1, 1] S rfl (by kernel_rfl) ?_; clear S a; intro a S
      refine nxC ?_
      exact ⟨_, S.sub _ rfl, M⟩
    clear S; intro h43 S
    obtain ⟨eb, heb⟩ : ∃ v, es[i]? = some v := ⟨_, List.getElem?_eq_getElem (by omega)⟩
    refine st_y S rfl rfl rfl (y_move S rfl) ?_; clear S a; intro a S
    refine st_go [1] S rfl (by kernel_rfl) ?_; clear S a; intro a S
    refine st_y S rfl rfl rfl (y_indexR (e := 4) (sz := 1) S (by kernel_rfl) rfl ((M.arg hu)) rfl (by first | omega | (simp; done) | (simp; omega))) ?_; clear S a; intro a S
    try simp only [Int.toNat_natCast, Nat.mul_one, Nat.zero_add] at S
    refine st_y S rfl rfl rfl (y_load S (by kernel_rfl) rfl ((M.arg hu).at_.one i (by rw [List.getElem?_map, heb]; rfl))) ?_; clear S a; intro a S
    refine st_go [1, 1] S rfl (by kernel_rfl) ?_; clear S a; intro a S
    refine nxC ?_
    exact ⟨_, S.sub _ rfl, M⟩
  clear S a M; intro a wc
  rintro ⟨xb, S, M⟩
  refine nxD ?_
  refine st_y S rfl rfl rfl (y_loadAgg (cs := [_, _]) S (by kernel_rfl) rfl rfl (M.cellsAt (k := 2) 4 rfl rfl)) ?_; clear S a; intro a S
  refine st_y S rfl rfl rfl (y_loadAgg (cs := [_, _, _]) S (by kernel_rfl) rfl rfl (M.cellsAt (k := 3) 5 rfl rfl)) ?_; clear S a; intro a S
  refine st_go [1, 1] S rfl (by kernel_rfl) ?_; clear S a; intro a S
  refine st_y S rfl rfl rfl (y_build (ps := [(0, (Operand.tmp 51)), (1, (Operand.tmp 52)), (2, (Operand.tmp 53))]) (pl := [(0, 3), (3, 1), (4, 1)]) (z := [.int .i64 0, .int .i64 0, .int .i64 0, .int .i64 0, .bool false]) (cs := [_, _, _, _, _]) S (by kernel_rfl) rfl (rfl)) ?_; clear S a; intro a S
  refine st_call (xs := [(Operand.tmp 50), (Operand.tmp 54)]) S (enters_of Try.func7 (by decide) rfl) rfl rfl rfl (ask_any ha wa hc uc h [] ⟨n, z, xb⟩ _ (M.readAll 0 rfl (by unfold maxLen; omega)) (M.readAll 1 rfl (by decide)) (by omega) (by simp)) ?_
  rintro _ w8 ⟨er, act, v, h2, wt2, rfl, hN, hc9⟩
  obtain ⟨ha2, wa2, hc2, uc2, lo3, hi3, lo4, hi4, rfl, M1⟩ := hN
  refine ⟨_, rfl, ?_⟩; clear S a; intro a S; replace M := M.join M1; clear M1
  simp only [List.cons_append, List.nil_append] at M
  refine st_go [1, 1, 1, 1] S rfl (by kernel_rfl) ?_; clear S a; intro a S
  refine st_alloc S M rfl rfl #[.slice none 0 0, .slice none 0 0] (by kernel_rfl) ?_; clear S M a; intro a w9 bX S M hB
  refine st_store (sz := 2) (us := [_, _]) S M 0 rfl (by kernel_rfl) rfl rfl rfl rfl rfl rfl (by first | decide | (simp; done) | (simp; omega)) ?_; clear M; intro w10 M
  simp only [putL, List.set_cons_zero, List.set_cons_succ, Nat.reduceAdd] at M
  refine st_go [1, 1] S rfl (by kernel_rfl) ?_; clear S a; intro a S
  refine nxC ?_
  refine wp_seq ?_
  refine nxD ?_
  refine st_go [1, 1, 1] S rfl (by kernel_rfl) ?_; clear S a; intro a S
  refine st_if (t := 61) S rfl ?_ ?_
  · clear S; intro h61 S
    refine st_go [0, 0, 1] S rfl (by kernel_rfl) ?_; clear S a; intro a S
    replace S := S.sub [(2, _), (3, _), (7, _), (8, _), (9, _), (11, _), (12, _), (32, _), (33, _), (34, _), (13, _), (14, _), (15, _), (64, _)] rfl
    refine nxC ?_
    refine st_condT S rfl ?_
    refine wp_seq ?_
    refine wp_seq ?_
    skip
    replace M := M.drop 1
    simp only [List.eraseIdx_cons_succ, List.eraseIdx_cons_zero] at M
    replace M := M.drop 1
    simp only [List.eraseIdx_cons_succ, List.eraseIdx_cons_zero] at M
    refine wp_region_lit ?_
    refine st_go [1, 1] S rfl (by kernel_rfl) ?_; clear S a; intro a S
    refine nxC ?_
    refine st_if (t := 66) S rfl ?_ ?_
    · clear S; intro h66 S
      exfalso
      rcases hc9 with ⟨rfl, ⟨-, hm⟩, -⟩ | ⟨rfl, -⟩
      · unfold Lk.may knownB at hm
        simp only [Bool.and_eq_true, decide_eq_true_eq] at hm
        omega
      · exact h66 rfl
    clear S; intro h66 S
    refine st_condF S rfl ?_
    refine wp_skip ?_
    refine then_normal ?_
    refine wp_exit ?_
    refine then_exit ?_
    refine block_hit ?_
    refine nxF ?_
    (first | refine st_y S rfl rfl rfl (y_addN S rfl rfl (by omega)) ?_ | refine st_y S rfl rfl rfl (y_int S rfl rfl rfl) ?_); clear S a; intro a S
    refine st_go [1] S rfl (by kernel_rfl) ?_; clear S a; intro a S
    refine nxC ?_
    skip
    replace M := M.drop 0
    simp only [List.eraseIdx_cons_succ, List.eraseIdx_cons_zero] at M
    replace M := M.front 5 rfl
    simp only [List.eraseIdx_cons_succ, List.eraseIdx_cons_zero] at M
    replace M := M.front 5 rfl
    simp only [List.eraseIdx_cons_succ, List.eraseIdx_cons_zero] at M
    replace M := M.front 5 rfl
    simp only [List.eraseIdx_cons_succ, List.eraseIdx_cons_zero] at M
    replace M := M.front 5 rfl
    simp only [List.eraseIdx_cons_succ, List.eraseIdx_cons_zero] at M
    replace M := M.front 5 rfl
    simp only [List.eraseIdx_cons_succ, List.eraseIdx_cons_zero] at M
    replace M := M.front 5 rfl
    simp only [List.eraseIdx_cons_succ, List.eraseIdx_cons_zero] at M
    first
      | exact ⟨bs.length - (i + 1), by omega, i + 1, h, ha, wa, hc, uc, _, _, _, _, ms, ma, cs, ca, by omega, rfl, hAl, by omega, hGs, hGa, hSV, hAV, S.sub _ rfl, M⟩
      | (have hmx := mode_bd ⟨n, z, xb⟩
         have hme : (⟨n, z, xb⟩ : Lk).mode = 2 ↔ xb = true := by unfold Lk.mode; cases xb <;> simp
         have hbd := holds_bd h (n, z)
         have hh3 : ∀ k, holdsV h2 (n, k) = if k = z then max (holdsV h (n, k)) (⟨n, z, xb⟩ : Lk).mode else holdsV h (n, k) := hh2
         obtain ⟨mo, hmo⟩ : ∃ mo, (⟨n, z, xb⟩ : Lk).mode = mo := ⟨_, rfl⟩
         rw [hmo] at hh3 hmx hme
         exact ⟨bs.length - (i + 1), by omega, i + 1, h2, ha2, wa2, hc2, uc2, _, _, _, _, _, _, _, _, by omega, rfl, hAl2, by omega, hGs.put _ _, hGa.put _ _, hSV.step hh3 (by first | exact (decide_eq_true (by omega)).symm | (rw [Bool.eq_iff_iff, ← hme, decide_eq_true_eq]; omega)), hAV.step hmx.1 hh3, S.sub _ rfl, M⟩)
  clear S; intro h61 S
  refine st_go [1, 1, 1] S rfl (by kernel_rfl) ?_; clear S a; intro a S
  replace S := S.sub [(2, _), (3, _), (7, _), (8, _), (9, _), (11, _), (12, _), (32, _), (33, _), (34, _), (13, _), (14, _), (15, _), (64, _)] rfl
  refine nxC ?_
  refine st_if (t := 64) S rfl ?_ ?_
  · clear S; intro h64 S
    refine st_condT S rfl ?_
    refine wp_seq ?_
    refine wp_seq ?_
    skip
    replace M := M.drop 1
    simp only [List.eraseIdx_cons_succ, List.eraseIdx_cons_zero] at M
    replace M := M.drop 1
    simp only [List.eraseIdx_cons_succ, List.eraseIdx_cons_zero] at M
    refine wp_region_lit ?_
    refine st_go [1, 1] S rfl (by kernel_rfl) ?_; clear S a; intro a S
    refine nxC ?_
    refine st_if (t := 66) S rfl ?_ ?_
    · clear S; intro h66 S
      exfalso
      rcases hc9 with ⟨rfl, ⟨-, hm⟩, -⟩ | ⟨rfl, -⟩
      · unfold Lk.may knownB at hm
        simp only [Bool.and_eq_true, decide_eq_true_eq] at hm
        omega
      · exact h66 rfl
    clear S; intro h66 S
    refine st_condF S rfl ?_
    refine wp_skip ?_
    refine then_normal ?_
    refine wp_exit ?_
    refine then_exit ?_
    refine block_hit ?_
    refine nxF ?_
    (first | refine st_y S rfl rfl rfl (y_addN S rfl rfl (by omega)) ?_ | refine st_y S rfl rfl rfl (y_int S rfl rfl rfl) ?_); clear S a; intro a S
    refine st_go [1] S rfl (by kernel_rfl) ?_; clear S a; intro a S
    refine nxC ?_
    skip
    replace M := M.drop 0
    simp only [List.eraseIdx_cons_succ, List.eraseIdx_cons_zero] at M
    replace M := M.front 5 rfl
    simp only [List.eraseIdx_cons_succ, List.eraseIdx_cons_zero] at M
    replace M := M.front 5 rfl
    simp only [List.eraseIdx_cons_succ, List.eraseIdx_cons_zero] at M
    replace M := M.front 5 rfl
    simp only [List.eraseIdx_cons_succ, List.eraseIdx_cons_zero] at M
    replace M := M.front 5 rfl
    simp only [List.eraseIdx_cons_succ, List.eraseIdx_cons_zero] at M
    replace M := M.front 5 rfl
    simp only [List.eraseIdx_cons_succ, List.eraseIdx_cons_zero] at M
    replace M := M.front 5 rfl
    simp only [List.eraseIdx_cons_succ, List.eraseIdx_cons_zero] at M
    first
      | exact ⟨bs.length - (i + 1), by omega, i + 1, h, ha, wa, hc, uc, _, _, _, _, ms, ma, cs, ca, by omega, rfl, hAl, by omega, hGs, hGa, hSV, hAV, S.sub _ rfl, M⟩
      | (have hmx := mode_bd ⟨n, z, xb⟩
         have hme : (⟨n, z, xb⟩ : Lk).mode = 2 ↔ xb = true := by unfold Lk.mode; cases xb <;> simp
         have hbd := holds_bd h (n, z)
         have hh3 : ∀ k, holdsV h2 (n, k) = if k = z then max (holdsV h (n, k)) (⟨n, z, xb⟩ : Lk).mode else holdsV h (n, k) := hh2
         obtain ⟨mo, hmo⟩ : ∃ mo, (⟨n, z, xb⟩ : Lk).mode = mo := ⟨_, rfl⟩
         rw [hmo] at hh3 hmx hme
         exact ⟨bs.length - (i + 1), by omega, i + 1, h2, ha2, wa2, hc2, uc2, _, _, _, _, _, _, _, _, by omega, rfl, hAl2, by omega, hGs.put _ _, hGa.put _ _, hSV.step hh3 (by first | exact (decide_eq_true (by omega)).symm | (rw [Bool.eq_iff_iff, ← hme, decide_eq_true_eq]; omega)), hAV.step hmx.1 hh3, S.sub _ rfl, M⟩)
  clear S; intro h64 S
  refine st_condF S rfl ?_
  refine wp_skip ?_
  refine then_normal ?_
  refine wp_seq ?_
  refine wp_seq ?_
  have hmay : (⟨n, z, xb⟩ : Lk).may = true := by
    unfold Lk.may knownB
    simp only [Bool.and_eq_true, decide_eq_true_eq]
    exact ⟨hnm, by omega, by omega⟩
  obtain ⟨rfl, R⟩ : er = 0 ∧ AskRel h [] ⟨n, z, xb⟩ h2 wt2 act := by
    rcases hc9 with ⟨h1, -, R⟩ | ⟨-, h2, -⟩
    · exact ⟨h1, R⟩
    · exact absurd ⟨hAl.ok, hmay⟩ h2
  obtain ⟨rfl, rfl, hAl2, hlen2, hh2⟩ := alone_step hAl rfl hmay R
  refine wp_region_lit ?_
  refine st_go [1, 1, 1] S rfl (by kernel_rfl) ?_; clear S a; intro a S
  refine st_if (t := 69) S rfl ?_ ?_
  · clear S; intro h69 S
    refine st_go [0, 0, 1] S rfl (by kernel_rfl) ?_; clear S a; intro a S
    refine nxC ?_
    refine st_condT S rfl ?_
    refine nxD ?_
    refine st_go [1] S rfl (by kernel_rfl) ?_; clear S a; intro a S
    refine nxC ?_
    refine wp_ret ?_
    refine then_ret ?_
    refine block_ret ?_
    refine then_ret ?_
    refine then_ret ?_
    refine block_ret ?_
    refine then_ret ?_
    refine end_one S rfl (res_tmp rfl) ?_
    first | exact ⟨rfl, M.below⟩ | exact absurd rfl h69 | exact absurd rfl h116 | exact absurd rfl h121 | exact absurd (by decide) h131
  clear S; intro h69 S
  refine st_go [1, 1, 1] S rfl (by kernel_rfl) ?_; clear S a; intro a S
  refine nxC ?_
  refine st_if (t := 72) S rfl ?_ ?_
  · clear S; intro h72 S
    exfalso; first | exact absurd rfl h69 | omega | simp_all
  clear S; intro h72 S
  refine st_condF S rfl ?_
  refine wp_skip ?_
  refine then_normal ?_
  refine wp_seq ?_
  skip
  replace M := M.drop 3
  simp only [List.eraseIdx_cons_succ, List.eraseIdx_cons_zero] at M
  replace M := M.drop 3
  simp only [List.eraseIdx_cons_succ, List.eraseIdx_cons_zero] at M
  refine wp_region_lit ?_
  refine st_go [1, 1, 1, 1] S rfl (by kernel_rfl) ?_; clear S a; intro a S
  refine st_y S rfl rfl rfl (y_lookupM (pos := 4) S M (keyI) (hGs) Try.underlying31 (zero_bool) rfl rfl rfl) ?_; clear S a; intro a S
  simp only [Bool.false_eq_true, if_false, hSV z] at S
  refine st_y S rfl rfl rfl (y_move S rfl) ?_; clear S a; intro a S
  refine st_if (t := 78) S rfl ?_ ?_
  · clear S; intro h78 S
    refine st_go [0, 1] S rfl (by kernel_rfl) ?_; clear S a; intro a S
    refine st_updateM (pos := 4) S M (keyI) (hGs) Try.underlying31 rfl rfl rfl rfl rfl ?_; clear M; intro w11 M
    simp only [List.set_cons_zero, List.set_cons_succ] at M
    refine nxA ?_
    refine st_go [1, 1] S rfl (by kernel_rfl) ?_; clear S a; intro a S
    refine st_updateM (pos := 3) S M (keyI) (hGa) Try.underlying31 rfl rfl rfl rfl rfl ?_; clear M; intro w12 M
    simp only [List.set_cons_zero, List.set_cons_succ] at M
    replace S := S.sub [(2, _), (3, _), (7, _), (8, _), (9, _), (11, _), (12, _), (32, _), (33, _), (34, _), (13, _), (14, _), (15, _), (64, _), (72, _)] rfl
    refine nxB ?_
    refine st_y S rfl rfl rfl (y_loadAgg (cs := [_, _]) S (by kernel_rfl) rfl rfl (M.cellsAt (k := 2) 0 rfl rfl)) ?_; clear S a; intro a S
    refine st_store (sz := 2) (us := [_, _]) S M 5 rfl (by kernel_rfl) rfl rfl rfl rfl rfl rfl (by first | decide | (simp; done) | (simp; omega)) ?_; clear M; intro w13 M
    simp only [putL, List.set_cons_zero, List.set_cons_succ, Nat.reduceAdd] at M
    refine wpList_nil ?_
    refine block_normal ?_
    refine nxF ?_
    (first | refine st_y S rfl rfl rfl (y_addN S rfl rfl (by omega)) ?_ | refine st_y S rfl rfl rfl (y_int S rfl rfl rfl) ?_); clear S a; intro a S
    refine st_go [1] S rfl (by kernel_rfl) ?_; clear S a; intro a S
    refine nxC ?_
    skip
    replace M := M.drop 0
    simp only [List.eraseIdx_cons_succ, List.eraseIdx_cons_zero] at M
    replace M := M.front 5 rfl
    simp only [List.eraseIdx_cons_succ, List.eraseIdx_cons_zero] at M
    replace M := M.front 5 rfl
    simp only [List.eraseIdx_cons_succ, List.eraseIdx_cons_zero] at M
    replace M := M.front 5 rfl
    simp only [List.eraseIdx_cons_succ, List.eraseIdx_cons_zero] at M
    replace M := M.front 5 rfl
    simp only [List.eraseIdx_cons_succ, List.eraseIdx_cons_zero] at M
    replace M := M.front 5 rfl
    simp only [List.eraseIdx_cons_succ, List.eraseIdx_cons_zero] at M
    replace M := M.front 5 rfl
    simp only [List.eraseIdx_cons_succ, List.eraseIdx_cons_zero] at M
    first
      | exact ⟨bs.length - (i + 1), by omega, i + 1, h, ha, wa, hc, uc, _, _, _, _, ms, ma, cs, ca, by omega, rfl, hAl, by omega, hGs, hGa, hSV, hAV, S.sub _ rfl, M⟩
      | (have hmx := mode_bd ⟨n, z, xb⟩
         have hme : (⟨n, z, xb⟩ : Lk).mode = 2 ↔ xb = true := by unfold Lk.mode; cases xb <;> simp
         have hbd := holds_bd h (n, z)
         have hh3 : ∀ k, holdsV h2 (n, k) = if k = z then max (holdsV h (n, k)) (⟨n, z, xb⟩ : Lk).mode else holdsV h (n, k) := hh2
         obtain ⟨mo, hmo⟩ : ∃ mo, (⟨n, z, xb⟩ : Lk).mode = mo := ⟨_, rfl⟩
         rw [hmo] at hh3 hmx hme
         exact ⟨bs.length - (i + 1), by omega, i + 1, h2, ha2, wa2, hc2, uc2, _, _, _, _, _, _, _, _, by omega, rfl, hAl2, by omega, hGs.put _ _, hGa.put _ _, hSV.step hh3 (by first | exact (decide_eq_true (by omega)).symm | (rw [Bool.eq_iff_iff, ← hme, decide_eq_true_eq]; omega)), hAV.step hmx.1 hh3, S.sub _ rfl, M⟩)
  clear S; intro h78 S
  refine st_go [1, 1] S rfl (by kernel_rfl) ?_; clear S a; intro a S
  refine st_updateM (pos := 4) S M (keyI) (hGs) Try.underlying31 rfl rfl rfl rfl rfl ?_; clear M; intro w14 M
  simp only [List.set_cons_zero, List.set_cons_succ] at M
  refine nxA ?_
  refine st_go [1, 1] S rfl (by kernel_rfl) ?_; clear S a; intro a S
  refine st_updateM (pos := 3) S M (keyI) (hGa) Try.underlying31 rfl rfl rfl rfl rfl ?_; clear M; intro w15 M
  simp only [List.set_cons_zero, List.set_cons_succ] at M
  replace S := S.sub [(2, _), (3, _), (7, _), (8, _), (9, _), (11, _), (12, _), (32, _), (33, _), (34, _), (13, _), (14, _), (15, _), (64, _), (72, _)] rfl
  refine nxB ?_
  refine st_y S rfl rfl rfl (y_loadAgg (cs := [_, _]) S (by kernel_rfl) rfl rfl (M.cellsAt (k := 2) 0 rfl rfl)) ?_; clear S a; intro a S
  refine st_store (sz := 2) (us := [_, _]) S M 5 rfl (by kernel_rfl) rfl rfl rfl rfl rfl rfl (by first | decide | (simp; done) | (simp; omega)) ?_; clear M; intro w16 M
  simp only [putL, List.set_cons_zero, List.set_cons_succ, Nat.reduceAdd] at M
  refine wpList_nil ?_
  refine block_normal ?_
  refine nxF ?_
  (first | refine st_y S rfl rfl rfl (y_addN S rfl rfl (by omega)) ?_ | refine st_y S rfl rfl rfl (y_int S rfl rfl rfl) ?_); clear S a; intro a S
  refine st_go [1] S rfl (by kernel_rfl) ?_; clear S a; intro a S
  refine nxC ?_
  skip
  replace M := M.drop 0
  simp only [List.eraseIdx_cons_succ, List.eraseIdx_cons_zero] at M
  replace M := M.front 5 rfl
  simp only [List.eraseIdx_cons_succ, List.eraseIdx_cons_zero] at M
  replace M := M.front 5 rfl
  simp only [List.eraseIdx_cons_succ, List.eraseIdx_cons_zero] at M
  replace M := M.front 5 rfl
  simp only [List.eraseIdx_cons_succ, List.eraseIdx_cons_zero] at M
  replace M := M.front 5 rfl
  simp only [List.eraseIdx_cons_succ, List.eraseIdx_cons_zero] at M
  replace M := M.front 5 rfl
  simp only [List.eraseIdx_cons_succ, List.eraseIdx_cons_zero] at M
  replace M := M.front 5 rfl
  simp only [List.eraseIdx_cons_succ, List.eraseIdx_cons_zero] at M
  first
    | exact ⟨bs.length - (i + 1), by omega, i + 1, h, ha, wa, hc, uc, _, _, _, _, ms, ma, cs, ca, by omega, rfl, hAl, by omega, hGs, hGa, hSV, hAV, S.sub _ rfl, M⟩
    | (have hmx := mode_bd ⟨n, z, xb⟩
       have hme : (⟨n, z, xb⟩ : Lk).mode = 2 ↔ xb = true := by unfold Lk.mode; cases xb <;> simp
       have hbd := holds_bd h (n, z)
       have hh3 : ∀ k, holdsV h2 (n, k) = if k = z then max (holdsV h (n, k)) (⟨n, z, xb⟩ : Lk).mode else holdsV h (n, k) := hh2
       obtain ⟨mo, hmo⟩ : ∃ mo, (⟨n, z, xb⟩ : Lk).mode = mo := ⟨_, rfl⟩
       rw [hmo] at hh3 hmx hme
       exact ⟨bs.length - (i + 1), by omega, i + 1, h2, ha2, wa2, hc2, uc2, _, _, _, _, _, _, _, _, by omega, rfl, hAl2, by omega, hGs.put _ _, hGa.put _ _, hSV.step hh3 (by first | exact (decide_eq_true (by omega)).symm | (rw [Bool.eq_iff_iff, ← hme, decide_eq_true_eq]; omega)), hAV.step hmx.1 hh3, S.sub _ rfl, M⟩)

end Go.Proofs.Ytcbofgcmfkcglaa
