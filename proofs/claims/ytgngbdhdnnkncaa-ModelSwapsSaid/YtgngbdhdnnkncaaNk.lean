/-
  law26: ModelSwaps.
-/
import Derived.Test.YtgngbdhdnnkncaaNj
namespace Go.Proofs.Ytgngbdhdnnkncaa
open Go.RowKit Go.Sort

theorem all_two (home : List V8) (hh : home.length = 32) (va a b : Option Addr) (vc c d : Nat) (m n : List Sn) (w : World) (hv : Rd 0 w.heap.size w 1 (.slice va 2 vc) 2 [.slice a m.length c, .slice b n.length d])
    (h1 : Ss 0 w.heap.size w (.slice a m.length c) m) (h2 : Ss 0 w.heap.size w (.slice b n.length d) n) (ok1 : ∀ x ∈ m, okS x) (ok2 : ∀ x ∈ n, okS x) (hm : (doR home m).2 = true) (hn : (doR (doR home m).1 n).2 = true) :
    Calls Try.prog 10 #[.agg (hcells home).toArray, .slice va 2 vc] w fun e w' => e = .returned (.tuple #[.agg (hcells (doR (doR home m).1 n).1).toArray, .int .i64 2, .int .i64 0]) ∧ Below w.heap.size w w' := by
  refine (all_any home hh va vc [(.slice a m.length c, m), (.slice b n.length d, n)] w hv (fun q hq => ?_) (fun q hq => ?_) (by simp)).mono fun e w' ⟨he, hK⟩ => ⟨?_, hK⟩
  · rcases List.mem_cons.1 hq with rfl | hq
    · exact ⟨a, c, rfl, h1⟩
    · rcases List.mem_cons.1 hq with rfl | hq
      · exact ⟨b, d, rfl, h2⟩
      · cases hq
  · rcases List.mem_cons.1 hq with rfl | hq
    · exact ok1
    · rcases List.mem_cons.1 hq with rfl | hq
      · exact ok2
      · cases hq
  · rw [he]
    simp only [List.map_cons, List.map_nil, allR_two hm hn]
    rfl
set_option maxHeartbeats 4000000 in
set_option maxRecDepth 10000 in
theorem swaps_any (home : List V8) (hh : home.length = 32) (va vb : Option Addr) (vc vd : Nat) (x y : List Sn) (w : World) (hv : Ss 0 w.heap.size w (.slice va x.length vc) x) (hu : Ss 0 w.heap.size w (.slice vb y.length vd) y) :
    Calls Try.prog 4 #[.agg (hcells home).toArray, .slice va x.length vc, .slice vb y.length vd] w fun e w' => e = .returned (.bool true) ∧ Below w.heap.size w w' := by
  have M := Mem.start w
  have hhc : (hcells home).length = 256 := by rw [hcells_length, hh]
  refine calls_enter Try.func4 rfl 126 rfl rfl ?_; intro a S
  refine nxD ?_
  refine st_box S M rfl rfl rfl _ rfl ?_; clear S M a; intro a w1 bC S M hB
  refine st_go [1] S rfl (by kernel_rfl) ?_; clear S a; intro a S
  refine nxC ?_
  refine wp_seq ?_
  refine nxD ?_
  refine st_go [1] S rfl (by kernel_rfl) ?_; clear S a; intro a S
  refine st_y S rfl rfl rfl (y_lenS (E := 36) S rfl (by kernel_rfl)) ?_; clear S a; intro a S
  refine st_go [1, 1] S rfl (by kernel_rfl) ?_; clear S a; intro a S
  refine st_if (t := 23) S rfl ?_ ?_
  · clear S; intro h23 S
    refine st_go [0, 0, 0, 1] S rfl (by kernel_rfl) ?_; clear S a; intro a S
    refine nxC ?_
    refine st_condT S rfl ?_
    refine nxD ?_
    refine st_call (xs := []) S (enters_of Try.func5 (by decide) rfl) rfl rfl rfl (wakes26_any _) ?_
    rintro _ w2 ⟨rfl, hK⟩; refine ⟨_, rfl, ?_⟩; clear S a; intro a S; replace M := M.grow hK
    refine st_go [1] S rfl (by kernel_rfl) ?_; clear S a; intro a S
    refine nxC ?_
    refine wp_ret ?_
    refine then_ret ?_
    refine end_one S rfl (res_tmp rfl) ?_
    first | exact ⟨rfl, M.below⟩ | exact absurd rfl h97 | exact absurd rfl h101 | exact absurd rfl h105 | exact absurd rfl h109 | exact absurd h114 (by decide) | (rw [beq_self_eq_true] at h123; cases h123)
  clear S; intro h23 S
  refine st_go [1] S rfl (by kernel_rfl) ?_; clear S a; intro a S
  refine st_y S rfl rfl rfl (y_lenS (E := 36) S rfl (by kernel_rfl)) ?_; clear S a; intro a S
  refine st_go [1, 1] S rfl (by kernel_rfl) ?_; clear S a; intro a S
  refine nxC ?_
  refine st_if (t := 27) S rfl ?_ ?_
  · clear S; intro h27 S
    refine st_condT S rfl ?_
    refine nxD ?_
    refine st_call (xs := []) S (enters_of Try.func5 (by decide) rfl) rfl rfl rfl (wakes26_any _) ?_
    rintro _ w3 ⟨rfl, hK⟩; refine ⟨_, rfl, ?_⟩; clear S a; intro a S; replace M := M.grow hK
    refine st_go [1] S rfl (by kernel_rfl) ?_; clear S a; intro a S
    refine nxC ?_
    refine wp_ret ?_
    refine then_ret ?_
    refine end_one S rfl (res_tmp rfl) ?_
    first | exact ⟨rfl, M.below⟩ | exact absurd rfl h97 | exact absurd rfl h101 | exact absurd rfl h105 | exact absurd rfl h109 | exact absurd h114 (by decide) | (rw [beq_self_eq_true] at h123; cases h123)
  clear S; intro h27 S
  refine st_condF S rfl ?_
  refine wp_skip ?_
  refine nxE ?_
  refine st_y S rfl rfl rfl (y_loadAgg (k := 256) (cs := _) S (by kernel_rfl) rfl (by with_reducible first | exact hhc | exact zHome_len | exact hl2 | exact hl3 | exact hl4) (M.cellsAt 0 rfl cutL_all)) ?_; clear S a; intro a S
  refine st_go [1] S rfl (by kernel_rfl) ?_; clear S a; intro a S
  refine st_call (xs := [(Operand.tmp 30), (Operand.tmp 31)]) S (enters_of Try.func8 (by decide) rfl) rfl rfl rfl (fill_any home hh va vc x _ (M.argW hv) (by omega)) ?_
  rintro _ w4 ⟨er, ma, mc, m, lo1, hi1, rfl, M1, her, hm, hm0⟩; refine ⟨_, rfl, ?_⟩; clear S a; intro a S; replace M := M.join M1; clear M1
  simp only [List.cons_append, List.nil_append] at M
  refine st_go [1, 1, 1, 1, 1] S rfl (by kernel_rfl) ?_; clear S a; intro a S
  refine nxC ?_
  refine wp_seq ?_
  refine nxD ?_
  refine st_go [1, 1] S rfl (by kernel_rfl) ?_; clear S a; intro a S
  replace S := S.sub [(0, _), (1, _), (2, _), (3, _), (6, _), (27, _), (7, _), (8, _), (36, _)] rfl
  refine nxC ?_
  refine st_if (t := 36) S rfl ?_ ?_
  · clear S; intro h36 S
    refine st_condT S rfl ?_
    refine wp_seq ?_
    obtain rfl := hm0 (by omega)
    refine wp_region_lit ?_
    refine st_go [1] S rfl (by kernel_rfl) ?_; clear S a; intro a S
    refine st_y S rfl rfl rfl (y_lenS (E := 36) S rfl (by kernel_rfl)) ?_; clear S a; intro a S
    refine st_go [1, 1] S rfl (by kernel_rfl) ?_; clear S a; intro a S
    refine st_fi (t := 40) S rfl ?_ ?_
    · clear S; intro h40 S
      exfalso; exact absurd rfl h40
    clear S; intro h40 S
    refine st_call (xs := []) S (enters_of Try.func5 (by decide) rfl) rfl rfl rfl (wakes26_any _) ?_
    rintro _ w5 ⟨rfl, hK⟩; refine ⟨_, rfl, ?_⟩; clear S a; intro a S; replace M := M.grow hK
    refine st_go [1, 1] S rfl (by kernel_rfl) ?_; clear S a; intro a S
    refine nxC ?_
    refine wp_ret ?_
    refine then_ret ?_
    refine end_one S rfl (res_tmp rfl) ?_
    first | exact ⟨rfl, M.below⟩ | exact absurd rfl h97 | exact absurd rfl h101 | exact absurd rfl h105 | exact absurd rfl h109 | exact absurd h114 (by decide) | (rw [beq_self_eq_true] at h123; cases h123)
  clear S; intro h36 S
  refine st_condF S rfl ?_
  refine wp_skip ?_
  refine then_normal ?_
  refine wp_seq ?_
  have her0 : er = 0 := by omega
  have hmE := hm her0
  have hmt : (doR home m).2 = true := by rw [hmE]; exact fill_told hh
  have hml : m.length = x.length := by rw [hmE]; exact fill_len home x
  have hmk : ∀ q ∈ m, okS q := by rw [hmE]; exact fill_ok hh (her.1 her0)
  have hms : sk (stepsP m m.length) = sk (stepsP x x.length) := by rw [hmE]; exact fill_sk hh
  refine wp_region_lit ?_
  refine st_y S rfl rfl rfl (y_loadAgg (k := 256) (cs := _) S (by kernel_rfl) rfl (by with_reducible first | exact hhc | exact zHome_len | exact hl2 | exact hl3 | exact hl4) (M.cellsAt 1 rfl cutL_all)) ?_; clear S a; intro a S
  refine st_go [1] S rfl (by kernel_rfl) ?_; clear S a; intro a S
  refine st_call (xs := [(Operand.tmp 44), (Operand.tmp 45)]) S (enters_of Try.func6 (by decide) rfl) rfl rfl rfl (do_any home hh ma mc m _ (M.readAll 0 rfl (by unfold maxLen; omega))) ?_
  rintro _ w6 ⟨er2, h2, told, rfl, hK, hh2, her2, hdo⟩
  obtain rfl := her2.2 hmk
  obtain rfl : h2 = (doR home m).1 := congrArg Prod.fst (hdo rfl)
  obtain rfl : told = true := (congrArg Prod.snd (hdo rfl)).trans hmt
  have hl2 : (hcells (doR home m).1).length = 256 := by rw [hcells_length, hh2]
  refine ⟨_, rfl, ?_⟩; clear S a; intro a S; replace M := M.grow hK
  refine st_go [1, 1, 1, 1] S rfl (by kernel_rfl) ?_; clear S a; intro a S
  refine st_alloc S M rfl rfl (hcells zHome).toArray (by kernel_rfl) ?_; clear S M a; intro a w7 bA S M hB
  refine st_storeAll (sz := 256) S M 0 rfl (by kernel_rfl) rfl rfl (by with_reducible first | exact hhc | exact zHome_len | exact hl2 | exact hl3 | exact hl4) (by exact allOne_hcells _) rfl (by with_reducible first | exact hhc | exact zHome_len | exact hl2 | exact hl3 | exact hl4) ?_; clear M; intro w8 M
  simp only [List.set_cons_zero, List.set_cons_succ] at M
  refine st_go [1, 1] S rfl (by kernel_rfl) ?_; clear S a; intro a S
  refine nxC ?_
  refine wp_seq ?_
  refine nxD ?_
  refine st_go [1, 1, 1] S rfl (by kernel_rfl) ?_; clear S a; intro a S
  refine st_if (t := 52) S rfl ?_ ?_
  · clear S; intro h52 S
    exact absurd rfl h52
  clear S; intro h52 S
  refine st_go [1, 1, 1, 1] S rfl (by kernel_rfl) ?_; clear S a; intro a S
  refine st_if (t := 56) S rfl ?_ ?_
  · clear S; intro h56 S
    exact absurd h56 (by decide)
  clear S; intro h56 S
  refine st_go [1] S rfl (by kernel_rfl) ?_; clear S a; intro a S
  refine st_y S rfl rfl rfl (y_lenS (E := 36) S rfl (by kernel_rfl)) ?_; clear S a; intro a S
  refine st_go [1] S rfl (by kernel_rfl) ?_; clear S a; intro a S
  refine st_y S rfl rfl rfl (y_lenS (E := 36) S rfl (by kernel_rfl)) ?_; clear S a; intro a S
  refine st_go [1, 1] S rfl (by kernel_rfl) ?_; clear S a; intro a S
  replace S := S.sub [(0, _), (1, _), (2, _), (3, _), (6, _), (27, _), (7, _), (8, _), (36, _), (9, _), (10, _), (11, _), (62, _)] rfl
  refine nxC ?_
  refine st_if (t := 62) S rfl ?_ ?_
  · clear S; intro h62 S
    exfalso; omega
  clear S; intro h62 S
  refine st_condF S rfl ?_
  refine wp_skip ?_
  refine nxE ?_
  refine st_y S rfl rfl rfl (y_loadAgg (k := 256) (cs := _) S (by kernel_rfl) rfl (by with_reducible first | exact hhc | exact zHome_len | exact hl2 | exact hl3 | exact hl4) (M.cellsAt 0 rfl cutL_all)) ?_; clear S a; intro a S
  refine st_go [1] S rfl (by kernel_rfl) ?_; clear S a; intro a S
  refine st_call (xs := [(Operand.tmp 64), (Operand.tmp 65)]) S (enters_of Try.func8 (by decide) rfl) rfl rfl rfl (fill_any (doR home m).1 hh2 vb vd y _ (M.argW hu) (by omega)) ?_
  rintro _ w9 ⟨er3, na, nc, n, lo2, hi2, rfl, M1, her3, hn, hn0⟩; refine ⟨_, rfl, ?_⟩; clear S a; intro a S; replace M := M.join M1; clear M1
  simp only [List.cons_append, List.nil_append] at M
  refine st_go [1, 1, 1, 1, 1] S rfl (by kernel_rfl) ?_; clear S a; intro a S
  refine nxC ?_
  refine wp_seq ?_
  refine nxD ?_
  refine st_go [1, 1, 1] S rfl (by kernel_rfl) ?_; clear S a; intro a S
  refine st_if (t := 71) S rfl ?_ ?_
  · clear S; intro h71 S
    refine st_go [0, 0, 0, 1] S rfl (by kernel_rfl) ?_; clear S a; intro a S
    refine nxC ?_
    refine st_condT S rfl ?_
    refine nxD ?_
    refine st_call (xs := []) S (enters_of Try.func5 (by decide) rfl) rfl rfl rfl (wakes26_any _) ?_
    rintro _ w10 ⟨rfl, hK⟩; refine ⟨_, rfl, ?_⟩; clear S a; intro a S; replace M := M.grow hK
    refine st_go [1] S rfl (by kernel_rfl) ?_; clear S a; intro a S
    replace S := S.sub [(0, _), (1, _), (2, _), (3, _), (27, _), (7, _), (8, _), (36, _), (9, _), (10, _), (11, _), (62, _), (12, _), (13, _), (75, _), (6, _)] rfl
    refine nxC ?_
    refine wp_ret ?_
    refine then_ret ?_
    refine end_one S rfl (res_tmp rfl) ?_
    first | exact ⟨rfl, M.below⟩ | exact absurd rfl h97 | exact absurd rfl h101 | exact absurd rfl h105 | exact absurd rfl h109 | exact absurd h114 (by decide) | (rw [beq_self_eq_true] at h123; cases h123)
  clear S; intro h71 S
  refine st_go [1, 1] S rfl (by kernel_rfl) ?_; clear S a; intro a S
  refine st_call (xs := [(Operand.tmp 72), (Operand.tmp 73)]) S (enters_of Try.func9 (by decide) rfl) rfl rfl rfl (clash_any va vb vc vd x y _ (M.argW hv) (M.argW hu) (by omega) (by omega)) ?_
  rintro _ w11 ⟨b1, rfl, hK, hcl⟩; refine ⟨_, rfl, ?_⟩; clear S a; intro a S; replace M := M.grow hK
  refine st_go [1] S rfl (by kernel_rfl) ?_; clear S a; intro a S
  refine nxC ?_
  refine st_split (t := 75) S rfl ?_ ?_
  · clear S; intro h75 S
    refine st_condT S rfl ?_
    refine nxD ?_
    refine st_call (xs := []) S (enters_of Try.func5 (by decide) rfl) rfl rfl rfl (wakes26_any _) ?_
    rintro _ w12 ⟨rfl, hK⟩; refine ⟨_, rfl, ?_⟩; clear S a; intro a S; replace M := M.grow hK
    refine st_go [1] S rfl (by kernel_rfl) ?_; clear S a; intro a S
    replace S := S.sub [(0, _), (1, _), (2, _), (3, _), (27, _), (7, _), (8, _), (36, _), (9, _), (10, _), (11, _), (62, _), (12, _), (13, _), (75, _), (6, _)] rfl
    refine nxC ?_
    refine wp_ret ?_
    refine then_ret ?_
    refine end_one S rfl (res_tmp rfl) ?_
    first | exact ⟨rfl, M.below⟩ | exact absurd rfl h97 | exact absurd rfl h101 | exact absurd rfl h105 | exact absurd rfl h109 | exact absurd h114 (by decide) | (rw [beq_self_eq_true] at h123; cases h123)
  clear S; intro h75 S
  refine st_condF S rfl ?_
  refine wp_skip ?_
  refine then_normal ?_
  refine wp_seq ?_
  have her03 : er3 = 0 := by omega
  have hnE := hn her03
  have hnt : (doR (doR home m).1 n).2 = true := by rw [hnE]; exact fill_told hh2
  have hnl : n.length = y.length := by rw [hnE]; exact fill_len _ y
  have hnk : ∀ q ∈ n, okS q := by rw [hnE]; exact fill_ok hh2 (her3.1 her03)
  have hns : sk (stepsP n n.length) = sk (stepsP y y.length) := by rw [hnE]; exact fill_sk hh2
  have hnc : ¬ ClashP (stepsP m m.length) (stepsP n n.length) := by
    rw [clash_sk hms hns, ← hcl]; simp [h75]
  obtain ⟨hs1, hs2, hs3⟩ := swap hmt hnt hnc
  have hl3 : (hcells (doR (doR home m).1 n).1).length = 256 := by rw [hcells_length]; unfold doR; rw [foldD_len, foldD_len, hh]
  have hl4 : (hcells (doR (doR home n).1 m).1).length = 256 := by rw [hs3]; exact hl3
  refine wp_region_lit ?_
  refine st_y S rfl rfl rfl (y_loadAgg (k := 256) (cs := _) S (by kernel_rfl) rfl (by with_reducible first | exact hhc | exact zHome_len | exact hl2 | exact hl3 | exact hl4) (M.cellsAt 3 rfl cutL_all)) ?_; clear S a; intro a S
  refine st_go [1, 1] S rfl (by kernel_rfl) ?_; clear S a; intro a S
  refine st_lit (ps := [(0, (Operand.tmp 79)), (1, (Operand.tmp 80))]) (e := 25) (sz := 1) (zl := [.slice none 0 0, .slice none 0 0]) (cs := [_, _]) S M rfl rfl (by kernel_rfl) rfl (rfl) ?_; clear S M a; intro a w13 bP S M hB
  refine st_call (xs := [(Operand.tmp 78), (Operand.tmp 81)]) S (enters_of Try.func10 (by decide) rfl) rfl rfl rfl (all_two home hh _ ma na _ mc nc m n _ (M.sliceAt (m := 2) (sz := 1) 0 rfl (M.cellsAt (k := 2) 0 rfl rfl) rfl (Nat.le_refl 2) (by decide)) (M.readAll 3 rfl (by unfold maxLen; omega)) (M.readAll 1 rfl (by unfold maxLen; omega)) hmk hnk hmt hnt) ?_
  rintro _ w14 ⟨rfl, hK⟩; refine ⟨_, rfl, ?_⟩; clear S a; intro a S; replace M := M.grow hK
  refine st_go [1, 1, 1, 1] S rfl (by kernel_rfl) ?_; clear S a; intro a S
  refine st_alloc S M rfl rfl (hcells zHome).toArray (by kernel_rfl) ?_; clear S M a; intro a w15 bO S M hB
  refine st_storeAll (sz := 256) S M 0 rfl (by kernel_rfl) rfl rfl (by with_reducible first | exact hhc | exact zHome_len | exact hl2 | exact hl3 | exact hl4) (by exact allOne_hcells _) rfl (by with_reducible first | exact hhc | exact zHome_len | exact hl2 | exact hl3 | exact hl4) ?_; clear M; intro w16 M
  simp only [List.set_cons_zero, List.set_cons_succ] at M
  refine st_go [1, 1] S rfl (by kernel_rfl) ?_; clear S a; intro a S
  replace S := S.sub [(0, _), (1, _), (2, _), (3, _), (6, _), (27, _), (7, _), (8, _), (36, _), (9, _), (10, _), (11, _), (62, _), (12, _), (13, _), (75, _), (14, _), (15, _), (16, _)] rfl
  refine nxA ?_
  refine st_y S rfl rfl rfl (y_loadAgg (k := 256) (cs := _) S (by kernel_rfl) rfl (by with_reducible first | exact hhc | exact zHome_len | exact hl2 | exact hl3 | exact hl4) (M.cellsAt 5 rfl cutL_all)) ?_; clear S a; intro a S
  refine st_go [1, 1] S rfl (by kernel_rfl) ?_; clear S a; intro a S
  refine st_lit (ps := [(0, (Operand.tmp 88)), (1, (Operand.tmp 89))]) (e := 25) (sz := 1) (zl := [.slice none 0 0, .slice none 0 0]) (cs := [_, _]) S M rfl rfl (by kernel_rfl) rfl (rfl) ?_; clear S M a; intro a w17 bQ S M hB
  refine st_call (xs := [(Operand.tmp 87), (Operand.tmp 90)]) S (enters_of Try.func10 (by decide) rfl) rfl rfl rfl (all_two home hh _ na ma _ nc mc n m _ (M.sliceAt (m := 2) (sz := 1) 0 rfl (M.cellsAt (k := 2) 0 rfl rfl) rfl (Nat.le_refl 2) (by decide)) (M.readAll 3 rfl (by unfold maxLen; omega)) (M.readAll 5 rfl (by unfold maxLen; omega)) hnk hmk hs1 hs2) ?_
  rintro _ w18 ⟨rfl, hK⟩; refine ⟨_, rfl, ?_⟩; clear S a; intro a S; replace M := M.grow hK
  refine st_go [1, 1, 1, 1] S rfl (by kernel_rfl) ?_; clear S a; intro a S
  refine st_alloc S M rfl rfl (hcells zHome).toArray (by kernel_rfl) ?_; clear S M a; intro a w19 bT S M hB
  refine st_storeAll (sz := 256) S M 0 rfl (by kernel_rfl) rfl rfl (by with_reducible first | exact hhc | exact zHome_len | exact hl2 | exact hl3 | exact hl4) (by exact allOne_hcells _) rfl (by with_reducible first | exact hhc | exact zHome_len | exact hl2 | exact hl3 | exact hl4) ?_; clear M; intro w20 M
  simp only [List.set_cons_zero, List.set_cons_succ] at M
  refine st_go [1, 1] S rfl (by kernel_rfl) ?_; clear S a; intro a S
  refine nxC ?_
  refine wp_seq ?_
  have hE : ∀ w, (Op.equalIn 10000 24 (.agg (hcells (doR (doR home m).1 n).1).toArray) (.agg (hcells (doR (doR home n).1 m).1).toArray)).run Try.prog w = .ok true w := fun w => by
    obtain ⟨r, h1, h2⟩ := equalHome 9997 (doR (doR home m).1 n).1 (doR (doR home n).1 m).1 (by unfold doR; rw [foldD_len, foldD_len, hh]) (by unfold doR; rw [foldD_len, foldD_len, hh]) w
    obtain rfl : r = true := h2.2 hs3.symm
    exact h1
  refine wp_region_lit ?_
  refine st_go [1, 1, 1] S rfl (by kernel_rfl) ?_; clear S a; intro a S
  refine st_fi (t := 97) S rfl ?_ ?_
  · clear S; intro h97 S
    refine st_go [0, 0, 1, 1, 0, 0, 1, 1, 0, 0, 1, 1, 0, 0, 0, 1, 1, 0, 0, 0, 0, 0, 0, 0, 1, 1, 0, 1, 1] S rfl (by kernel_rfl) ?_; clear S a; intro a S
    replace S := S.sub [(0, _), (1, _), (2, _), (3, _), (27, _), (7, _), (8, _), (36, _), (9, _), (10, _), (11, _), (62, _), (12, _), (13, _), (75, _), (14, _), (15, _), (16, _), (17, _), (18, _), (19, _), (6, _)] rfl
    refine nxC ?_
    refine wp_ret ?_
    refine end_one S rfl (res_tmp rfl) ?_
    first | exact ⟨rfl, M.below⟩ | exact absurd rfl h97 | exact absurd rfl h101 | exact absurd rfl h105 | exact absurd rfl h109 | exact absurd h114 (by decide) | (rw [beq_self_eq_true] at h123; cases h123)
  clear S; intro h97 S
  refine st_go [1, 1, 1, 1] S rfl (by kernel_rfl) ?_; clear S a; intro a S
  refine st_fi (t := 101) S rfl ?_ ?_
  · clear S; intro h101 S
    refine st_go [0, 0, 1, 1, 0, 0, 1, 1, 0, 0, 0, 1, 1, 0, 0, 0, 0, 0, 0, 0, 1, 1, 0, 1, 1] S rfl (by kernel_rfl) ?_; clear S a; intro a S
    replace S := S.sub [(0, _), (1, _), (2, _), (3, _), (27, _), (7, _), (8, _), (36, _), (9, _), (10, _), (11, _), (62, _), (12, _), (13, _), (75, _), (14, _), (15, _), (16, _), (17, _), (18, _), (19, _), (6, _)] rfl
    refine nxC ?_
    refine wp_ret ?_
    refine end_one S rfl (res_tmp rfl) ?_
    first | exact ⟨rfl, M.below⟩ | exact absurd rfl h97 | exact absurd rfl h101 | exact absurd rfl h105 | exact absurd rfl h109 | exact absurd h114 (by decide) | (rw [beq_self_eq_true] at h123; cases h123)
  clear S; intro h101 S
  refine st_go [1, 1, 1, 1] S rfl (by kernel_rfl) ?_; clear S a; intro a S
  refine st_fi (t := 105) S rfl ?_ ?_
  · clear S; intro h105 S
    refine st_go [0, 0, 1, 1, 0, 0, 0, 1, 1, 0, 0, 0, 0, 0, 0, 0, 1, 1, 0, 1, 1] S rfl (by kernel_rfl) ?_; clear S a; intro a S
    replace S := S.sub [(0, _), (1, _), (2, _), (3, _), (27, _), (7, _), (8, _), (36, _), (9, _), (10, _), (11, _), (62, _), (12, _), (13, _), (75, _), (14, _), (15, _), (16, _), (17, _), (18, _), (19, _), (6, _)] rfl
    refine nxC ?_
    refine wp_ret ?_
    refine end_one S rfl (res_tmp rfl) ?_
    first | exact ⟨rfl, M.below⟩ | exact absurd rfl h97 | exact absurd rfl h101 | exact absurd rfl h105 | exact absurd rfl h109 | exact absurd h114 (by decide) | (rw [beq_self_eq_true] at h123; cases h123)
  clear S; intro h105 S
  refine st_go [1, 1, 1, 1] S rfl (by kernel_rfl) ?_; clear S a; intro a S
  refine st_fi (t := 109) S rfl ?_ ?_
  · clear S; intro h109 S
    refine st_go [0, 0, 0, 1, 1, 0, 0, 0, 0, 0, 0, 0, 1, 1, 0, 1, 1] S rfl (by kernel_rfl) ?_; clear S a; intro a S
    replace S := S.sub [(0, _), (1, _), (2, _), (3, _), (27, _), (7, _), (8, _), (36, _), (9, _), (10, _), (11, _), (62, _), (12, _), (13, _), (75, _), (14, _), (15, _), (16, _), (17, _), (18, _), (19, _), (6, _)] rfl
    refine nxC ?_
    refine wp_ret ?_
    refine end_one S rfl (res_tmp rfl) ?_
    first | exact ⟨rfl, M.below⟩ | exact absurd rfl h97 | exact absurd rfl h101 | exact absurd rfl h105 | exact absurd rfl h109 | exact absurd h114 (by decide) | (rw [beq_self_eq_true] at h123; cases h123)
  clear S; intro h109 S
  refine st_y S rfl rfl rfl (y_loadAgg (k := 256) (cs := _) S (by kernel_rfl) rfl (by with_reducible first | exact hhc | exact zHome_len | exact hl2 | exact hl3 | exact hl4) (M.cellsAt 2 rfl cutL_all)) ?_; clear S a; intro a S
  refine st_y S rfl rfl rfl (y_loadAgg (k := 256) (cs := _) S (by kernel_rfl) rfl (by with_reducible first | exact hhc | exact zHome_len | exact hl2 | exact hl3 | exact hl4) (M.cellsAt 0 rfl cutL_all)) ?_; clear S a; intro a S
  refine st_y S rfl rfl rfl (y_eqlG (by kernel_rfl) S rfl rfl (hE)) ?_; clear S a; intro a S
  refine st_go [1, 1] S rfl (by kernel_rfl) ?_; clear S a; intro a S
  refine st_fi (t := 114) S rfl ?_ ?_
  · clear S; intro h114 S
    refine st_go [0, 0, 0, 0, 0, 0, 0, 1, 1, 0, 1, 1] S rfl (by kernel_rfl) ?_; clear S a; intro a S
    replace S := S.sub [(0, _), (1, _), (2, _), (3, _), (27, _), (7, _), (8, _), (36, _), (9, _), (10, _), (11, _), (62, _), (12, _), (13, _), (75, _), (14, _), (15, _), (16, _), (17, _), (18, _), (19, _), (6, _)] rfl
    refine nxC ?_
    refine wp_ret ?_
    refine end_one S rfl (res_tmp rfl) ?_
    first | exact ⟨rfl, M.below⟩ | exact absurd rfl h97 | exact absurd rfl h101 | exact absurd rfl h105 | exact absurd rfl h109 | exact absurd h114 (by decide) | (rw [beq_self_eq_true] at h123; cases h123)
  clear S; intro h114 S
  refine st_go [1, 1] S rfl (by kernel_rfl) ?_; clear S a; intro a S
  refine st_call (xs := [(Operand.tmp 115), (Operand.tmp 116)]) S (enters_of Try.func9 (by decide) rfl) rfl rfl rfl (clash_any vb va vd vc y x _ (M.argW hu) (M.argW hv) (by omega) (by omega)) ?_
  rintro _ w21 ⟨b2, rfl, hK, hcl2⟩; refine ⟨_, rfl, ?_⟩; clear S a; intro a S; replace M := M.grow hK
  refine st_go [1, 1] S rfl (by kernel_rfl) ?_; clear S a; intro a S
  refine st_call (xs := [(Operand.tmp 118), (Operand.tmp 119)]) S (enters_of Try.func9 (by decide) rfl) rfl rfl rfl (clash_any va vb vc vd x y _ (M.argW hv) (M.argW hu) (by omega) (by omega)) ?_
  rintro _ w22 ⟨b3, rfl, hK, hcl3⟩
  obtain rfl : b2 = b3 := Bool.eq_iff_iff.2 (hcl2.trans ((clash_comm _ _).trans hcl3.symm))
  refine ⟨_, rfl, ?_⟩; clear S a; intro a S; replace M := M.grow hK
  refine st_y S rfl rfl rfl (y_eqlBool (by kernel_rfl) S rfl rfl) ?_; clear S a; intro a S
  refine st_go [1, 1] S rfl (by kernel_rfl) ?_; clear S a; intro a S
  refine st_fi (t := 123) S rfl ?_ ?_
  · clear S; intro h123 S
    refine st_go [0, 1, 1] S rfl (by kernel_rfl) ?_; clear S a; intro a S
    replace S := S.sub [(0, _), (1, _), (2, _), (3, _), (27, _), (7, _), (8, _), (36, _), (9, _), (10, _), (11, _), (62, _), (12, _), (13, _), (75, _), (14, _), (15, _), (16, _), (17, _), (18, _), (19, _), (6, _)] rfl
    refine nxC ?_
    refine wp_ret ?_
    refine end_one S rfl (res_tmp rfl) ?_
    first | exact ⟨rfl, M.below⟩ | exact absurd rfl h97 | exact absurd rfl h101 | exact absurd rfl h105 | exact absurd rfl h109 | exact absurd h114 (by decide) | (rw [beq_self_eq_true] at h123; cases h123)
  clear S; intro h123 S
  refine st_call (xs := []) S (enters_of Try.func5 (by decide) rfl) rfl rfl rfl (wakes26_any _) ?_
  rintro _ w23 ⟨rfl, hK⟩; refine ⟨_, rfl, ?_⟩; clear S a; intro a S; replace M := M.grow hK
  refine st_go [1, 1] S rfl (by kernel_rfl) ?_; clear S a; intro a S
  replace S := S.sub [(0, _), (1, _), (2, _), (3, _), (27, _), (7, _), (8, _), (36, _), (9, _), (10, _), (11, _), (62, _), (12, _), (13, _), (75, _), (14, _), (15, _), (16, _), (17, _), (18, _), (19, _), (6, _)] rfl
  refine nxC ?_
  refine wp_ret ?_
  refine end_one S rfl (res_tmp rfl) ?_
  first | exact ⟨rfl, M.below⟩ | exact absurd rfl h97 | exact absurd rfl h101 | exact absurd rfl h105 | exact absurd rfl h109 | exact absurd h114 (by decide) | (rw [beq_self_eq_true] at h123; cases h123)

end Go.Proofs.Ytgngbdhdnnkncaa
