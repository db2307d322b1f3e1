/-
  law26: ModelStays.
-/
import Derived.Test.YtgngbdhdnnkncaaNe
namespace Go.Proofs.Ytgngbdhdnnkncaa
open Go.RowKit Go.Sort

/-- what the first k steps write -/
def wantL (home : List V8) (l : List Sn) : Nat → List V8
  | 0 => home
  | k + 1 => match l[k]? with
    | some x => if x.kind = 2 ∧ 0 ≤ x.block ∧ x.block < 32 then (wantL home l k).set x.block.toNat x.val else wantL home l k
    | none => wantL home l k
theorem wantL_len (home : List V8) (l : List Sn) : ∀ k, (wantL home l k).length = home.length
  | 0 => rfl
  | k + 1 => by
    unfold wantL
    split
    · split
      · rw [List.length_set, wantL_len home l k]
      · exact wantL_len home l k
    · exact wantL_len home l k
theorem wantL_yes {home : List V8} {l : List Sn} {k : Nat} {x : Sn} (hx : l[k]? = some x) (h : x.kind = 2 ∧ 0 ≤ x.block ∧ x.block < 32) : wantL home l (k + 1) = (wantL home l k).set x.block.toNat x.val := by simp [wantL, hx, h]
theorem wantL_no {home : List V8} {l : List Sn} {k : Nat} {x : Sn} (hx : l[k]? = some x) (h : ¬ (x.kind = 2 ∧ 0 ≤ x.block ∧ x.block < 32)) : wantL home l (k + 1) = wantL home l k := by
  simp only [wantL, hx]; rw [if_neg h]
theorem fold_want (home : List V8) (l : List Sn) : ∀ k, ((stepsP l k).foldl stepD (home, true)).1 = wantL home l k
  | 0 => rfl
  | k + 1 => by
    have ih := fold_want home l k
    rw [stepsP, List.foldl_append]
    cases hx : l[k]? with
    | none => simp only [wantL, hx]; exact ih
    | some x =>
      by_cases ho : okS x
      · simp only [if_pos ho, List.foldl_cons, List.foldl_nil]
        by_cases hk : x.kind = 2
        · rw [wantL_yes hx ⟨hk, ho.2.1, ho.2.2⟩, ← ih]; unfold stepD; rw [if_pos hk]
        · rw [wantL_no hx (fun h => hk h.1), ← ih]; unfold stepD; rw [if_neg hk]
      · simp only [if_neg ho, List.foldl_nil]
        rw [wantL_no hx (fun h => ho ⟨.inr h.1, h.2⟩), ← ih]
theorem fold_stays : ∀ (q : Qs) (p : List V8 × Bool) (k : Nat), (∀ x ∈ q, 0 ≤ x.2.block) → ¬ WrsP q (k : Int) → (q.foldl stepD p).1[k]? = p.1[k]?
  | [], p, k, _, _ => rfl
  | x :: q, p, k, ho, h => by
    rw [List.foldl_cons, fold_stays q _ k (fun y hy => ho y (List.mem_cons_of_mem _ hy)) fun ⟨y, hy, e⟩ => h ⟨y, List.mem_cons_of_mem _ hy, e⟩]
    unfold stepD
    split
    · rename_i hk
      have := ho x (List.mem_cons_self ..)
      rw [List.getElem?_set_ne]
      intro e
      exact h ⟨x, List.mem_cons_self .., hk, by omega⟩
    · rfl
theorem do_stays {home : List V8} {l : List Sn} {k : Nat} (h : ¬ WrsP (stepsP l l.length) (k : Int)) : (doR home l).1[k]? = home[k]? :=
  fold_stays _ _ _ (fun _ hx => (stepsP_mem hx).2.2.1) h
theorem do_same {home : List V8} {l : List Sn} (h : ∀ k, ¬ WrsP (stepsP l l.length) k) : (doR home l).1 = home := List.ext_getElem? fun k => do_stays (h k)

theorem in_step {ws : List Int} {i : Nat} {z k : Int} {b : Bool} (hz : ws[i]? = some z) (hb : b = true ↔ k ∈ ws.take i) (b' : Bool) (h : b' = (b || z == k)) : b' = true ↔ k ∈ ws.take (i + 1) := by
  rw [List.take_add_one, hz, List.mem_append, ← hb, h]
  simp only [Option.toList_some, List.mem_singleton, Bool.or_eq_true, beq_iff_eq]
  exact ⟨.imp_right Eq.symm, .imp_right Eq.symm⟩
set_option maxHeartbeats 4000000 in
set_option maxRecDepth 10000 in
theorem stays_any (home : List V8) (hh : home.length = 32) (va : Option Addr) (vc : Nat) (l : List Sn) (w : World) (hv : Ss 0 w.heap.size w (.slice va l.length vc) l) :
    Calls Try.prog 3 #[.agg (hcells home).toArray, .slice va l.length vc] w fun e w' => e = .returned (.bool true) ∧ Below w.heap.size w w' := by
  have M := Mem.start w
  have hhc : (hcells home).length = 256 := by rw [hcells_length, hh]
  refine calls_enter Try.func3 rfl 116 rfl rfl ?_; intro a S
  refine nxD ?_
  refine st_box S M rfl rfl rfl _ rfl ?_; clear S M a; intro a w1 bC S M hB
  refine st_go [1] S rfl (by kernel_rfl) ?_; clear S a; intro a S
  refine nxC ?_
  refine wp_seq ?_
  refine nxD ?_
  refine st_go [1] S rfl (by kernel_rfl) ?_; clear S a; intro a S
  refine st_y S rfl rfl rfl (y_lenS (E := 36) S rfl (by kernel_rfl)) ?_; clear S a; intro a S
  refine st_go [1] S rfl (by kernel_rfl) ?_; clear S a; intro a S
  refine nxC ?_
  refine st_if (t := 16) S rfl ?_ ?_
  · clear S; intro h16 S
    refine st_condT S rfl ?_
    refine nxD ?_
    refine st_call (xs := []) S (enters_of Try.func5 (by decide) rfl) rfl rfl rfl (wakes26_any _) ?_
    rintro _ w2 ⟨rfl, hK⟩; refine ⟨_, rfl, ?_⟩; clear S a; intro a S; replace M := M.grow hK
    refine st_go [1] S rfl (by kernel_rfl) ?_; clear S a; intro a S
    refine nxC ?_
    refine wp_ret ?_
    refine then_ret ?_
    refine end_one S rfl (res_tmp rfl) ?_
    first | exact ⟨rfl, M.below⟩ | exact absurd h103 (by decide) | exact absurd h113 (by decide)
  clear S; intro h16 S
  refine st_condF S rfl ?_
  refine wp_skip ?_
  refine nxE ?_
  refine st_y S rfl rfl rfl (y_loadAgg (k := 256) (cs := _) S (by kernel_rfl) rfl (by with_reducible first | exact hhc | exact zHome_len | exact hl2 | exact hl3) (M.cellsAt 0 rfl cutL_all)) ?_; clear S a; intro a S
  refine st_go [1] S rfl (by kernel_rfl) ?_; clear S a; intro a S
  refine st_call (xs := [(Operand.tmp 19), (Operand.tmp 20)]) S (enters_of Try.func6 (by decide) rfl) rfl rfl rfl (do_any home hh va vc l _ (M.argW hv)) ?_
  rintro _ w3 ⟨er, h2, told, rfl, hK, hh2, her, hdo⟩
  have hl2 : (hcells h2).length = 256 := by rw [hcells_length, hh2]
  refine ⟨_, rfl, ?_⟩; clear S a; intro a S; replace M := M.grow hK
  refine st_go [1, 1, 1, 1] S rfl (by kernel_rfl) ?_; clear S a; intro a S
  refine st_alloc S M rfl rfl (hcells zHome).toArray (by kernel_rfl) ?_; clear S M a; intro a w4 bA S M hB
  refine st_storeAll (sz := 256) S M 0 rfl (by kernel_rfl) rfl rfl (by with_reducible first | exact hhc | exact zHome_len | exact hl2 | exact hl3) (by exact allOne_hcells _) rfl (by with_reducible first | exact hhc | exact zHome_len | exact hl2 | exact hl3) ?_; clear M; intro w5 M
  simp only [List.set_cons_zero, List.set_cons_succ] at M
  refine st_go [1, 1] S rfl (by kernel_rfl) ?_; clear S a; intro a S
  refine nxC ?_
  refine wp_seq ?_
  refine nxD ?_
  refine st_go [1, 1] S rfl (by kernel_rfl) ?_; clear S a; intro a S
  refine nxC ?_
  refine st_if (t := 26) S rfl ?_ ?_
  · clear S; intro h26 S
    refine st_condT S rfl ?_
    refine nxD ?_
    refine st_call (xs := []) S (enters_of Try.func5 (by decide) rfl) rfl rfl rfl (wakes26_any _) ?_
    rintro _ w6 ⟨rfl, hK⟩; refine ⟨_, rfl, ?_⟩; clear S a; intro a S; replace M := M.grow hK
    refine st_go [1] S rfl (by kernel_rfl) ?_; clear S a; intro a S
    refine nxC ?_
    refine wp_ret ?_
    refine then_ret ?_
    refine end_one S rfl (res_tmp rfl) ?_
    first | exact ⟨rfl, M.below⟩ | exact absurd h103 (by decide) | exact absurd h113 (by decide)
  clear S; intro h26 S
  refine st_condF S rfl ?_
  refine wp_skip ?_
  refine then_normal ?_
  refine wp_seq ?_
  have her0 : er = 0 := by omega
  obtain rfl : h2 = (doR home l).1 := congrArg Prod.fst (hdo her0)
  refine wp_region_lit ?_
  refine st_go [1] S rfl (by kernel_rfl) ?_; clear S a; intro a S
  refine st_call (xs := [(Operand.tmp 28)]) S (enters_of Try.func7 (by decide) rfl) rfl rfl rfl (writes_any va vc l _ (M.argW hv) (by omega)) ?_
  rintro _ w7 ⟨wa, wc, ws, lo, hi, rfl, M1, hws, hwl⟩; refine ⟨_, rfl, ?_⟩; clear S a; intro a S; replace M := M.join M1; clear M1
  simp only [List.cons_append, List.nil_append] at M
  refine st_go [1] S rfl (by kernel_rfl) ?_; clear S a; intro a S
  refine nxA ?_
  refine st_y S rfl rfl rfl (y_loadAgg (k := 256) (cs := _) S (by kernel_rfl) rfl (by with_reducible first | exact hhc | exact zHome_len | exact hl2 | exact hl3) (M.cellsAt 2 rfl cutL_all)) ?_; clear S a; intro a S
  refine st_alloc S M rfl rfl (hcells zHome).toArray (by kernel_rfl) ?_; clear S M a; intro a w8 bV S M hB
  refine st_storeAll (sz := 256) S M 0 rfl (by kernel_rfl) rfl rfl (by with_reducible first | exact hhc | exact zHome_len | exact hl2 | exact hl3) (by exact allOne_hcells _) rfl (by with_reducible first | exact hhc | exact zHome_len | exact hl2 | exact hl3) ?_; clear M; intro w9 M
  simp only [List.set_cons_zero, List.set_cons_succ] at M
  replace S := S.sub [(0, _), (1, _), (2, _), (4, _), (16, _), (5, _), (7, _), (26, _), (8, _), (9, _)] rfl
  refine nxC ?_
  refine wp_seq ?_
  refine nxD ?_
  refine st_go [1] S rfl (by kernel_rfl) ?_; clear S a; intro a S
  refine nxC ?_
  refine wp_block ?_
  refine wp_loop_g (fun m a w' => ∃ (i : Nat), i ≤ l.length ∧ m = l.length - i ∧ Sees 116 a [(1, .slice va l.length vc), (2, .pointer (some ⟨bC, 0, none⟩)), (5, .pointer (some ⟨bA, 0, none⟩)), (8, .slice wa ws.length wc), (9, .pointer (some ⟨bV, 0, none⟩)), (10, .int .i64 (i : Int))] ∧ Mem w w' [.blk bV (hcells (wantL home l i)).toArray 24, .blk bA (hcells (doR home l).1).toArray 24, .blk bC (hcells home).toArray 24, rowE lo hi 3 1 (.slice wa ws.length wc) ws.length (icells ws)]) (l.length) ?_ ?_
  · skip
    replace M := M.front 1 rfl
    simp only [List.eraseIdx_cons_succ, List.eraseIdx_cons_zero] at M
    replace M := M.front 3 rfl
    simp only [List.eraseIdx_cons_succ, List.eraseIdx_cons_zero] at M
    replace M := M.front 3 rfl
    simp only [List.eraseIdx_cons_succ, List.eraseIdx_cons_zero] at M
    replace M := M.front 3 rfl
    simp only [List.eraseIdx_cons_succ, List.eraseIdx_cons_zero] at M
    exact ⟨0, Nat.zero_le _, rfl, S.sub _ rfl, M⟩
  clear S M a; intro m a wl
  rintro ⟨i, hi', rfl, S, M⟩
  have hl3 : (hcells (wantL home l i)).length = 256 := by rw [hcells_length, wantL_len, hh]
  refine wp_seq ?_
  refine nxD ?_
  refine st_go [1, 1] S rfl (by kernel_rfl) ?_; clear S a; intro a S
  refine st_y S rfl rfl rfl (y_lenR (E := 36) S rfl ((M.arg hv)) (by kernel_rfl)) ?_; clear S a; intro a S
  refine st_go [1] S rfl (by kernel_rfl) ?_; clear S a; intro a S
  refine nxC ?_
  refine st_if (t := 34) S rfl ?_ ?_
  · clear S; intro h34 S
    refine st_condT S rfl ?_
    refine wp_skip ?_
    refine then_normal ?_
    refine wp_seq ?_
    refine wp_block ?_
    refine wp_seq ?_
    obtain ⟨⟨kd, xn, bk, xv, xe⟩, hx⟩ : ∃ x, l[i]? = some x := ⟨_, List.getElem?_eq_getElem (by omega)⟩
    refine wp_region_lit ?_
    refine st_go [1, 1] S rfl (by kernel_rfl) ?_; clear S a; intro a S
    refine st_y S rfl rfl rfl (y_indexR (e := 36) (sz := 14) S (by kernel_rfl) rfl ((M.arg hv)) rfl (by first | omega | (simp; done) | (simp; omega))) ?_; clear S a; intro a S
    try simp only [Int.toNat_natCast, Nat.mul_one, Nat.zero_add] at S
    refine st_go [1] S rfl (by kernel_rfl) ?_; clear S a; intro a S
    refine st_y S rfl rfl rfl (y_load S (by kernel_rfl) rfl (((M.arg hv).at_.row (i := i) (scells_get hx) rfl).one 0 rfl)) ?_; clear S a; intro a S
    refine st_go [1, 1] S rfl (by kernel_rfl) ?_; clear S a; intro a S
    refine st_fi (t := 43) S rfl ?_ ?_
    · clear S; intro h43 S
      refine st_go [0, 0, 0, 0, 0, 0, 1, 1, 0, 0, 0, 0, 0, 0, 1] S rfl (by kernel_rfl) ?_; clear S a; intro a S
      replace S := S.sub [(1, _), (2, _), (5, _), (8, _), (9, _), (10, _), (34, _), (58, _)] rfl
      refine nxC ?_
      refine st_condF S rfl ?_
      refine wp_skip ?_
      refine block_normal ?_
      refine nxF ?_
      refine st_go [1] S rfl (by kernel_rfl) ?_; clear S a; intro a S
      (first | refine st_y S rfl rfl rfl (y_addN S rfl rfl (by omega)) ?_ | refine st_y S rfl rfl rfl (y_int S rfl rfl rfl) ?_); clear S a; intro a S
      refine st_go [1] S rfl (by kernel_rfl) ?_; clear S a; intro a S
      refine nxC ?_
      skip
      refine ⟨l.length - (i + 1), by omega, i + 1, by omega, rfl, S.sub _ rfl, ?_⟩
      first
        | (have e : wantL home l (i + 1) = (wantL home l i).set kb xv := wantL_yes hx ⟨show kd = 2 by assumption, Int.natCast_nonneg kb, h58⟩
           rw [e, ← hcells_set (show kb < (wantL home l i).length by rw [wantL_len]; omega) xv]; exact M)
        | (rw [wantL_no hx (fun h => by
            have h1 : kd = 2 := h.1
            have h2 : 0 ≤ bk := h.2.1
            have h3 : bk < 32 := h.2.2
            omega)]; exact M)
    clear S; intro h43 S
    refine st_go [1, 1] S rfl (by kernel_rfl) ?_; clear S a; intro a S
    refine st_y S rfl rfl rfl (y_indexR (e := 36) (sz := 14) S (by kernel_rfl) rfl ((M.arg hv)) rfl (by first | omega | (simp; done) | (simp; omega))) ?_; clear S a; intro a S
    try simp only [Int.toNat_natCast, Nat.mul_one, Nat.zero_add] at S
    refine st_go [5] S rfl (by kernel_rfl) ?_; clear S a; intro a S
    refine st_y S rfl rfl rfl (y_load S (by kernel_rfl) rfl (((M.arg hv).at_.row (i := i) (scells_get hx) rfl).one 4 rfl)) ?_; clear S a; intro a S
    refine st_go [1, 1, 1] S rfl (by kernel_rfl) ?_; clear S a; intro a S
    refine st_fi (t := 51) S rfl ?_ ?_
    · clear S; intro h51 S
      refine st_go [0, 0, 0, 0, 0, 0, 1] S rfl (by kernel_rfl) ?_; clear S a; intro a S
      replace S := S.sub [(1, _), (2, _), (5, _), (8, _), (9, _), (10, _), (34, _), (58, _)] rfl
      refine nxC ?_
      refine st_condF S rfl ?_
      refine wp_skip ?_
      refine block_normal ?_
      refine nxF ?_
      refine st_go [1] S rfl (by kernel_rfl) ?_; clear S a; intro a S
      (first | refine st_y S rfl rfl rfl (y_addN S rfl rfl (by omega)) ?_ | refine st_y S rfl rfl rfl (y_int S rfl rfl rfl) ?_); clear S a; intro a S
      refine st_go [1] S rfl (by kernel_rfl) ?_; clear S a; intro a S
      refine nxC ?_
      skip
      refine ⟨l.length - (i + 1), by omega, i + 1, by omega, rfl, S.sub _ rfl, ?_⟩
      first
        | (have e : wantL home l (i + 1) = (wantL home l i).set kb xv := wantL_yes hx ⟨show kd = 2 by assumption, Int.natCast_nonneg kb, h58⟩
           rw [e, ← hcells_set (show kb < (wantL home l i).length by rw [wantL_len]; omega) xv]; exact M)
        | (rw [wantL_no hx (fun h => by
            have h1 : kd = 2 := h.1
            have h2 : 0 ≤ bk := h.2.1
            have h3 : bk < 32 := h.2.2
            omega)]; exact M)
    clear S; intro h51 S
    refine st_go [1, 1] S rfl (by kernel_rfl) ?_; clear S a; intro a S
    refine st_y S rfl rfl rfl (y_indexR (e := 36) (sz := 14) S (by kernel_rfl) rfl ((M.arg hv)) rfl (by first | omega | (simp; done) | (simp; omega))) ?_; clear S a; intro a S
    try simp only [Int.toNat_natCast, Nat.mul_one, Nat.zero_add] at S
    refine st_go [5] S rfl (by kernel_rfl) ?_; clear S a; intro a S
    refine st_y S rfl rfl rfl (y_load S (by kernel_rfl) rfl (((M.arg hv).at_.row (i := i) (scells_get hx) rfl).one 4 rfl)) ?_; clear S a; intro a S
    refine st_go [1, 1] S rfl (by kernel_rfl) ?_; clear S a; intro a S
    replace S := S.sub [(1, _), (2, _), (5, _), (8, _), (9, _), (10, _), (34, _), (58, _)] rfl
    refine nxC ?_
    refine st_fi (t := 58) S rfl ?_ ?_
    · clear S; intro h58 S
      refine st_condF S rfl ?_
      refine wp_skip ?_
      refine block_normal ?_
      refine nxF ?_
      refine st_go [1] S rfl (by kernel_rfl) ?_; clear S a; intro a S
      (first | refine st_y S rfl rfl rfl (y_addN S rfl rfl (by omega)) ?_ | refine st_y S rfl rfl rfl (y_int S rfl rfl rfl) ?_); clear S a; intro a S
      refine st_go [1] S rfl (by kernel_rfl) ?_; clear S a; intro a S
      refine nxC ?_
      skip
      refine ⟨l.length - (i + 1), by omega, i + 1, by omega, rfl, S.sub _ rfl, ?_⟩
      first
        | (have e : wantL home l (i + 1) = (wantL home l i).set kb xv := wantL_yes hx ⟨show kd = 2 by assumption, Int.natCast_nonneg kb, h58⟩
           rw [e, ← hcells_set (show kb < (wantL home l i).length by rw [wantL_len]; omega) xv]; exact M)
        | (rw [wantL_no hx (fun h => by
            have h1 : kd = 2 := h.1
            have h2 : 0 ≤ bk := h.2.1
            have h3 : bk < 32 := h.2.2
            omega)]; exact M)
    clear S; intro h58 S
    refine st_condT S rfl ?_
    obtain ⟨kb, rfl⟩ := Int.eq_ofNat_of_zero_le (show 0 ≤ bk by omega)
    have hkb : kb < 32 := by have : (kb : Int) < 32 := h58; omega
    refine wp_regionK [11] #[false, false, false, false, false, false, false, false, false, false, false, false] rfl M (by kernel_rfl) ?_; clear M; intro w10 M
    refine k_pure (listed' := #[true, false, false, false, false, false, false, false, false, false, false, false]) 0 S rfl rfl rfl rfl (by kernel_rfl) rfl (fun _ d _ _ _ h => by cases d <;> exact h) (fun w => y_move S rfl) ?_; clear S a; intro a S
    refine k_pure (listed' := #[true, true, false, false, false, false, false, false, false, false, false, false]) 1 S rfl rfl rfl rfl (by kernel_rfl) rfl (fun _ d _ _ _ h => by cases d <;> exact h) (fun w => y_move S rfl) ?_; clear S a; intro a S
    refine k_read (listed' := #[true, true, true, false, false, false, false, false, false, false, false, false]) 2 S rfl rfl rfl rfl (by kernel_rfl) rfl (fun _ d _ _ _ h => by cases d <;> exact h) (fun w hW => have M := M.grow hW; y_indexR (e := 36) (sz := 14) S (by kernel_rfl) rfl ((M.arg hv)) rfl (by first | omega | (simp; done) | (simp; omega))) ?_; clear S a; intro a S
    try simp only [Int.toNat_natCast, Nat.mul_one, Nat.zero_add] at S
    refine k_pure (listed' := #[true, true, true, true, false, false, false, false, false, false, false, false]) 3 S rfl rfl rfl rfl (by kernel_rfl) rfl (fun _ d _ _ _ h => by cases d <;> exact h) (fun w => y_fieldAddr (k := 4) S (by kernel_rfl) rfl) ?_; clear S a; intro a S
    refine k_read (listed' := #[true, true, true, true, true, false, false, false, false, false, false, false]) 4 S rfl rfl rfl rfl (by kernel_rfl) rfl (fun _ d _ _ _ h => by cases d <;> exact h) (fun w hW => have M := M.grow hW; y_load S (by kernel_rfl) rfl (((M.arg hv).at_.row (i := i) (scells_get hx) rfl).one 4 rfl)) ?_; clear S a; intro a S
    refine k_pure (listed' := #[true, true, true, true, true, true, false, false, false, false, false, false]) 5 S rfl rfl rfl rfl (by kernel_rfl) rfl (fun _ d _ _ _ h => by cases d <;> exact h) (fun w => y_move S rfl) ?_; clear S a; intro a S
    refine k_pure (listed' := #[true, true, true, true, true, true, true, false, false, false, false, false]) 6 S rfl rfl rfl rfl (by kernel_rfl) rfl (fun _ d _ _ _ h => by cases d <;> exact h) (fun w => y_move S rfl) ?_; clear S a; intro a S
    refine k_read (listed' := #[true, true, true, true, true, true, true, true, false, false, false, false]) 7 S rfl rfl rfl rfl (by kernel_rfl) rfl (fun _ d _ _ _ h => by cases d <;> exact h) (fun w hW => have M := M.grow hW; y_indexR (e := 36) (sz := 14) S (by kernel_rfl) rfl ((M.arg hv)) rfl (by first | omega | (simp; done) | (simp; omega))) ?_; clear S a; intro a S
    try simp only [Int.toNat_natCast, Nat.mul_one, Nat.zero_add] at S
    refine k_pure (listed' := #[true, true, true, true, true, true, true, true, true, false, false, false]) 8 S rfl rfl rfl rfl (by kernel_rfl) rfl (fun _ d _ _ _ h => by cases d <;> exact h) (fun w => y_fieldAddr (k := 5) S (by kernel_rfl) rfl) ?_; clear S a; intro a S
    refine k_read (listed' := #[true, true, true, true, true, true, true, true, true, true, false, false]) 9 S rfl rfl rfl rfl (by kernel_rfl) rfl (fun _ d _ _ _ h => by cases d <;> exact h) (fun w hW => have M := M.grow hW; y_loadAgg S (by kernel_rfl) rfl rfl (((M.arg hv).at_.row (i := i) (scells_get hx) rfl).sub (i := 5) (k := 8))) ?_; clear S a; intro a S
    refine k_pure (listed' := #[true, true, true, true, true, true, true, true, true, true, true, false]) 10 S rfl rfl rfl rfl (by kernel_rfl) rfl (fun _ d _ _ _ h => by cases d <;> exact h) (fun w => y_indexA (m := 32) (sz := 8) S (by kernel_rfl) rfl rfl (by first | omega | (simp; done) | (simp; omega))) ?_; clear S a; intro a S
    try simp only [Int.toNat_natCast, Nat.mul_one, Nat.zero_add] at S
    refine k_one (listed' := #[true, true, true, true, true, true, true, true, true, true, true, true]) 11 rfl (by kernel_rfl) rfl ?_
    refine st_store (sz := 8) (us := [_, _, _, _, _, _, _, _]) S M 0 rfl (by kernel_rfl) rfl rfl rfl rfl rfl rfl (by rw [hl3]; show _ + 8 ≤ 256; (try simp only [Int.toNat_natCast]); omega) ?_; clear M; intro w11 M
    simp only [List.set_cons_zero, List.set_cons_succ] at M
    refine wpList_nil ?_; refine then_normal ?_; refine ⟨fun h => absurd h (by decide), ?_⟩
    refine k_end (by kernel_rfl) ?_
    refine block_normal ?_
    refine nxF ?_
    refine st_go [1] S rfl (by kernel_rfl) ?_; clear S a; intro a S
    (first | refine st_y S rfl rfl rfl (y_addN S rfl rfl (by omega)) ?_ | refine st_y S rfl rfl rfl (y_int S rfl rfl rfl) ?_); clear S a; intro a S
    refine st_go [1] S rfl (by kernel_rfl) ?_; clear S a; intro a S
    replace S := S.sub [(1, _), (2, _), (5, _), (8, _), (9, _), (34, _), (58, _), (10, _)] rfl
    refine nxC ?_
    skip
    refine ⟨l.length - (i + 1), by omega, i + 1, by omega, rfl, S.sub _ rfl, ?_⟩
    first
      | (have e : wantL home l (i + 1) = (wantL home l i).set kb xv := wantL_yes hx ⟨show kd = 2 by assumption, Int.natCast_nonneg kb, h58⟩
         rw [e, ← hcells_set (show kb < (wantL home l i).length by rw [wantL_len]; omega) xv]; exact M)
      | (rw [wantL_no hx (fun h => by
          have h1 : kd = 2 := h.1
          have h2 : 0 ≤ bk := h.2.1
          have h3 : bk < 32 := h.2.2
          omega)]; exact M)
  clear S; intro h34 S
  refine st_condF S rfl ?_
  refine wp_exit ?_
  refine then_exit ?_
  refine then_exit ?_
  refine block_hit ?_
  refine then_normal ?_
  refine wp_seq ?_
  refine nxD ?_
  refine st_go [1] S rfl (by kernel_rfl) ?_; clear S a; intro a S
  refine nxC ?_
  refine wp_block ?_
  refine wp_loop_g (fun m a w' => ∃ (k : Nat), k ≤ 32 ∧ m = 32 - k ∧ Sees 116 a [(2, .pointer (some ⟨bC, 0, none⟩)), (5, .pointer (some ⟨bA, 0, none⟩)), (8, .slice wa ws.length wc), (9, .pointer (some ⟨bV, 0, none⟩)), (11, .int .i64 (k : Int))] ∧ Mem w w' [.blk bV (hcells (wantL home l l.length)).toArray 24, .blk bA (hcells (doR home l).1).toArray 24, .blk bC (hcells home).toArray 24, rowE lo hi 3 1 (.slice wa ws.length wc) ws.length (icells ws)]) (32) ?_ ?_
  · skip
    obtain rfl : i = l.length := by omega
    exact ⟨0, by omega, rfl, S.sub _ rfl, M⟩
  clear S M a; intro m a wl
  rintro ⟨k, hk, rfl, S, M⟩
  have hl3 : (hcells (wantL home l l.length)).length = 256 := by rw [hcells_length, wantL_len, hh]
  refine wp_seq ?_
  refine nxD ?_
  refine st_go [1, 1] S rfl (by kernel_rfl) ?_; clear S a; intro a S
  refine nxC ?_
  refine st_fi (t := 71) S rfl ?_ ?_
  · clear S; intro h71 S
    refine st_condF S rfl ?_
    refine wp_exit ?_
    refine then_exit ?_
    refine then_exit ?_
    refine block_hit ?_
    refine then_normal ?_
    refine wp_seq ?_
    obtain rfl : k = 32 := by omega
    have hE1 : ∀ w, (Op.equalIn 10000 24 (.agg (hcells (doR home l).1).toArray) (.agg (hcells (wantL home l l.length)).toArray)).run Try.prog w = .ok true w := fun w => by
      obtain ⟨r, h1, h2⟩ := equalHome 9997 _ _ hh2 (show (wantL home l l.length).length = 32 by rw [wantL_len]; exact hh) w
      obtain rfl : r = true := h2.2 (fold_want home l l.length)
      exact h1
    have hE2 : ws.length = 0 → ∀ w, (Op.equalIn 10000 24 (.agg (hcells (doR home l).1).toArray) (.agg (hcells home).toArray)).run Try.prog w = .ok true w := fun h0 w => by
      obtain ⟨r, h1, h2⟩ := equalHome 9997 _ _ hh2 hh w
      obtain rfl : r = true := h2.2 (do_same fun k hk => by
        have := (hws k).2 hk
        rw [List.eq_nil_of_length_eq_zero h0] at this; cases this)
      exact h1
    refine wp_region_lit ?_
    refine st_y S rfl rfl rfl (y_loadAgg (k := 256) (cs := _) S (by kernel_rfl) rfl (by with_reducible first | exact hhc | exact zHome_len | exact hl2 | exact hl3) (M.cellsAt 1 rfl cutL_all)) ?_; clear S a; intro a S
    refine st_y S rfl rfl rfl (y_loadAgg (k := 256) (cs := _) S (by kernel_rfl) rfl (by with_reducible first | exact hhc | exact zHome_len | exact hl2 | exact hl3) (M.cellsAt 0 rfl cutL_all)) ?_; clear S a; intro a S
    refine st_y S rfl rfl rfl (y_eqlG (by kernel_rfl) S rfl rfl (hE1)) ?_; clear S a; intro a S
    refine st_go [1] S rfl (by kernel_rfl) ?_; clear S a; intro a S
    refine st_fi (t := 103) S rfl ?_ ?_
    · clear S; intro h103 S
      refine st_go [0, 0, 0, 0, 0, 0, 0, 0, 1, 1, 0, 1, 1] S rfl (by kernel_rfl) ?_; clear S a; intro a S
      replace S := S.sub [(2, _), (5, _), (8, _), (9, _), (11, _), (71, _), (4, _)] rfl
      refine nxC ?_
      refine wp_ret ?_
      refine end_one S rfl (res_tmp rfl) ?_
      first | exact ⟨rfl, M.below⟩ | exact absurd h103 (by decide) | exact absurd h113 (by decide)
    clear S; intro h103 S
    refine st_go [1] S rfl (by kernel_rfl) ?_; clear S a; intro a S
    refine st_y S rfl rfl rfl (y_lenS (E := 3) S rfl (by kernel_rfl)) ?_; clear S a; intro a S
    refine st_go [1, 1] S rfl (by kernel_rfl) ?_; clear S a; intro a S
    refine st_if (t := 107) S rfl ?_ ?_
    · clear S; intro h107 S
      refine st_go [0, 0, 0, 1, 1, 1] S rfl (by kernel_rfl) ?_; clear S a; intro a S
      refine st_call (xs := []) S (enters_of Try.func5 (by decide) rfl) rfl rfl rfl (wakes26_any _) ?_
      rintro _ w14 ⟨rfl, hK⟩; refine ⟨_, rfl, ?_⟩; clear S a; intro a S; replace M := M.grow hK
      refine st_go [1, 1] S rfl (by kernel_rfl) ?_; clear S a; intro a S
      replace S := S.sub [(2, _), (5, _), (8, _), (9, _), (11, _), (71, _), (4, _)] rfl
      refine nxC ?_
      refine wp_ret ?_
      refine end_one S rfl (res_tmp rfl) ?_
      first | exact ⟨rfl, M.below⟩ | exact absurd h103 (by decide) | exact absurd h113 (by decide)
    clear S; intro h107 S
    refine st_y S rfl rfl rfl (y_loadAgg (k := 256) (cs := _) S (by kernel_rfl) rfl (by with_reducible first | exact hhc | exact zHome_len | exact hl2 | exact hl3) (M.cellsAt 1 rfl cutL_all)) ?_; clear S a; intro a S
    refine st_y S rfl rfl rfl (y_loadAgg (k := 256) (cs := _) S (by kernel_rfl) rfl (by with_reducible first | exact hhc | exact zHome_len | exact hl2 | exact hl3) (M.cellsAt 2 rfl cutL_all)) ?_; clear S a; intro a S
    refine st_y S rfl rfl rfl (y_eqlG (by kernel_rfl) S rfl rfl (hE2 (by omega))) ?_; clear S a; intro a S
    refine st_go [1, 1, 1] S rfl (by kernel_rfl) ?_; clear S a; intro a S
    refine st_fi (t := 113) S rfl ?_ ?_
    · clear S; intro h113 S
      refine st_go [0, 1, 1] S rfl (by kernel_rfl) ?_; clear S a; intro a S
      replace S := S.sub [(2, _), (5, _), (8, _), (9, _), (11, _), (71, _), (4, _)] rfl
      refine nxC ?_
      refine wp_ret ?_
      refine end_one S rfl (res_tmp rfl) ?_
      first | exact ⟨rfl, M.below⟩ | exact absurd h103 (by decide) | exact absurd h113 (by decide)
    clear S; intro h113 S
    refine st_call (xs := []) S (enters_of Try.func5 (by decide) rfl) rfl rfl rfl (wakes26_any _) ?_
    rintro _ w15 ⟨rfl, hK⟩; refine ⟨_, rfl, ?_⟩; clear S a; intro a S; replace M := M.grow hK
    refine st_go [1, 1] S rfl (by kernel_rfl) ?_; clear S a; intro a S
    replace S := S.sub [(2, _), (5, _), (8, _), (9, _), (11, _), (71, _), (4, _)] rfl
    refine nxC ?_
    refine wp_ret ?_
    refine end_one S rfl (res_tmp rfl) ?_
    first | exact ⟨rfl, M.below⟩ | exact absurd h103 (by decide) | exact absurd h113 (by decide)
  clear S; intro h71 S
  refine st_condT S rfl ?_
  refine wp_skip ?_
  refine then_normal ?_
  refine wp_seq ?_
  refine wp_block ?_
  refine nxD ?_
  refine st_go [1] S rfl (by kernel_rfl) ?_; clear S a; intro a S
  refine nxC ?_
  refine wp_seq ?_
  refine nxD ?_
  refine st_go [1] S rfl (by kernel_rfl) ?_; clear S a; intro a S
  refine nxC ?_
  refine wp_block ?_
  refine wp_loop_g (fun m a w' => ∃ (i : Nat) (b : Bool), i ≤ ws.length ∧ m = ws.length - i ∧ (b = true ↔ (k : Int) ∈ ws.take i) ∧ Sees 116 a [(2, .pointer (some ⟨bC, 0, none⟩)), (5, .pointer (some ⟨bA, 0, none⟩)), (8, .slice wa ws.length wc), (9, .pointer (some ⟨bV, 0, none⟩)), (11, .int .i64 (k : Int)), (12, .bool b), (13, .int .i64 (i : Int))] ∧ Mem w w' [.blk bV (hcells (wantL home l l.length)).toArray 24, .blk bA (hcells (doR home l).1).toArray 24, .blk bC (hcells home).toArray 24, rowE lo hi 3 1 (.slice wa ws.length wc) ws.length (icells ws)]) (ws.length) ?_ ?_
  · skip
    exact ⟨0, false, by omega, rfl, by simp, S.sub _ rfl, M⟩
  clear S M a; intro m a wl
  rintro ⟨i, b, hi', rfl, hb, S, M⟩
  refine wp_seq ?_
  refine nxD ?_
  refine st_go [1, 1] S rfl (by kernel_rfl) ?_; clear S a; intro a S
  refine st_y S rfl rfl rfl (y_lenR (E := 3) S rfl ((M.readAll 3 rfl (by unfold maxLen; omega))) (by kernel_rfl)) ?_; clear S a; intro a S
  refine st_go [1] S rfl (by kernel_rfl) ?_; clear S a; intro a S
  refine nxC ?_
  refine st_if (t := 77) S rfl ?_ ?_
  · clear S; intro h77 S
    refine st_condT S rfl ?_
    refine wp_skip ?_
    refine then_normal ?_
    refine wp_seq ?_
    refine wp_block ?_
    obtain ⟨z, hz⟩ : ∃ z, ws[i]? = some z := ⟨_, List.getElem?_eq_getElem (by omega)⟩
    refine wp_region_lit ?_
    refine st_go [1, 1] S rfl (by kernel_rfl) ?_; clear S a; intro a S
    refine st_if (t := 81) S rfl ?_ ?_
    · clear S; intro h81 S
      refine st_go [0, 0, 0, 0, 0, 0, 1, 1] S rfl (by kernel_rfl) ?_; clear S a; intro a S
      refine wpList_nil ?_
      refine block_normal ?_
      refine nxF ?_
      refine st_go [1] S rfl (by kernel_rfl) ?_; clear S a; intro a S
      (first | refine st_y S rfl rfl rfl (y_addN S rfl rfl (by omega)) ?_ | refine st_y S rfl rfl rfl (y_int S rfl rfl rfl) ?_); clear S a; intro a S
      refine st_go [1] S rfl (by kernel_rfl) ?_; clear S a; intro a S
      replace S := S.sub [(2, _), (5, _), (8, _), (9, _), (11, _), (77, _), (12, _), (13, _)] rfl
      refine nxC ?_
      exact ⟨ws.length - (i + 1), by omega, i + 1, _, by omega, rfl, in_step hz hb _ (by simp [h81]), S.sub _ rfl, M⟩
    clear S; intro h81 S
    refine st_go [1, 1] S rfl (by kernel_rfl) ?_; clear S a; intro a S
    refine st_y S rfl rfl rfl (y_indexR (e := 3) (sz := 1) S (by kernel_rfl) rfl ((M.readAll 3 rfl (by unfold maxLen; omega))) rfl (by first | omega | (simp; done) | (simp; omega))) ?_; clear S a; intro a S
    try simp only [Int.toNat_natCast, Nat.mul_one, Nat.zero_add] at S
    refine st_y S rfl rfl rfl (y_load S (by kernel_rfl) rfl ((M.readAll 3 rfl (by unfold maxLen; omega)).icell (i := i) hz)) ?_; clear S a; intro a S
    refine st_go [1, 1, 1, 1] S rfl (by kernel_rfl) ?_; clear S a; intro a S
    refine wpList_nil ?_
    refine block_normal ?_
    refine nxF ?_
    refine st_go [1] S rfl (by kernel_rfl) ?_; clear S a; intro a S
    (first | refine st_y S rfl rfl rfl (y_addN S rfl rfl (by omega)) ?_ | refine st_y S rfl rfl rfl (y_int S rfl rfl rfl) ?_); clear S a; intro a S
    refine st_go [1] S rfl (by kernel_rfl) ?_; clear S a; intro a S
    replace S := S.sub [(2, _), (5, _), (8, _), (9, _), (11, _), (77, _), (12, _), (13, _)] rfl
    refine nxC ?_
    exact ⟨ws.length - (i + 1), by omega, i + 1, _, by omega, rfl, in_step hz hb _ (by simp [h81]), S.sub _ rfl, M⟩
  clear S; intro h77 S
  refine st_condF S rfl ?_
  refine wp_exit ?_
  refine then_exit ?_
  refine then_exit ?_
  refine block_hit ?_
  refine then_normal ?_
  refine wp_seq ?_
  obtain rfl : i = ws.length := by omega
  rw [List.take_length] at hb
  obtain ⟨v, hv1⟩ : ∃ v, (doR home l).1[k]? = some v := ⟨_, List.getElem?_eq_getElem (by omega)⟩
  obtain ⟨u, hu1⟩ : ∃ u, home[k]? = some u := ⟨_, List.getElem?_eq_getElem (by omega)⟩
  refine wp_quiet M (by kernel_rfl) (by kernel_rfl) ?_
  refine qt_y S rfl rfl rfl (fun w M => y_move S rfl) ?_; clear S a; intro a S
  refine qt_y S rfl rfl rfl (fun w M => y_not S rfl) ?_; clear S a; intro a S
  refine qt_y S rfl rfl rfl (fun w M => y_move S rfl) ?_; clear S a; intro a S
  refine st_fi (t := 91) S rfl ?_ ?_
  · clear S; intro h91 S
    refine qt_skip 7 S rfl ?_; clear S a; intro a S
    refine qt_y S rfl rfl rfl (fun w M => y_pickF S rfl rfl) ?_; clear S a; intro a S
    refine wpQuiet_nil ?_; clear M; intro w13 M
    refine then_normal ?_
    refine st_condF S rfl ?_
    refine wp_skip ?_
    refine block_normal ?_
    refine nxF ?_
    refine st_go [1] S rfl (by kernel_rfl) ?_; clear S a; intro a S
    (first | refine st_y S rfl rfl rfl (y_addN S rfl rfl (by omega)) ?_ | refine st_y S rfl rfl rfl (y_int S rfl rfl rfl) ?_); clear S a; intro a S
    refine st_go [1] S rfl (by kernel_rfl) ?_; clear S a; intro a S
    refine nxC ?_
    skip
    exact ⟨32 - (k + 1), by omega, k + 1, by omega, rfl, S.sub _ rfl, M⟩
  clear S; intro h91 S
  refine qt_y S rfl rfl rfl (fun w M => y_move S rfl) ?_; clear S a; intro a S
  refine qt_y S rfl rfl rfl (fun w M => y_indexA (m := 32) (sz := 8) S (by kernel_rfl) rfl rfl (by first | omega | (simp; done) | (simp; omega))) ?_; clear S a; intro a S
  try simp only [Int.toNat_natCast, Nat.mul_one, Nat.zero_add] at S
  refine qt_y S rfl rfl rfl (fun w M => y_loadAgg (cs := [_, _, _, _, _, _, _, _]) S (by kernel_rfl) rfl rfl (home_at (M.blk 1 rfl) hv1)) ?_; clear S a; intro a S
  refine qt_y S rfl rfl rfl (fun w M => y_move S rfl) ?_; clear S a; intro a S
  refine qt_y S rfl rfl rfl (fun w M => y_indexA (m := 32) (sz := 8) S (by kernel_rfl) rfl rfl (by first | omega | (simp; done) | (simp; omega))) ?_; clear S a; intro a S
  try simp only [Int.toNat_natCast, Nat.mul_one, Nat.zero_add] at S
  refine qt_y S rfl rfl rfl (fun w M => y_loadAgg (cs := [_, _, _, _, _, _, _, _]) S (by kernel_rfl) rfl rfl (home_at (M.blk 2 rfl) hu1)) ?_; clear S a; intro a S
  refine qt_y S rfl rfl rfl (fun w M => y_neqG (by kernel_rfl) S rfl rfl (fun w => equalV8 9998 v u w)) ?_; clear S a; intro a S
  refine qt_y S rfl rfl rfl (fun w M => y_pickT S rfl rfl) ?_; clear S a; intro a S
  refine wpQuiet_nil ?_; clear M; intro w12 M
  refine then_normal ?_
  refine st_if (t := 99) S rfl ?_ ?_
  · clear S; intro h99 S
    exfalso
    have hn : ¬ WrsP (stepsP l l.length) (k : Int) := fun h => by
      have := hb.2 ((hws _).2 h)
      rw [h91] at this; cases this
    have h2 := do_stays (home := home) hn
    rw [hv1, hu1] at h2
    obtain rfl := Option.some.inj h2
    rw [V8.eqb_refl] at h99; cases h99
  clear S; intro h99 S
  refine st_condF S rfl ?_
  refine wp_skip ?_
  refine block_normal ?_
  refine nxF ?_
  refine st_go [1] S rfl (by kernel_rfl) ?_; clear S a; intro a S
  (first | refine st_y S rfl rfl rfl (y_addN S rfl rfl (by omega)) ?_ | refine st_y S rfl rfl rfl (y_int S rfl rfl rfl) ?_); clear S a; intro a S
  refine st_go [1] S rfl (by kernel_rfl) ?_; clear S a; intro a S
  replace S := S.sub [(2, _), (5, _), (8, _), (9, _), (12, _), (13, _), (77, _), (99, _), (11, _)] rfl
  refine nxC ?_
  skip
  exact ⟨32 - (k + 1), by omega, k + 1, by omega, rfl, S.sub _ rfl, M⟩

end Go.Proofs.Ytgngbdhdnnkncaa
