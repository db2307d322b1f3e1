/-
  Package model: steps, what may be, what is done.
-/
import Derived.Test.YtgngbdhdnnkncaaHeq
import Derived.Test.YtgngbdhdnnkncaaVN
import Derived.Test.YtgngbdhdnnkncaaEqg
namespace Go.Proofs.Ytgngbdhdnnkncaa
open Go.RowKit Go.Sort

structure Sn where
  kind : Int
  name : Nm
  block : Int
  val : V8
  e : Int
abbrev Sn.cellsL (s : Sn) : List Value := [.int .i8 s.kind, .int .i64 s.name.stamp, .int .i64 s.name.inc, .int .i64 s.name.try_, .int .i64 s.block, .int .u8 (s.val.v0.toNat : Int), .int .u8 (s.val.v1.toNat : Int), .int .u8 (s.val.v2.toNat : Int), .int .u8 (s.val.v3.toNat : Int), .int .u8 (s.val.v4.toNat : Int), .int .u8 (s.val.v5.toNat : Int), .int .u8 (s.val.v6.toNat : Int), .int .u8 (s.val.v7.toNat : Int), .int .i64 s.e]
def scells (l : List Sn) : List Value := l.flatMap Sn.cellsL
theorem scells_length : ∀ l, (scells l).length = l.length * 14
  | [] => rfl
  | x :: l => by
    show (x.cellsL ++ scells l).length = _
    rw [List.length_append, scells_length l]; simp; omega
theorem allOne_scells : ∀ l, allOne (scells l) = true
  | [] => rfl
  | x :: l => by
    show allOne (x.cellsL ++ scells l) = true
    rw [allOne_append, allOne_scells l]; rfl
theorem scells_split {l : List Sn} {i : Nat} {x : Sn} (hx : l[i]? = some x) : scells l = scells (l.take i) ++ (x.cellsL ++ scells (l.drop (i + 1))) := by
  obtain ⟨hlt, he⟩ := List.getElem?_eq_some_iff.1 hx
  conv => lhs; rw [← List.take_append_drop i l, List.drop_eq_getElem_cons hlt, he]
  simp [scells]
theorem scells_get {l : List Sn} {i : Nat} {x : Sn} (hx : l[i]? = some x) : ((scells l).drop (i * 14)).take 14 = x.cellsL := by
  have hlt := (List.getElem?_eq_some_iff.1 hx).1
  rw [scells_split hx, show i * 14 = (scells (l.take i)).length by rw [scells_length, List.length_take]; omega, List.drop_left]
  rfl
abbrev Ss (lo hi : Nat) (w : World) (v : Value) (l : List Sn) : Prop := Rd lo hi w 14 v l.length (scells l)

def okS (s : Sn) : Prop := (s.kind = 1 ∨ s.kind = 2) ∧ 0 ≤ s.block ∧ s.block < 32
instance (s : Sn) : Decidable (okS s) := inferInstanceAs (Decidable (_ ∧ _ ∧ _))
theorem blockIs_any (k : Int) (w : World) : Calls Try.prog 18 #[.int .i64 k] w fun e w' => e = .returned (.bool (decide (0 ≤ k ∧ k < 32))) ∧ Below w.heap.size w w' := by
  have M := Mem.start w
  refine calls_enter Try.func18 rfl 9 rfl rfl ?_; intro a S
  refine nxD ?_
  refine st_go [1] S rfl (by kernel_rfl) ?_; clear S a; intro a S
  refine nxA ?_
  refine st_go [1, 1, 1] S rfl (by kernel_rfl) ?_; clear S a; intro a S
  refine st_if (t := 5) S rfl ?_ ?_
  · clear S; intro h5 S
    refine st_go [1, 1, 1, 1] S rfl (by kernel_rfl) ?_; clear S a; intro a S
    refine nxC ?_
    refine wp_ret ?_
    refine end_one S rfl (res_tmp rfl) ?_
    refine ⟨ret_bool ?_, M.below⟩; clear S M; rw [Bool.eq_iff_iff]; simp only [decide_eq_true_eq]; first | omega | (simp; omega)
  clear S; intro h5 S
  refine st_go [0, 0, 1, 1] S rfl (by kernel_rfl) ?_; clear S a; intro a S
  refine nxC ?_
  refine wp_ret ?_
  refine end_one S rfl (res_tmp rfl) ?_
  refine ⟨ret_bool ?_, M.below⟩; clear S M; rw [Bool.eq_iff_iff]; simp only [decide_eq_true_eq]; first | omega | (simp; omega)
set_option maxHeartbeats 400000 in
theorem checkS_any (va : Option Addr) (vc : Nat) (l : List Sn) (w : World) (hv : Ss 0 w.heap.size w (.slice va l.length vc) l) :
    Calls Try.prog 11 #[.slice va l.length vc] w fun e w' => ∃ er, e = .returned (.int .i64 er) ∧ Below w.heap.size w w' ∧ (er = 0 ↔ ∀ x ∈ l, okS x) := by
  have M := Mem.start w
  have hl := hv.2.1
  unfold maxLen at hl
  have hno : ∀ (k : Nat) (x : Sn), l[k]? = some x → ¬ okS x → ¬ ∀ x ∈ l, okS x := fun k x hx h h2 => h (h2 x (List.mem_of_getElem? hx))
  refine calls_enter Try.func11 rfl 26 rfl rfl ?_; intro a S
  refine nxD ?_
  refine st_go [1] S rfl (by kernel_rfl) ?_; clear S a; intro a S
  refine nxA ?_
  refine st_go [1] S rfl (by kernel_rfl) ?_; clear S a; intro a S
  refine nxC ?_
  refine wp_seq ?_
  refine nxD ?_
  refine st_go [1] S rfl (by kernel_rfl) ?_; clear S a; intro a S
  refine st_y S rfl rfl rfl (y_lenS (E := 36) S rfl (by kernel_rfl)) ?_; clear S a; intro a S
  refine st_go [1] S rfl (by kernel_rfl) ?_; clear S a; intro a S
  refine nxC ?_
  refine wp_block ?_
  refine wp_loop_g (fun m a w' => ∃ (k : Nat) (er : Int), k ≤ l.length ∧ m = l.length - k ∧ Sees 26 a [(3, .int .i64 er), (6, .slice va l.length vc), (7, .int .i64 (l.length : Int)), (8, .int .i64 (k : Int))] ∧ Mem w w' [] ∧ (er = 0 → ∀ (i : Nat) (x : Sn), i < k → l[i]? = some x → okS x) ∧ (er ≠ 0 → ¬ ∀ x ∈ l, okS x)) (l.length) ?_ ?_
  · skip
    exact ⟨0, 0, Nat.zero_le _, rfl, S.sub _ rfl, M, fun _ i x h => absurd h (by omega), fun h => absurd rfl h⟩
  clear S M a; intro m a wl
  rintro ⟨k, er, hk, rfl, S, M, h1, h2⟩
  refine nxD ?_
  refine st_go [1] S rfl (by kernel_rfl) ?_; clear S a; intro a S
  refine nxC ?_
  refine wp_seq ?_
  refine st_fi (t := 9) S rfl ?_ ?_
  · clear S; intro h9 S
    refine st_condF S rfl ?_
    refine wp_exit ?_
    refine then_exit ?_
    refine then_exit ?_
    refine block_hit ?_
    refine nxE ?_
    refine st_go [1, 1] S rfl (by kernel_rfl) ?_; clear S a; intro a S
    refine nxC ?_
    refine wp_ret ?_
    refine end_one S rfl (res_tmp rfl) ?_
    obtain rfl : k = l.length := by omega
    refine ⟨er, rfl, M.below, fun h x hx => ?_, fun h => ?_⟩
    · obtain ⟨i, hi⟩ := List.getElem?_of_mem hx
      exact h1 h i x (List.getElem?_eq_some_iff.1 hi).1 hi
    · by_cases h0 : er = 0
      · exact h0
      · exact absurd h (h2 h0)
  clear S; intro h9 S
  refine st_condT S rfl ?_
  refine wp_skip ?_
  refine then_normal ?_
  refine wp_seq ?_
  refine wp_block ?_
  refine wp_seq ?_
  obtain ⟨x, hx⟩ : ∃ x, l[k]? = some x := ⟨_, List.getElem?_eq_getElem (by omega)⟩
  refine wp_region_lit ?_
  refine st_y S rfl rfl rfl (y_indexR (e := 36) (sz := 14) S (by kernel_rfl) rfl ((M.arg hv)) rfl (by first | omega | (simp; done) | (simp; omega))) ?_; clear S a; intro a S
  try simp only [Int.toNat_natCast, Nat.mul_one, Nat.zero_add] at S
  refine st_y S rfl rfl rfl (y_loadAgg S (by kernel_rfl) rfl rfl ((M.arg hv).at_.row (i := k) (scells_get hx) rfl)) ?_; clear S a; intro a S
  refine st_alloc S M rfl rfl #[.int .i8 0, .int .i64 0, .int .i64 0, .int .i64 0, .int .i64 0, .int .u8 0, .int .u8 0, .int .u8 0, .int .u8 0, .int .u8 0, .int .u8 0, .int .u8 0, .int .u8 0, .int .i64 0] (by kernel_rfl) ?_; clear S M a; intro a w1 bX S M hB
  refine st_store (sz := 14) (us := [_, _, _, _, _, _, _, _, _, _, _, _, _, _]) S M 0 rfl (by kernel_rfl) rfl rfl rfl rfl rfl rfl (by first | decide | (simp; done) | (simp; omega)) ?_; clear M; intro w2 M
  simp only [putL, List.set_cons_zero, List.set_cons_succ, Nat.reduceAdd] at M
  refine nxC ?_
  refine wp_seq ?_
  refine nxD ?_
  refine st_run [1, 1, 1, 1] S M rfl (by kernel_rfl) ?_; clear S a; intro a S
  refine st_fi (t := 15) S rfl ?_ ?_
  · clear S; intro h15 S
    refine st_go [0, 0, 0, 1] S rfl (by kernel_rfl) ?_; clear S a; intro a S
    refine nxC ?_
    refine st_condF S rfl ?_
    refine wp_skip ?_
    refine nxE ?_
    refine st_run [5, 1] S M rfl (by kernel_rfl) ?_; clear S a; intro a S
    refine st_call (xs := [(Operand.tmp 21)]) S (enters_of Try.func18 (by decide) rfl) rfl rfl rfl (blockIs_any _ _) ?_
    rintro _ w4 ⟨rfl, hK⟩; refine ⟨_, rfl, ?_⟩; clear S a; intro a S; replace M := M.grow hK
    refine st_go [1] S rfl (by kernel_rfl) ?_; clear S a; intro a S
    refine nxC ?_
    refine st_fi (t := 23) S rfl ?_ ?_
    · clear S; intro h23 S
      refine st_condF S rfl ?_
      refine wp_skip ?_
      refine block_normal ?_
      refine nxF ?_
      (first | refine st_y S rfl rfl rfl (y_addN S rfl rfl (by omega)) ?_ | refine st_y S rfl rfl rfl (y_int S rfl rfl rfl) ?_); clear S a; intro a S
      refine st_go [1] S rfl (by kernel_rfl) ?_; clear S a; intro a S
      replace S := S.sub [(3, _), (6, _), (7, _), (9, _), (5, _), (19, _), (23, _), (8, _)] rfl
      refine nxC ?_
      replace M := M.drop 0
      simp only [List.eraseIdx_cons_succ, List.eraseIdx_cons_zero] at M
      first
        | exact ⟨l.length - (k + 1), by omega, k + 1, 230, by omega, rfl, S.sub _ rfl, M, fun h => absurd h (by decide), fun _ => hno k x hx (by unfold okS; simp_all)⟩
        | (refine ⟨l.length - (k + 1), by omega, k + 1, er, by omega, rfl, S.sub _ rfl, M, fun h i y hi hy => ?_, h2⟩
           rcases Nat.lt_or_ge i k with h' | h'
           · exact h1 h i y h' hy
           · obtain rfl : i = k := by omega
             rw [hx] at hy; obtain rfl := Option.some.inj hy
             exact ⟨by omega, by simp_all⟩)
    clear S; intro h23 S
    refine st_condT S rfl ?_
    refine wp_region_lit ?_
    refine st_go [1] S rfl (by kernel_rfl) ?_; clear S a; intro a S
    refine wpList_nil ?_
    refine block_normal ?_
    refine nxF ?_
    (first | refine st_y S rfl rfl rfl (y_addN S rfl rfl (by omega)) ?_ | refine st_y S rfl rfl rfl (y_int S rfl rfl rfl) ?_); clear S a; intro a S
    refine st_go [1] S rfl (by kernel_rfl) ?_; clear S a; intro a S
    replace S := S.sub [(6, _), (7, _), (9, _), (5, _), (19, _), (23, _), (3, _), (8, _)] rfl
    refine nxC ?_
    replace M := M.drop 0
    simp only [List.eraseIdx_cons_succ, List.eraseIdx_cons_zero] at M
    first
      | exact ⟨l.length - (k + 1), by omega, k + 1, 230, by omega, rfl, S.sub _ rfl, M, fun h => absurd h (by decide), fun _ => hno k x hx (by unfold okS; simp_all)⟩
      | (refine ⟨l.length - (k + 1), by omega, k + 1, er, by omega, rfl, S.sub _ rfl, M, fun h i y hi hy => ?_, h2⟩
         rcases Nat.lt_or_ge i k with h' | h'
         · exact h1 h i y h' hy
         · obtain rfl : i = k := by omega
           rw [hx] at hy; obtain rfl := Option.some.inj hy
           exact ⟨by omega, by simp_all⟩)
  clear S; intro h15 S
  refine st_run [1, 1, 1, 1] S M rfl (by kernel_rfl) ?_; clear S a; intro a S
  refine nxC ?_
  refine st_if (t := 19) S rfl ?_ ?_
  · clear S; intro h19 S
    refine st_condT S rfl ?_
    refine nxD ?_
    refine st_go [1] S rfl (by kernel_rfl) ?_; clear S a; intro a S
    refine nxC ?_
    refine wp_ret ?_
    refine then_ret ?_
    refine block_ret ?_
    refine then_ret ?_
    refine then_ret ?_
    refine block_ret ?_
    refine then_ret ?_
    refine end_one S rfl (res_tmp rfl) ?_
    exact ⟨2, rfl, M.below, fun h => absurd h (by decide), fun h => absurd (h x (List.mem_of_getElem? hx)) (by unfold okS; omega)⟩
  clear S; intro h19 S
  refine st_condF S rfl ?_
  refine wp_skip ?_
  refine nxE ?_
  refine st_run [5, 1] S M rfl (by kernel_rfl) ?_; clear S a; intro a S
  refine st_call (xs := [(Operand.tmp 21)]) S (enters_of Try.func18 (by decide) rfl) rfl rfl rfl (blockIs_any _ _) ?_
  rintro _ w3 ⟨rfl, hK⟩; refine ⟨_, rfl, ?_⟩; clear S a; intro a S; replace M := M.grow hK
  refine st_go [1] S rfl (by kernel_rfl) ?_; clear S a; intro a S
  refine nxC ?_
  refine st_fi (t := 23) S rfl ?_ ?_
  · clear S; intro h23 S
    refine st_condF S rfl ?_
    refine wp_skip ?_
    refine block_normal ?_
    refine nxF ?_
    (first | refine st_y S rfl rfl rfl (y_addN S rfl rfl (by omega)) ?_ | refine st_y S rfl rfl rfl (y_int S rfl rfl rfl) ?_); clear S a; intro a S
    refine st_go [1] S rfl (by kernel_rfl) ?_; clear S a; intro a S
    replace S := S.sub [(3, _), (6, _), (7, _), (9, _), (5, _), (19, _), (23, _), (8, _)] rfl
    refine nxC ?_
    replace M := M.drop 0
    simp only [List.eraseIdx_cons_succ, List.eraseIdx_cons_zero] at M
    first
      | exact ⟨l.length - (k + 1), by omega, k + 1, 230, by omega, rfl, S.sub _ rfl, M, fun h => absurd h (by decide), fun _ => hno k x hx (by unfold okS; simp_all)⟩
      | (refine ⟨l.length - (k + 1), by omega, k + 1, er, by omega, rfl, S.sub _ rfl, M, fun h i y hi hy => ?_, h2⟩
         rcases Nat.lt_or_ge i k with h' | h'
         · exact h1 h i y h' hy
         · obtain rfl : i = k := by omega
           rw [hx] at hy; obtain rfl := Option.some.inj hy
           exact ⟨by omega, by simp_all⟩)
  clear S; intro h23 S
  refine st_condT S rfl ?_
  refine wp_region_lit ?_
  refine st_go [1] S rfl (by kernel_rfl) ?_; clear S a; intro a S
  refine wpList_nil ?_
  refine block_normal ?_
  refine nxF ?_
  (first | refine st_y S rfl rfl rfl (y_addN S rfl rfl (by omega)) ?_ | refine st_y S rfl rfl rfl (y_int S rfl rfl rfl) ?_); clear S a; intro a S
  refine st_go [1] S rfl (by kernel_rfl) ?_; clear S a; intro a S
  replace S := S.sub [(6, _), (7, _), (9, _), (5, _), (19, _), (23, _), (3, _), (8, _)] rfl
  refine nxC ?_
  replace M := M.drop 0
  simp only [List.eraseIdx_cons_succ, List.eraseIdx_cons_zero] at M
  first
    | exact ⟨l.length - (k + 1), by omega, k + 1, 230, by omega, rfl, S.sub _ rfl, M, fun h => absurd h (by decide), fun _ => hno k x hx (by unfold okS; simp_all)⟩
    | (refine ⟨l.length - (k + 1), by omega, k + 1, er, by omega, rfl, S.sub _ rfl, M, fun h i y hi hy => ?_, h2⟩
       rcases Nat.lt_or_ge i k with h' | h'
       · exact h1 h i y h' hy
       · obtain rfl : i = k := by omega
         rw [hx] at hy; obtain rfl := Option.some.inj hy
         exact ⟨by omega, by simp_all⟩)

/-- the reads and writes of blocks that are, of the first k steps -/
def stepsP (l : List Sn) : Nat → List (Nat × Sn)
  | 0 => []
  | k + 1 => stepsP l k ++ (match l[k]? with | some x => if okS x then [(k, x)] else [] | none => [])
theorem stepsP_yes {l : List Sn} {k : Nat} {x : Sn} (hx : l[k]? = some x) (h : okS x) : stepsP l (k + 1) = stepsP l k ++ [(k, x)] := by simp [stepsP, hx, h]
theorem stepsP_no {l : List Sn} {k : Nat} {x : Sn} (hx : l[k]? = some x) (h : ¬ okS x) : stepsP l (k + 1) = stepsP l k := by simp [stepsP, hx, h]
theorem stepsP_pre (l : List Sn) (k : Nat) : ∀ m, ∃ t, stepsP l (k + m) = stepsP l k ++ t
  | 0 => ⟨[], by simp⟩
  | m + 1 => by
    obtain ⟨t, h⟩ := stepsP_pre l k m
    exact ⟨_, by rw [← Nat.add_assoc, stepsP, h, List.append_assoc]⟩
theorem stepsP_mem {l : List Sn} : ∀ {k : Nat} {q : Nat × Sn}, q ∈ stepsP l k → l[q.1]? = some q.2 ∧ okS q.2
  | k + 1, q, h => by
    rw [stepsP] at h
    rcases List.mem_append.1 h with h | h
    · exact stepsP_mem h
    · split at h
      · split at h
        · obtain rfl := List.mem_singleton.1 h; exact ⟨by assumption, by assumption⟩
        · cases h
      · cases h
theorem stepsP_at {l : List Sn} {k : Nat} {x : Sn} (hx : l[k]? = some x) (h : okS x) : ∃ t, stepsP l l.length = stepsP l k ++ (k, x) :: t := by
  have hk := (List.getElem?_eq_some_iff.1 hx).1
  obtain ⟨t, ht⟩ := stepsP_pre l (k + 1) (l.length - (k + 1))
  rw [show k + 1 + (l.length - (k + 1)) = l.length by omega, stepsP_yes hx h] at ht
  exact ⟨t, by rw [ht]; simp⟩
abbrev encS (q : Nat × Sn) : List Value := [.int .i64 (q.1 : Int), .agg q.2.cellsL.toArray]
def StC (bL : Nat) (v : Value) (l : List Sn) (W : World) : Prop := Blk W bL #[v] 25 ∧ Ss 0 W.heap.size W v l
set_option maxHeartbeats 1000000 in
theorem steps1_gen (bL : Nat) (va : Option Addr) (vc : Nat) (l : List Sn) : Gen Try.prog 19 [.pointer (some ⟨bL, 0, none⟩)] encS (stepsP l l.length) (StC bL (.slice va l.length vc) l) := by
  intro ll I w hC hg hY h0
  have hl := (hC _ _ h0).2.2.1
  unfold maxLen at hl
  have M := Mem.start w
  refine calls_enterG Try.func19 rfl 33 rfl rfl ?_; intro a S
  refine wpIn_seq ?_
  refine wpI_region (by kernel_rfl) (by rintro _ _ ⟨⟨_, h⟩, -⟩; cases h) ?_
  refine st_y S rfl rfl rfl (y_load S (by kernel_rfl) rfl ((hC _ _ h0).1.cells 0)) ?_; clear S a; intro a S
  refine st_y S rfl rfl rfl (y_lenS (E := 36) S rfl (by kernel_rfl)) ?_; clear S a; intro a S
  refine st_go [1] S rfl (by kernel_rfl) ?_; clear S a; intro a S
  refine nxC ?_
  refine wpIn_block ?_
  refine wpI_loop_g (fun m a w' => ∃ (k : Nat), k ≤ l.length ∧ m = l.length - k ∧ Sees 33 a [(0, .func (.yield ll) #[] #[]), (5, .slice va l.length vc), (6, .int .i64 (l.length : Int)), (7, .int .i64 (k : Int))] ∧ I (stepsP l k) w') (l.length) ?_ ?_
  · skip
    exact ⟨0, Nat.zero_le _, rfl, S.sub _ rfl, h0⟩
  clear S M a; intro m a wl
  rintro ⟨k, hk, rfl, S, hI⟩
  have M := Mem.start wl
  have hv := (hC _ _ hI).2
  refine wpIn_seq ?_
  refine wpI_region (by kernel_rfl) (by rintro _ _ ⟨⟨_, h⟩, -⟩; cases h) ?_
  refine st_go [1] S rfl (by kernel_rfl) ?_; clear S a; intro a S
  refine nxC ?_
  refine wpIn_seq ?_
  refine st_fi (t := 8) S rfl ?_ ?_
  · clear S; intro h8 S
    refine stI_condF S rfl ?_
    refine wpIn_exit ?_
    refine then_exit ?_
    refine then_exit ?_
    refine block_hit ?_
    refine end_noneN S rfl ?_
    obtain rfl : k = l.length := by omega
    exact ⟨⟨_, rfl⟩, hI⟩
  clear S; intro h8 S
  refine stI_condT S rfl ?_
  refine wpIn_skip ?_
  refine then_normal ?_
  refine wpIn_seq ?_
  refine wpIn_block ?_
  refine wpIn_seq ?_
  obtain ⟨x, hx⟩ : ∃ x, l[k]? = some x := ⟨_, List.getElem?_eq_getElem (by omega)⟩
  refine wpI_region (by kernel_rfl) (by rintro _ _ ⟨⟨_, h⟩, -⟩; cases h) ?_
  refine st_go [1] S rfl (by kernel_rfl) ?_; clear S a; intro a S
  refine st_y S rfl rfl rfl (y_indexR (e := 36) (sz := 14) S (by kernel_rfl) rfl ((M.arg hv)) rfl (by first | omega | (simp; done) | (simp; omega))) ?_; clear S a; intro a S
  try simp only [Int.toNat_natCast, Nat.mul_one, Nat.zero_add] at S
  refine st_y S rfl rfl rfl (y_loadAgg S (by kernel_rfl) rfl rfl ((M.arg hv).at_.row (i := k) (scells_get hx) rfl)) ?_; clear S a; intro a S
  refine st_alloc S M rfl rfl #[.int .i8 0, .int .i64 0, .int .i64 0, .int .i64 0, .int .i64 0, .int .u8 0, .int .u8 0, .int .u8 0, .int .u8 0, .int .u8 0, .int .u8 0, .int .u8 0, .int .u8 0, .int .i64 0] (by kernel_rfl) ?_; clear S M a; intro a w1 bX S M hB
  refine st_go [1] S rfl (by kernel_rfl) ?_; clear S a; intro a S
  refine st_store (sz := 14) (us := [_, _, _, _, _, _, _, _, _, _, _, _, _, _]) S M 0 rfl (by kernel_rfl) rfl rfl rfl rfl rfl rfl (by first | decide | (simp; done) | (simp; omega)) ?_; clear M; intro w2 M
  simp only [putL, List.set_cons_zero, List.set_cons_succ, Nat.reduceAdd] at M
  refine nxC ?_
  refine wpIn_seq ?_
  refine wpI_preK 17 (by kernel_rfl) (by rintro _ _ ⟨⟨_, h⟩, -⟩; cases h) ?_; simp only [List.take_succ_cons, List.take_zero, List.drop_succ_cons, List.drop_zero]
  refine st_run [1, 1, 1, 1] S M rfl (by kernel_rfl) ?_; clear S a; intro a S
  refine st_if (t := 15) S rfl ?_ ?_
  · clear S; intro h15 S
    refine st_run [0, 0, 0, 1, 1, 5, 1] S M rfl (by kernel_rfl) ?_; clear S a; intro a S
    refine st_call (xs := [(Operand.tmp 22)]) S (enters_of Try.func18 (by decide) rfl) rfl rfl rfl (blockIs_any _ _) ?_
    rintro _ w3 ⟨rfl, hK⟩; refine ⟨_, rfl, ?_⟩; clear S a; intro a S; replace M := M.grow hK
    refine st_go [1, 1] S rfl (by kernel_rfl) ?_; clear S a; intro a S
    refine st_fi (t := 25) S rfl ?_ ?_
    · clear S; intro h25 S
      refine st_go [0, 0, 0] S rfl (by kernel_rfl) ?_; clear S a; intro a S
      refine wpList_nil ?_; refine then_normal ?_
      refine list_in (by kernel_rfl) (by rintro _ _ ⟨⟨_, h⟩, -⟩; cases h) ?_
      refine st_no S rfl rfl rfl ?_; clear S a; intro a S
      refine st_go [0, 1] S rfl (by kernel_rfl) ?_; clear S a; intro a S
      replace S := S.sub [(0, _), (5, _), (6, _), (7, _), (8, _), (4, _), (3, _), (31, _)] rfl
      refine nxC ?_
      refine stI_condF S rfl ?_
      refine wpIn_skip ?_
      refine block_normal ?_
      refine then_normal ?_
      refine wpI_region (by kernel_rfl) (by rintro _ _ ⟨⟨_, h⟩, -⟩; cases h) ?_
      (first | refine st_y S rfl rfl rfl (y_addN S rfl rfl (by omega)) ?_ | refine st_y S rfl rfl rfl (y_int S rfl rfl rfl) ?_); clear S a; intro a S
      refine st_go [1] S rfl (by kernel_rfl) ?_; clear S a; intro a S
      refine nxC ?_
      first
        | exact ⟨l.length - (k + 1), by omega, k + 1, by omega, rfl, S.sub _ rfl, by rw [stepsP_yes hx hok]; exact hg _ _ _ hI2 M.below⟩
        | exact ⟨l.length - (k + 1), by omega, k + 1, by omega, rfl, S.sub _ rfl, by rw [stepsP_no hx (by unfold okS; first | omega | (simp_all; done) | (simp_all; omega))]; exact hg _ _ _ hI M.below⟩
    clear S; intro h25 S
    refine st_go [1, 1] S rfl (by kernel_rfl) ?_; clear S a; intro a S
    refine st_y S rfl rfl rfl (y_loadAgg (cs := [_, _, _, _, _, _, _, _, _, _, _, _, _, _]) S (by kernel_rfl) rfl rfl (M.cellsAt (k := 14) 0 rfl rfl)) ?_; clear S a; intro a S
    have hok : okS x := by first | (unfold okS; omega) | (unfold okS; simp_all; omega)
    refine wpList_nil ?_; refine then_normal ?_
    refine stI_yield (xs := [(Operand.tmp 27), (Operand.tmp 28)]) S rfl (by kernel_rfl) rfl rfl (hY (stepsP l k) (k, x) (stepsP_at hx hok).choose _ (stepsP_at hx hok).choose_spec (hg _ _ _ hI M.below)) ?_
    rintro _ w4 ⟨rfl, hI2⟩; refine ⟨_, rfl, ?_⟩; clear S M a; intro a S; have M := Mem.start w4
    refine list_in (by kernel_rfl) (by rintro _ _ ⟨⟨_, h⟩, -⟩; cases h) ?_
    refine st_go [1, 1] S rfl (by kernel_rfl) ?_; clear S a; intro a S
    replace S := S.sub [(0, _), (5, _), (6, _), (7, _), (8, _), (4, _), (3, _), (31, _)] rfl
    refine nxC ?_
    refine st_if (t := 31) S rfl ?_ ?_
    · clear S; intro h31 S
      cases h31
    clear S; intro h31 S
    refine stI_condF S rfl ?_
    refine wpIn_skip ?_
    refine block_normal ?_
    refine then_normal ?_
    refine wpI_region (by kernel_rfl) (by rintro _ _ ⟨⟨_, h⟩, -⟩; cases h) ?_
    (first | refine st_y S rfl rfl rfl (y_addN S rfl rfl (by omega)) ?_ | refine st_y S rfl rfl rfl (y_int S rfl rfl rfl) ?_); clear S a; intro a S
    refine st_go [1] S rfl (by kernel_rfl) ?_; clear S a; intro a S
    refine nxC ?_
    first
      | exact ⟨l.length - (k + 1), by omega, k + 1, by omega, rfl, S.sub _ rfl, by rw [stepsP_yes hx hok]; exact hg _ _ _ hI2 M.below⟩
      | exact ⟨l.length - (k + 1), by omega, k + 1, by omega, rfl, S.sub _ rfl, by rw [stepsP_no hx (by unfold okS; first | omega | (simp_all; done) | (simp_all; omega))]; exact hg _ _ _ hI M.below⟩
  clear S; intro h15 S
  refine st_run [1, 1, 1, 1, 1] S M rfl (by kernel_rfl) ?_; clear S a; intro a S
  refine st_fi (t := 20) S rfl ?_ ?_
  · clear S; intro h20 S
    refine st_go [0, 0, 0, 1, 1, 0, 0, 0] S rfl (by kernel_rfl) ?_; clear S a; intro a S
    refine wpList_nil ?_; refine then_normal ?_
    refine list_in (by kernel_rfl) (by rintro _ _ ⟨⟨_, h⟩, -⟩; cases h) ?_
    refine st_no S rfl rfl rfl ?_; clear S a; intro a S
    refine st_go [0, 1] S rfl (by kernel_rfl) ?_; clear S a; intro a S
    replace S := S.sub [(0, _), (5, _), (6, _), (7, _), (8, _), (4, _), (3, _), (31, _)] rfl
    refine nxC ?_
    refine stI_condF S rfl ?_
    refine wpIn_skip ?_
    refine block_normal ?_
    refine then_normal ?_
    refine wpI_region (by kernel_rfl) (by rintro _ _ ⟨⟨_, h⟩, -⟩; cases h) ?_
    (first | refine st_y S rfl rfl rfl (y_addN S rfl rfl (by omega)) ?_ | refine st_y S rfl rfl rfl (y_int S rfl rfl rfl) ?_); clear S a; intro a S
    refine st_go [1] S rfl (by kernel_rfl) ?_; clear S a; intro a S
    refine nxC ?_
    first
      | exact ⟨l.length - (k + 1), by omega, k + 1, by omega, rfl, S.sub _ rfl, by rw [stepsP_yes hx hok]; exact hg _ _ _ hI2 M.below⟩
      | exact ⟨l.length - (k + 1), by omega, k + 1, by omega, rfl, S.sub _ rfl, by rw [stepsP_no hx (by unfold okS; first | omega | (simp_all; done) | (simp_all; omega))]; exact hg _ _ _ hI M.below⟩
  clear S; intro h20 S
  refine st_run [5, 1] S M rfl (by kernel_rfl) ?_; clear S a; intro a S
  refine st_call (xs := [(Operand.tmp 22)]) S (enters_of Try.func18 (by decide) rfl) rfl rfl rfl (blockIs_any _ _) ?_
  rintro _ w5 ⟨rfl, hK⟩; refine ⟨_, rfl, ?_⟩; clear S a; intro a S; replace M := M.grow hK
  refine st_go [1, 1] S rfl (by kernel_rfl) ?_; clear S a; intro a S
  refine st_fi (t := 25) S rfl ?_ ?_
  · clear S; intro h25 S
    refine st_go [0, 0, 0] S rfl (by kernel_rfl) ?_; clear S a; intro a S
    refine wpList_nil ?_; refine then_normal ?_
    refine list_in (by kernel_rfl) (by rintro _ _ ⟨⟨_, h⟩, -⟩; cases h) ?_
    refine st_no S rfl rfl rfl ?_; clear S a; intro a S
    refine st_go [0, 1] S rfl (by kernel_rfl) ?_; clear S a; intro a S
    replace S := S.sub [(0, _), (5, _), (6, _), (7, _), (8, _), (4, _), (3, _), (31, _)] rfl
    refine nxC ?_
    refine stI_condF S rfl ?_
    refine wpIn_skip ?_
    refine block_normal ?_
    refine then_normal ?_
    refine wpI_region (by kernel_rfl) (by rintro _ _ ⟨⟨_, h⟩, -⟩; cases h) ?_
    (first | refine st_y S rfl rfl rfl (y_addN S rfl rfl (by omega)) ?_ | refine st_y S rfl rfl rfl (y_int S rfl rfl rfl) ?_); clear S a; intro a S
    refine st_go [1] S rfl (by kernel_rfl) ?_; clear S a; intro a S
    refine nxC ?_
    first
      | exact ⟨l.length - (k + 1), by omega, k + 1, by omega, rfl, S.sub _ rfl, by rw [stepsP_yes hx hok]; exact hg _ _ _ hI2 M.below⟩
      | exact ⟨l.length - (k + 1), by omega, k + 1, by omega, rfl, S.sub _ rfl, by rw [stepsP_no hx (by unfold okS; first | omega | (simp_all; done) | (simp_all; omega))]; exact hg _ _ _ hI M.below⟩
  clear S; intro h25 S
  refine st_go [1, 1] S rfl (by kernel_rfl) ?_; clear S a; intro a S
  refine st_y S rfl rfl rfl (y_loadAgg (cs := [_, _, _, _, _, _, _, _, _, _, _, _, _, _]) S (by kernel_rfl) rfl rfl (M.cellsAt (k := 14) 0 rfl rfl)) ?_; clear S a; intro a S
  have hok : okS x := by first | (unfold okS; omega) | (unfold okS; simp_all; omega)
  refine wpList_nil ?_; refine then_normal ?_
  refine stI_yield (xs := [(Operand.tmp 27), (Operand.tmp 28)]) S rfl (by kernel_rfl) rfl rfl (hY (stepsP l k) (k, x) (stepsP_at hx hok).choose _ (stepsP_at hx hok).choose_spec (hg _ _ _ hI M.below)) ?_
  rintro _ w6 ⟨rfl, hI2⟩; refine ⟨_, rfl, ?_⟩; clear S M a; intro a S; have M := Mem.start w6
  refine list_in (by kernel_rfl) (by rintro _ _ ⟨⟨_, h⟩, -⟩; cases h) ?_
  refine st_go [1, 1] S rfl (by kernel_rfl) ?_; clear S a; intro a S
  replace S := S.sub [(0, _), (5, _), (6, _), (7, _), (8, _), (4, _), (3, _), (31, _)] rfl
  refine nxC ?_
  refine st_if (t := 31) S rfl ?_ ?_
  · clear S; intro h31 S
    cases h31
  clear S; intro h31 S
  refine stI_condF S rfl ?_
  refine wpIn_skip ?_
  refine block_normal ?_
  refine then_normal ?_
  refine wpI_region (by kernel_rfl) (by rintro _ _ ⟨⟨_, h⟩, -⟩; cases h) ?_
  (first | refine st_y S rfl rfl rfl (y_addN S rfl rfl (by omega)) ?_ | refine st_y S rfl rfl rfl (y_int S rfl rfl rfl) ?_); clear S a; intro a S
  refine st_go [1] S rfl (by kernel_rfl) ?_; clear S a; intro a S
  refine nxC ?_
  first
    | exact ⟨l.length - (k + 1), by omega, k + 1, by omega, rfl, S.sub _ rfl, by rw [stepsP_yes hx hok]; exact hg _ _ _ hI2 M.below⟩
    | exact ⟨l.length - (k + 1), by omega, k + 1, by omega, rfl, S.sub _ rfl, by rw [stepsP_no hx (by unfold okS; first | omega | (simp_all; done) | (simp_all; omega))]; exact hg _ _ _ hI M.below⟩
theorem steps_any (va : Option Addr) (vc : Nat) (vn : Nat) (w : World) : Calls Try.prog 12 #[.slice va vn vc] w fun e w' => ∃ b, e = .returned (.func (.func 19) #[] #[.pointer (some ⟨b, 0, none⟩)]) ∧ Mem w w' [.blk b #[.slice va vn vc] 25] := by
  have M := Mem.start w
  refine calls_enter Try.func12 rfl 4 rfl rfl ?_; intro a S
  refine nxD ?_
  refine st_box S M rfl rfl rfl #[_] rfl ?_; clear S M a; intro a w1 bB S M hB
  refine st_go [1] S rfl (by kernel_rfl) ?_; clear S a; intro a S
  refine nxA ?_
  refine st_y S rfl rfl rfl (y_makeFunc (fs := []) (cs := [(Operand.tmp 1)]) S rfl rfl) ?_; clear S a; intro a S
  refine st_go [1] S rfl (by kernel_rfl) ?_; clear S a; intro a S
  refine nxC ?_
  refine wp_ret ?_
  refine end_one S rfl (res_tmp rfl) ?_
  exact ⟨bB, rfl, M⟩

end Go.Proofs.Ytgngbdhdnnkncaa
