/-
  Package model: Clash.
-/
import Derived.Test.YtgngbdhdnnkncaaNe
namespace Go.Proofs.Ytgngbdhdnnkncaa
open Go.RowKit Go.Sort

theorem idxI_any (va : Option Addr) (vc : Nat) (xs : List Int) (z : Int) (w : World) (hv : Rd 0 w.heap.size w 1 (.slice va xs.length vc) xs.length (icells xs)) :
    Calls Try.prog 23 #[.slice va xs.length vc, .int .i64 z] w fun e w' => ∃ j, e = .returned (.int .i64 j) ∧ Below w.heap.size w w' ∧ (0 ≤ j ↔ z ∈ xs) := by
  have M := Mem.start w
  have hl := hv.2.1
  unfold maxLen at hl
  refine calls_enter Try.func23 rfl 19 rfl rfl ?_; intro a S
  refine nxD ?_
  refine st_go [1] S rfl (by kernel_rfl) ?_; clear S a; intro a S
  refine nxC ?_
  refine wp_seq ?_
  refine nxD ?_
  refine st_go [1] S rfl (by kernel_rfl) ?_; clear S a; intro a S
  refine st_y S rfl rfl rfl (y_lenS (E := 3) S rfl (by kernel_rfl)) ?_; clear S a; intro a S
  refine st_go [1] S rfl (by kernel_rfl) ?_; clear S a; intro a S
  refine nxC ?_
  refine wp_block ?_
  refine wp_loop_g (fun m a w' => ∃ (k : Nat), k ≤ xs.length ∧ m = xs.length - k ∧ Sees 19 a [(0, .slice va xs.length vc), (1, .int .i64 z), (7, .int .i64 (xs.length : Int)), (8, .int .i64 (k : Int))] ∧ Mem w w' [] ∧ ∀ (i : Nat) (q : Int), i < k → xs[i]? = some q → z ≠ q) (xs.length) ?_ ?_
  · skip
    exact ⟨0, Nat.zero_le _, rfl, S.sub _ rfl, M, fun i q h => absurd h (by omega)⟩
  clear S M a; intro m a wl
  rintro ⟨k, hk, rfl, S, M, hpre⟩
  refine nxD ?_
  refine st_go [1] S rfl (by kernel_rfl) ?_; clear S a; intro a S
  refine nxC ?_
  refine wp_seq ?_
  refine st_fi (t := 9) S rfl ?_ ?_
  · clear S; intro h9 S
    refine st_condF S rfl ?_
    refine wp_exit ?_
    refine then_exit ?_
    refine then_exit ?_
    refine block_hit ?_
    refine nxE ?_
    refine st_go [1] S rfl (by kernel_rfl) ?_; clear S a; intro a S
    refine nxC ?_
    refine wp_ret ?_
    refine end_one S rfl (res_tmp rfl) ?_
    obtain rfl : k = xs.length := by omega
    refine ⟨-1, rfl, M.below, fun h => absurd h (by decide), fun h => ?_⟩
    obtain ⟨i, hi⟩ := List.getElem?_of_mem h
    exact absurd rfl (hpre i z (List.getElem?_eq_some_iff.1 hi).1 hi)
  clear S; intro h9 S
  refine st_condT S rfl ?_
  refine wp_skip ?_
  refine then_normal ?_
  refine wp_seq ?_
  refine wp_block ?_
  refine nxD ?_
  refine st_go [1, 1] S rfl (by kernel_rfl) ?_; clear S a; intro a S
  refine nxC ?_
  refine wp_seq ?_
  obtain ⟨q, hq⟩ : ∃ q, xs[k]? = some q := ⟨_, List.getElem?_eq_getElem (by omega)⟩
  refine wp_region_lit ?_
  refine st_go [1, 1, 1] S rfl (by kernel_rfl) ?_; clear S a; intro a S
  refine st_y S rfl rfl rfl (y_indexR (e := 3) (sz := 1) S (by kernel_rfl) rfl ((M.arg hv)) rfl (by first | omega | (simp; done) | (simp; omega))) ?_; clear S a; intro a S
  try simp only [Int.toNat_natCast, Nat.mul_one, Nat.zero_add] at S
  refine st_y S rfl rfl rfl (y_load S (by kernel_rfl) rfl ((M.arg hv).icell (i := k) hq)) ?_; clear S a; intro a S
  refine st_go [1] S rfl (by kernel_rfl) ?_; clear S a; intro a S
  refine nxC ?_
  refine st_if (t := 16) S rfl ?_ ?_
  · clear S; intro h16 S
    refine st_condT S rfl ?_
    refine nxD ?_
    refine st_go [1, 1] S rfl (by kernel_rfl) ?_; clear S a; intro a S
    refine nxC ?_
    refine wp_ret ?_
    refine block_ret ?_
    refine then_ret ?_
    refine then_ret ?_
    refine block_ret ?_
    refine then_ret ?_
    refine end_one S rfl (res_tmp rfl) ?_
    exact ⟨(k : Int), rfl, M.below, fun _ => by rw [show z = q by omega]; exact List.mem_of_getElem? hq, fun _ => Int.natCast_nonneg k⟩
  clear S; intro h16 S
  refine st_condF S rfl ?_
  refine wp_skip ?_
  refine block_normal ?_
  refine nxF ?_
  (first | refine st_y S rfl rfl rfl (y_addN S rfl rfl (by omega)) ?_ | refine st_y S rfl rfl rfl (y_int S rfl rfl rfl) ?_); clear S a; intro a S
  refine st_go [1] S rfl (by kernel_rfl) ?_; clear S a; intro a S
  refine nxC ?_
  refine ⟨xs.length - (k + 1), by omega, k + 1, by omega, rfl, S.sub _ rfl, M, fun i q' hi hq' => ?_⟩
  rcases Nat.lt_or_ge i k with h | h
  · exact hpre i q' h hq'
  · obtain rfl : i = k := by omega
    rw [hq] at hq'; obtain rfl := Option.some.inj hq'; omega
theorem containsI_any (va : Option Addr) (vc : Nat) (xs : List Int) (z : Int) (w : World) (hv : Rd 0 w.heap.size w 1 (.slice va xs.length vc) xs.length (icells xs)) :
    Calls Try.prog 17 #[.slice va xs.length vc, .int .i64 z] w fun e w' => e = .returned (.bool (decide (z ∈ xs))) ∧ Below w.heap.size w w' := by
  have M := Mem.start w
  refine calls_enter Try.func17 rfl 9 rfl rfl ?_; intro a S
  refine nxD ?_
  refine st_go [1] S rfl (by kernel_rfl) ?_; clear S a; intro a S
  refine nxA ?_
  refine st_go [1, 1] S rfl (by kernel_rfl) ?_; clear S a; intro a S
  refine st_call (xs := [(Operand.tmp 5), (Operand.tmp 6)]) S (enters_of Try.func23 (by decide) rfl) rfl rfl rfl (idxI_any va vc xs z _ (M.argW hv)) ?_
  rintro _ w1 ⟨j, rfl, hK, hj⟩; refine ⟨_, rfl, ?_⟩; clear S a; intro a S; replace M := M.grow hK
  refine st_go [1, 1] S rfl (by kernel_rfl) ?_; clear S a; intro a S
  refine nxC ?_
  refine wp_ret ?_
  refine end_one S rfl (res_tmp rfl) ?_
  refine ⟨ret_bool ?_, M.below⟩; clear S M; rw [Bool.eq_iff_iff]; simp only [decide_eq_true_eq, ← hj]; first | done | omega | (simp; done)
theorem clash11_any (z : Int) (b : Nat) (vb : Option Addr) (vd : Nat) (ys : List Int) (w : World) (hb : Blk w b #[.slice vb ys.length vd] 30) (hv : Rd 0 w.heap.size w 1 (.slice vb ys.length vd) ys.length (icells ys)) :
    Calls Try.prog 16 #[.int .i64 z, .pointer (some ⟨b, 0, none⟩)] w fun e w' => e = .returned (.bool (decide (z ∈ ys))) ∧ Below w.heap.size w w' := by
  have M := Mem.start w
  refine calls_enter Try.func16 rfl 7 rfl rfl ?_; intro a S
  refine nxD ?_
  refine st_go [1] S rfl (by kernel_rfl) ?_; clear S a; intro a S
  refine nxA ?_
  refine st_y S rfl rfl rfl (y_load S (by kernel_rfl) rfl (show World.cell? _ ⟨b, 0, none⟩ = some (.slice vb ys.length vd) from Blk.cells (show Blk _ b #[.slice vb ys.length vd] 30 from (M.below.block b hb.lt).trans hb) 0)) ?_; clear S a; intro a S
  refine st_go [1] S rfl (by kernel_rfl) ?_; clear S a; intro a S
  refine st_call (xs := [(Operand.tmp 4), (Operand.tmp 5)]) S (enters_of Try.func17 (by decide) rfl) rfl rfl rfl (containsI_any vb vd ys z _ (M.argW hv)) ?_
  rintro _ w1 ⟨rfl, hK⟩; refine ⟨_, rfl, ?_⟩; clear S a; intro a S; replace M := M.grow hK
  refine st_go [1] S rfl (by kernel_rfl) ?_; clear S a; intro a S
  refine nxC ?_
  refine wp_ret ?_
  refine end_one S rfl (res_tmp rfl) ?_
  exact ⟨rfl, M.below⟩
/-- the first that the question takes, or none -/
theorem indexFuncI_any {f : FuncId} {fi ca : List Value} (hE : Enters Try.prog f) (va : Option Addr) (vc : Nat) (xs : List Int) (p : Int → Bool) (w : World) (hv : Rd 0 w.heap.size w 1 (.slice va xs.length vc) xs.length (icells xs))
    (hstep : ∀ (z : Int) (w' : World), Below w.heap.size w w' → Calls Try.prog f (fi ++ ([Value.int .i64 z] ++ ca)).toArray w' (fun e w'' => e = .returned (.bool (p z)) ∧ Below w'.heap.size w' w'')) :
    Calls Try.prog 22 #[.slice va xs.length vc, .func (.func f) fi.toArray ca.toArray] w (fun e w' => ∃ j, e = .returned (.int .i64 j) ∧ Below w.heap.size w w' ∧ (0 ≤ j ↔ xs.any p = true)) := by
  have M := Mem.start w
  have hl := hv.2.1
  unfold maxLen at hl
  refine calls_enter Try.func22 rfl 19 rfl rfl ?_; intro a S
  refine nxD ?_
  refine st_go [1] S rfl (by kernel_rfl) ?_; clear S a; intro a S
  refine nxC ?_
  refine wp_seq ?_
  refine nxD ?_
  refine st_go [1] S rfl (by kernel_rfl) ?_; clear S a; intro a S
  refine st_y S rfl rfl rfl (y_lenS (E := 3) S rfl (by kernel_rfl)) ?_; clear S a; intro a S
  refine st_go [1] S rfl (by kernel_rfl) ?_; clear S a; intro a S
  refine nxC ?_
  refine wp_block ?_
  refine wp_loop_g (fun m a w' => ∃ (k : Nat), k ≤ xs.length ∧ m = xs.length - k ∧ Sees 19 a [(0, .slice va xs.length vc), (1, .func (.func f) fi.toArray ca.toArray), (7, .int .i64 (xs.length : Int)), (8, .int .i64 (k : Int))] ∧ Mem w w' [] ∧ ∀ (i : Nat) (q : Int), i < k → xs[i]? = some q → p q = false) (xs.length) ?_ ?_
  · skip
    exact ⟨0, Nat.zero_le _, rfl, S.sub _ rfl, M, fun i q h => absurd h (by omega)⟩
  clear S M a; intro m a wl
  rintro ⟨k, hk, rfl, S, M, hpre⟩
  refine nxD ?_
  refine st_go [1] S rfl (by kernel_rfl) ?_; clear S a; intro a S
  refine nxC ?_
  refine wp_seq ?_
  refine st_fi (t := 9) S rfl ?_ ?_
  · clear S; intro h9 S
    refine st_condF S rfl ?_
    refine wp_exit ?_
    refine then_exit ?_
    refine then_exit ?_
    refine block_hit ?_
    refine nxE ?_
    refine st_go [1] S rfl (by kernel_rfl) ?_; clear S a; intro a S
    refine nxC ?_
    refine wp_ret ?_
    refine end_one S rfl (res_tmp rfl) ?_
    obtain rfl : k = xs.length := by omega
    refine ⟨-1, rfl, M.below, fun h => absurd h (by decide), fun h => ?_⟩
    obtain ⟨q, hq, hp⟩ := List.any_eq_true.1 h
    obtain ⟨i, hi⟩ := List.getElem?_of_mem hq
    rw [hpre i q (List.getElem?_eq_some_iff.1 hi).1 hi] at hp; cases hp
  clear S; intro h9 S
  refine st_condT S rfl ?_
  refine wp_skip ?_
  refine then_normal ?_
  refine wp_seq ?_
  refine wp_block ?_
  refine nxD ?_
  refine st_go [1, 1] S rfl (by kernel_rfl) ?_; clear S a; intro a S
  refine nxC ?_
  refine wp_seq ?_
  obtain ⟨q, hq⟩ : ∃ q, xs[k]? = some q := ⟨_, List.getElem?_eq_getElem (by omega)⟩
  refine wp_region_lit ?_
  refine st_go [1, 1, 1] S rfl (by kernel_rfl) ?_; clear S a; intro a S
  refine st_y S rfl rfl rfl (y_indexR (e := 3) (sz := 1) S (by kernel_rfl) rfl ((M.arg hv)) rfl (by first | omega | (simp; done) | (simp; omega))) ?_; clear S a; intro a S
  try simp only [Int.toNat_natCast, Nat.mul_one, Nat.zero_add] at S
  refine st_y S rfl rfl rfl (y_load S (by kernel_rfl) rfl ((M.arg hv).icell (i := k) hq)) ?_; clear S a; intro a S
  refine st_callB (xs := [(Operand.tmp 15)]) (fi := fi) (ca := ca) S (hE) rfl rfl (rfl) rfl (hstep q _ M.below) ?_
  rintro _ w1 ⟨rfl, hK⟩; refine ⟨_, rfl, ?_⟩; clear S a; intro a S; replace M := M.grow hK
  refine nxC ?_
  refine st_split (t := 16) S rfl ?_ ?_
  · clear S; intro h16 S
    refine st_condT S rfl ?_
    refine nxD ?_
    refine st_go [1, 1] S rfl (by kernel_rfl) ?_; clear S a; intro a S
    refine nxC ?_
    refine wp_ret ?_
    refine block_ret ?_
    refine then_ret ?_
    refine then_ret ?_
    refine block_ret ?_
    refine then_ret ?_
    refine end_one S rfl (res_tmp rfl) ?_
    exact ⟨(k : Int), rfl, M.below, fun _ => List.any_eq_true.2 ⟨q, List.mem_of_getElem? hq, h16⟩, fun _ => Int.natCast_nonneg k⟩
  clear S; intro h16 S
  refine st_condF S rfl ?_
  refine wp_skip ?_
  refine block_normal ?_
  refine nxF ?_
  (first | refine st_y S rfl rfl rfl (y_addN S rfl rfl (by omega)) ?_ | refine st_y S rfl rfl rfl (y_int S rfl rfl rfl) ?_); clear S a; intro a S
  refine st_go [1] S rfl (by kernel_rfl) ?_; clear S a; intro a S
  refine nxC ?_
  refine ⟨xs.length - (k + 1), by omega, k + 1, by omega, rfl, S.sub _ rfl, M, fun i q' hi hq' => ?_⟩
  rcases Nat.lt_or_ge i k with h | h
  · exact hpre i q' h hq'
  · obtain rfl : i = k := by omega
    rw [hq] at hq'; obtain rfl := Option.some.inj hq'; exact h16
theorem containsFuncI_any {f : FuncId} {fi ca : List Value} (hE : Enters Try.prog f) (va : Option Addr) (vc : Nat) (xs : List Int) (p : Int → Bool) (w : World) (hv : Rd 0 w.heap.size w 1 (.slice va xs.length vc) xs.length (icells xs))
    (hstep : ∀ (z : Int) (w' : World), Below w.heap.size w w' → Calls Try.prog f (fi ++ ([Value.int .i64 z] ++ ca)).toArray w' (fun e w'' => e = .returned (.bool (p z)) ∧ Below w'.heap.size w' w'')) :
    Calls Try.prog 15 #[.slice va xs.length vc, .func (.func f) fi.toArray ca.toArray] w (fun e w' => e = .returned (.bool (xs.any p)) ∧ Below w.heap.size w w') := by
  have M := Mem.start w
  refine calls_enter Try.func15 rfl 9 rfl rfl ?_; intro a S
  refine nxD ?_
  refine st_go [1] S rfl (by kernel_rfl) ?_; clear S a; intro a S
  refine nxA ?_
  refine st_go [1, 1] S rfl (by kernel_rfl) ?_; clear S a; intro a S
  refine st_call (xs := [(Operand.tmp 5), (Operand.tmp 6)]) S (enters_of Try.func22 (by decide) rfl) rfl rfl rfl (indexFuncI_any hE va vc xs p _ (M.argW hv) (fun z w' hw => hstep z w' (M.below.trans (hw.mono M.below.size)))) ?_
  rintro _ w1 ⟨j, rfl, hK, hj⟩; refine ⟨_, rfl, ?_⟩; clear S a; intro a S; replace M := M.grow hK
  refine st_go [1, 1] S rfl (by kernel_rfl) ?_; clear S a; intro a S
  refine nxC ?_
  refine wp_ret ?_
  refine end_one S rfl (res_tmp rfl) ?_
  refine ⟨ret_bool ?_, M.below⟩; clear S M; rw [Bool.eq_iff_iff]; simp only [decide_eq_true_eq, ← hj]; first | done | omega | (simp; done)
def meetB (xs ys : List Int) : Bool := xs.any fun z => decide (z ∈ ys)
theorem meetB_iff {xs ys : List Int} : meetB xs ys = true ↔ ∃ k, k ∈ xs ∧ k ∈ ys := by
  unfold meetB; rw [List.any_eq_true]; simp
theorem meet_any (va vb : Option Addr) (vc vd : Nat) (xs ys : List Int) (w : World) (hv : Rd 0 w.heap.size w 1 (.slice va xs.length vc) xs.length (icells xs)) (hu : Rd 0 w.heap.size w 1 (.slice vb ys.length vd) ys.length (icells ys)) :
    Calls Try.prog 14 #[.slice va xs.length vc, .slice vb ys.length vd] w fun e w' => e = .returned (.bool (meetB xs ys)) ∧ Below w.heap.size w w' := by
  have M := Mem.start w
  refine calls_enter Try.func14 rfl 8 rfl rfl ?_; intro a S
  refine nxD ?_
  refine st_box S M rfl rfl rfl #[_] rfl ?_; clear S M a; intro a w1 bX S M hB
  refine st_go [1] S rfl (by kernel_rfl) ?_; clear S a; intro a S
  refine nxA ?_
  refine st_go [1] S rfl (by kernel_rfl) ?_; clear S a; intro a S
  refine st_y S rfl rfl rfl (y_makeFunc (fs := []) (cs := [(Operand.tmp 3)]) S rfl rfl) ?_; clear S a; intro a S
  refine st_call (xs := [(Operand.tmp 5), (Operand.tmp 6)]) S (enters_of Try.func15 (by decide) rfl) rfl rfl rfl (containsFuncI_any (fi := []) (ca := [.pointer (some ⟨bX, 0, none⟩)]) (enters_of Try.func16 (by decide) rfl) va vc xs (fun z => decide (z ∈ ys)) _ (M.argW hv) (fun z w' hb => clash11_any z bX vb vd ys w' ((hb.block bX (M.blk 0 rfl).lt).trans (M.blk 0 rfl)) ((M.argW hu).later hb))) ?_
  rintro _ w2 ⟨rfl, hK⟩; refine ⟨_, rfl, ?_⟩; clear S a; intro a S; replace M := M.grow hK
  refine st_go [1] S rfl (by kernel_rfl) ?_; clear S a; intro a S
  refine nxC ?_
  refine wp_ret ?_
  refine end_one S rfl (res_tmp rfl) ?_
  exact ⟨rfl, M.below⟩
/-- two transactions clash -/
def ClashP (p q : Qs) : Prop := ∃ k, (WrsP p k ∧ RdsP q k) ∨ (WrsP p k ∧ WrsP q k) ∨ (RdsP p k ∧ WrsP q k)
theorem clash_iff {p q : Qs} {rs ws rt wt : List Int} (h1 : ∀ k, k ∈ rs ↔ RdsP p k) (h2 : ∀ k, k ∈ ws ↔ WrsP p k) (h3 : ∀ k, k ∈ rt ↔ RdsP q k) (h4 : ∀ k, k ∈ wt ↔ WrsP q k) :
    ClashP p q ↔ meetB ws rt = true ∨ meetB ws wt = true ∨ meetB rs wt = true := by
  simp only [meetB_iff, h1, h2, h3, h4]
  constructor
  · rintro ⟨k, h | h | h⟩
    · exact .inl ⟨k, h⟩
    · exact .inr (.inl ⟨k, h⟩)
    · exact .inr (.inr ⟨k, h⟩)
  · rintro (⟨k, h⟩ | ⟨k, h⟩ | ⟨k, h⟩)
    · exact ⟨k, .inl h⟩
    · exact ⟨k, .inr (.inl h)⟩
    · exact ⟨k, .inr (.inr h)⟩
set_option maxHeartbeats 1000000 in
theorem clash_any (va vb : Option Addr) (vc vd : Nat) (l m : List Sn) (w : World) (hv : Ss 0 w.heap.size w (.slice va l.length vc) l) (hu : Ss 0 w.heap.size w (.slice vb m.length vd) m) (hl : l.length ≤ 1000) (hm : m.length ≤ 1000) :
    Calls Try.prog 9 #[.slice va l.length vc, .slice vb m.length vd] w fun e w' => ∃ b, e = .returned (.bool b) ∧ Below w.heap.size w w' ∧ (b = true ↔ ClashP (stepsP l l.length) (stepsP m m.length)) := by
  have M := Mem.start w
  refine calls_enter Try.func9 rfl 36 rfl rfl ?_; intro a S
  refine nxD ?_
  refine st_go [1] S rfl (by kernel_rfl) ?_; clear S a; intro a S
  refine nxA ?_
  refine st_go [1] S rfl (by kernel_rfl) ?_; clear S a; intro a S
  refine st_call (xs := [(Operand.tmp 11)]) S (enters_of Try.func13 (by decide) rfl) rfl rfl rfl (touched_any va vc l _ (M.argW hv) hl) ?_
  rintro _ w1 ⟨ra, rc, wa, wc, rs, ws, lo1, hi1, lo2, hi2, rfl, M1, hrs, hws, hrl, hwl⟩; refine ⟨_, rfl, ?_⟩; clear S a; intro a S; replace M := M.join M1; clear M1
  simp only [List.cons_append, List.nil_append] at M
  refine st_go [1, 1, 1, 1, 1] S rfl (by kernel_rfl) ?_; clear S a; intro a S
  refine nxA ?_
  refine st_go [1] S rfl (by kernel_rfl) ?_; clear S a; intro a S
  refine st_call (xs := [(Operand.tmp 16)]) S (enters_of Try.func13 (by decide) rfl) rfl rfl rfl (touched_any vb vd m _ (M.argW hu) hm) ?_
  rintro _ w2 ⟨rb, rd, wb, wd, rt, wt, lo3, hi3, lo4, hi4, rfl, M1, hrt, hwt, hrl2, hwl2⟩; refine ⟨_, rfl, ?_⟩; clear S a; intro a S; replace M := M.join M1; clear M1
  simp only [List.cons_append, List.nil_append] at M
  refine st_go [1, 1, 1, 1, 1] S rfl (by kernel_rfl) ?_; clear S a; intro a S
  refine nxA ?_
  refine st_go [1] S rfl (by kernel_rfl) ?_; clear S a; intro a S
  refine nxA ?_
  refine st_go [1, 1, 1] S rfl (by kernel_rfl) ?_; clear S a; intro a S
  refine st_callV (xs := [(Operand.tmp 21), (Operand.tmp 22)]) S (enters_of Try.func14 (by decide) rfl) rfl rfl rfl rfl (meet_any wa rb wc rd ws rt _ (M.readAll 3 rfl (by unfold maxLen; omega)) (M.readAll 0 rfl (by unfold maxLen; omega))) ?_
  rintro _ w3 ⟨rfl, hK⟩; refine ⟨_, rfl, ?_⟩; clear S a; intro a S; replace M := M.grow hK
  refine st_go [1] S rfl (by kernel_rfl) ?_; clear S a; intro a S
  refine st_split (t := 24) S rfl ?_ ?_
  · clear S; intro h24 S
    refine st_go [0, 0, 0, 0, 1, 1, 0, 0, 0, 0, 1, 1] S rfl (by kernel_rfl) ?_; clear S a; intro a S
    replace S := S.sub [(0, _), (1, _), (5, _), (6, _), (7, _), (8, _), (9, _), (4, _)] rfl
    refine nxC ?_
    refine wp_ret ?_
    refine end_one S rfl (res_tmp rfl) ?_
    refine ⟨_, rfl, M.below, ?_⟩; rw [clash_iff hrs hws hrt hwt]; clear S M; first | simp [h24, h30] | simp [h24]
  clear S; intro h24 S
  refine st_go [1, 1, 1] S rfl (by kernel_rfl) ?_; clear S a; intro a S
  refine st_callV (xs := [(Operand.tmp 26), (Operand.tmp 27)]) S (enters_of Try.func14 (by decide) rfl) rfl rfl rfl rfl (meet_any wa wb wc wd ws wt _ (M.readAll 3 rfl (by unfold maxLen; omega)) (M.readAll 1 rfl (by unfold maxLen; omega))) ?_
  rintro _ w4 ⟨rfl, hK⟩; refine ⟨_, rfl, ?_⟩; clear S a; intro a S; replace M := M.grow hK
  refine st_go [1, 1] S rfl (by kernel_rfl) ?_; clear S a; intro a S
  refine st_split (t := 30) S rfl ?_ ?_
  · clear S; intro h30 S
    refine st_go [0, 0, 0, 0, 1, 1] S rfl (by kernel_rfl) ?_; clear S a; intro a S
    replace S := S.sub [(0, _), (1, _), (5, _), (6, _), (7, _), (8, _), (9, _), (4, _)] rfl
    refine nxC ?_
    refine wp_ret ?_
    refine end_one S rfl (res_tmp rfl) ?_
    refine ⟨_, rfl, M.below, ?_⟩; rw [clash_iff hrs hws hrt hwt]; clear S M; first | simp [h24, h30] | simp [h24]
  clear S; intro h30 S
  refine st_go [1, 1, 1] S rfl (by kernel_rfl) ?_; clear S a; intro a S
  refine st_callV (xs := [(Operand.tmp 32), (Operand.tmp 33)]) S (enters_of Try.func14 (by decide) rfl) rfl rfl rfl rfl (meet_any ra wb rc wd rs wt _ (M.readAll 2 rfl (by unfold maxLen; omega)) (M.readAll 1 rfl (by unfold maxLen; omega))) ?_
  rintro _ w5 ⟨rfl, hK⟩; refine ⟨_, rfl, ?_⟩; clear S a; intro a S; replace M := M.grow hK
  refine st_go [1, 1] S rfl (by kernel_rfl) ?_; clear S a; intro a S
  replace S := S.sub [(0, _), (1, _), (5, _), (6, _), (7, _), (8, _), (9, _), (4, _)] rfl
  refine nxC ?_
  refine wp_ret ?_
  refine end_one S rfl (res_tmp rfl) ?_
  refine ⟨_, rfl, M.below, ?_⟩; rw [clash_iff hrs hws hrt hwt]; clear S M; first | simp [h24, h30] | simp [h24]

end Go.Proofs.Ytgngbdhdnnkncaa
