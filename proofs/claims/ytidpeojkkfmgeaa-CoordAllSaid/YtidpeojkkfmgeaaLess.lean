/-
  Package record: Less.
-/
import Derived.Test.YtidpeojkkfmgeaaRa
namespace Go.Proofs.Ytidpeojkkfmgeaa
open Go.RowKit Go.Sort

/-! ### names in their order -/
def Nm.less (a b : Nm) : Bool := decide (a.stamp < b.stamp ∨ (a.stamp = b.stamp ∧ (a.inc < b.inc ∨ (a.inc = b.inc ∧ a.try_ < b.try_))))
theorem isNaN_any (a : Int) (w : World) : Calls Try.prog 66 #[.int .i64 a] w fun e w' => e = .returned (.bool false) ∧ Below w.heap.size w w' := by
  have M := Mem.start w
  refine calls_enter Try.func66 rfl 6 rfl rfl ?_; intro a S
  refine nxD ?_
  refine st_go [1] S rfl (by kernel_rfl) ?_; clear S a; intro a S
  refine nxA ?_
  refine st_go [1, 1, 1, 1] S rfl (by kernel_rfl) ?_; clear S a; intro a S
  refine nxC ?_
  refine wp_ret ?_
  refine end_one S rfl (res_tmp rfl) ?_
  exact ⟨ret_bool (by simp), M.below⟩
def cmpZ (a b : Int) : Int := if a < b then -1 else if b < a then 1 else 0
theorem compare_any (a b : Int) (w : World) : Calls Try.prog 49 #[.int .i64 a, .int .i64 b] w fun e w' => e = .returned (.int .i64 (cmpZ a b)) ∧ Below w.heap.size w w' := by
  have M := Mem.start w
  have key : ∀ z, cmpZ a b = z → Ending.returned (.int .i64 z) = .returned (.int .i64 (cmpZ a b)) := fun z h => by rw [h]
  refine calls_enter Try.func49 rfl 20 rfl rfl ?_; intro a S
  refine nxD ?_
  refine st_go [1] S rfl (by kernel_rfl) ?_; clear S a; intro a S
  refine nxA ?_
  refine st_go [1] S rfl (by kernel_rfl) ?_; clear S a; intro a S
  refine st_call (xs := [(Operand.tmp 7)]) S (enters_of Try.func66 (by decide) rfl) rfl rfl rfl (isNaN_any _ _) ?_
  rintro _ w1 ⟨rfl, hK⟩; refine ⟨_, rfl, ?_⟩; clear S a; intro a S; replace M := M.grow hK
  refine st_go [1] S rfl (by kernel_rfl) ?_; clear S a; intro a S
  refine nxA ?_
  refine st_go [1] S rfl (by kernel_rfl) ?_; clear S a; intro a S
  refine st_call (xs := [(Operand.tmp 9)]) S (enters_of Try.func66 (by decide) rfl) rfl rfl rfl (isNaN_any _ _) ?_
  rintro _ w2 ⟨rfl, hK⟩; refine ⟨_, rfl, ?_⟩; clear S a; intro a S; replace M := M.grow hK
  refine st_go [1] S rfl (by kernel_rfl) ?_; clear S a; intro a S
  refine nxC ?_
  refine wp_seq ?_
  refine nxD ?_
  refine st_go [1] S rfl (by kernel_rfl) ?_; clear S a; intro a S
  refine nxC ?_
  refine st_if (t := 11) S rfl ?_ ?_
  · clear S; intro h11 S
    simp at h11
  clear S; intro h11 S
  refine st_condF S rfl ?_
  refine wp_skip ?_
  refine then_normal ?_
  refine wp_seq ?_
  refine nxD ?_
  refine st_go [1] S rfl (by kernel_rfl) ?_; clear S a; intro a S
  refine nxC ?_
  refine st_if (t := 13) S rfl ?_ ?_
  · clear S; intro h13 S
    simp at h13
  clear S; intro h13 S
  refine st_condF S rfl ?_
  refine wp_skip ?_
  refine then_normal ?_
  refine wp_seq ?_
  refine nxD ?_
  refine st_go [1, 1, 1] S rfl (by kernel_rfl) ?_; clear S a; intro a S
  refine nxC ?_
  refine st_if (t := 16) S rfl ?_ ?_
  · clear S; intro h16 S
    refine st_condT S rfl ?_
    refine nxD ?_
    refine st_go [1] S rfl (by kernel_rfl) ?_; clear S a; intro a S
    refine nxC ?_
    refine wp_ret ?_
    refine then_ret ?_
    refine end_one S rfl (res_tmp rfl) ?_
    refine ⟨key _ ?_, M.below⟩; unfold cmpZ; (repeat' split) <;> omega
  clear S; intro h16 S
  refine st_condF S rfl ?_
  refine wp_skip ?_
  refine then_normal ?_
  refine wp_seq ?_
  refine nxD ?_
  refine st_go [1, 1, 1] S rfl (by kernel_rfl) ?_; clear S a; intro a S
  refine nxC ?_
  refine st_if (t := 19) S rfl ?_ ?_
  · clear S; intro h19 S
    refine st_condT S rfl ?_
    refine nxD ?_
    refine st_go [1] S rfl (by kernel_rfl) ?_; clear S a; intro a S
    refine nxC ?_
    refine wp_ret ?_
    refine then_ret ?_
    refine end_one S rfl (res_tmp rfl) ?_
    refine ⟨key _ ?_, M.below⟩; unfold cmpZ; (repeat' split) <;> omega
  clear S; intro h19 S
  refine st_condF S rfl ?_
  refine wp_skip ?_
  refine nxE ?_
  refine st_go [1] S rfl (by kernel_rfl) ?_; clear S a; intro a S
  refine nxC ?_
  refine wp_ret ?_
  refine end_one S rfl (res_tmp rfl) ?_
  refine ⟨key _ ?_, M.below⟩; unfold cmpZ; (repeat' split) <;> omega
def icells (zs : List Int) : List Value := zs.map fun z => .int .i64 z
def orZ : List Int → Int
  | [] => 0
  | z :: r => if z = 0 then orZ r else z
theorem Rd.icell {lo hi i : Nat} {w : World} {v : Value} {zs : List Int} {z : Int} (h : Rd lo hi w 1 v zs.length (icells zs)) (hz : zs[i]? = some z) : w.cell? ⟨(adr v).block, (adr v).off + i, none⟩ = some (.int .i64 z) := by
  have hlt := (List.getElem?_eq_some_iff.1 hz).1
  rw [h.at_ i (by simpa [icells] using hlt)]; simp [icells, hz]
theorem or_any (v : Value) (zs : List Int) (w : World) (hv : Rd 0 w.heap.size w 1 v zs.length (icells zs)) : Calls Try.prog 48 #[v] w fun e w' => e = .returned (.int .i64 (orZ zs)) ∧ Below w.heap.size w w' := by
  have M := Mem.start w
  have hl := hv.2.1
  unfold maxLen at hl
  refine calls_enter Try.func48 rfl 18 rfl rfl ?_; intro a S
  refine nxD ?_
  refine st_go [1] S rfl (by kernel_rfl) ?_; clear S a; intro a S
  refine nxA ?_
  refine st_go [1] S rfl (by kernel_rfl) ?_; clear S a; intro a S
  refine nxC ?_
  refine wp_seq ?_
  refine nxD ?_
  refine st_go [1] S rfl (by kernel_rfl) ?_; clear S a; intro a S
  refine st_y S rfl rfl rfl (y_lenR (E := 3) S rfl (M.arg hv) (by kernel_rfl)) ?_; clear S a; intro a S
  refine st_go [1] S rfl (by kernel_rfl) ?_; clear S a; intro a S
  refine nxC ?_
  refine wp_block ?_
  refine wp_loop_g (fun m a w' => ∃ (k : Nat), k ≤ zs.length ∧ m = zs.length - k ∧ Sees 18 a [(3, .int .i64 0), (6, v), (7, .int .i64 (zs.length : Int)), (8, .int .i64 (k : Int))] ∧ Mem w w' [] ∧ orZ zs = orZ (zs.drop k)) (zs.length) ?_ ?_
  · skip
    exact ⟨0, Nat.zero_le _, rfl, S.sub _ rfl, M, rfl⟩
  clear S M a; intro m a wl
  rintro ⟨k, hk, rfl, S, M, hpre⟩
  refine nxD ?_
  refine st_go [1] S rfl (by kernel_rfl) ?_; clear S a; intro a S
  refine nxC ?_
  refine wp_seq ?_
  refine st_fi (t := 9) S rfl ?_ ?_
  · clear S; intro h9 S
    refine st_condF S rfl ?_
    refine wp_exit ?_
    refine then_exit ?_
    refine then_exit ?_
    refine block_hit ?_
    refine nxE ?_
    refine st_go [1, 1] S rfl (by kernel_rfl) ?_; clear S a; intro a S
    refine nxC ?_
    refine wp_ret ?_
    refine end_one S rfl (res_tmp rfl) ?_
    obtain rfl : k = zs.length := by omega
    refine ⟨?_, M.below⟩; rw [hpre, List.drop_length]; rfl
  clear S; intro h9 S
  refine st_condT S rfl ?_
  refine wp_skip ?_
  refine then_normal ?_
  refine wp_seq ?_
  refine wp_block ?_
  refine nxD ?_
  obtain ⟨z, hz⟩ : ∃ z, zs[k]? = some z := ⟨_, List.getElem?_eq_getElem (by omega)⟩
  rw [drop_get hz, orZ] at hpre
  refine st_y S rfl rfl rfl (y_indexR (e := 3) (sz := 1) S (by kernel_rfl) rfl ((M.arg hv)) rfl (by first | omega | (simp; done) | (simp; omega))) ?_; clear S a; intro a S
  try simp only [Int.toNat_natCast, Nat.mul_one, Nat.zero_add] at S
  refine st_y S rfl rfl rfl (y_load S (by kernel_rfl) rfl ((M.arg hv).icell hz)) ?_; clear S a; intro a S
  refine st_go [1] S rfl (by kernel_rfl) ?_; clear S a; intro a S
  refine nxA ?_
  refine st_go [1, 1, 1] S rfl (by kernel_rfl) ?_; clear S a; intro a S
  refine nxC ?_
  refine st_if (t := 14) S rfl ?_ ?_
  · clear S; intro h14 S
    refine st_condT S rfl ?_
    refine nxD ?_
    refine st_go [1, 1] S rfl (by kernel_rfl) ?_; clear S a; intro a S
    refine nxC ?_
    refine wp_ret ?_
    refine block_ret ?_
    refine then_ret ?_
    refine then_ret ?_
    refine block_ret ?_
    refine then_ret ?_
    refine end_one S rfl (res_tmp rfl) ?_
    refine ⟨?_, M.below⟩; rw [hpre, if_neg h14]
  clear S; intro h14 S
  refine st_condF S rfl ?_
  refine wp_skip ?_
  refine block_normal ?_
  refine nxF ?_
  (first | refine st_y S rfl rfl rfl (y_addN S rfl rfl (by omega)) ?_ | refine st_y S rfl rfl rfl (y_int S rfl rfl rfl) ?_); clear S a; intro a S
  refine st_go [1] S rfl (by kernel_rfl) ?_; clear S a; intro a S
  refine nxC ?_
  rw [if_pos h14] at hpre
  exact ⟨zs.length - (k + 1), by omega, k + 1, by omega, rfl, S.sub _ rfl, M, hpre⟩
theorem cmpZ_cases (a b : Int) : (cmpZ a b = -1 ∧ a < b) ∨ (cmpZ a b = 0 ∧ a = b) ∨ (cmpZ a b = 1 ∧ b < a) := by
  unfold cmpZ; (repeat' split) <;> omega
theorem less_or (p q : Nm) : decide (orZ [cmpZ p.stamp q.stamp, cmpZ p.inc q.inc, cmpZ p.try_ q.try_] < 0) = p.less q := by
  unfold Nm.less
  rw [Bool.eq_iff_iff]
  simp only [decide_eq_true_eq]
  rcases cmpZ_cases p.stamp q.stamp with ⟨e1, h1⟩ | ⟨e1, h1⟩ | ⟨e1, h1⟩ <;> rcases cmpZ_cases p.inc q.inc with ⟨e2, h2⟩ | ⟨e2, h2⟩ | ⟨e2, h2⟩ <;> rcases cmpZ_cases p.try_ q.try_ with ⟨e3, h3⟩ | ⟨e3, h3⟩ | ⟨e3, h3⟩ <;> rw [e1, e2, e3] <;> simp [orZ] <;> omega
theorem less_any (p q : Nm) (w : World) : Calls Try.prog 20 #[.agg p.cells, .agg q.cells] w fun e w' => e = .returned (.bool (p.less q)) ∧ Below w.heap.size w w' := by
  have M := Mem.start w
  refine calls_enter Try.func20 rfl 23 rfl rfl ?_; intro a S
  refine nxD ?_
  refine st_box S M rfl rfl rfl #[_, _, _] rfl ?_; clear S M a; intro a w1 b1 S M hB
  refine st_box S M rfl rfl rfl #[_, _, _] rfl ?_; clear S M a; intro a w2 b2 S M hB
  refine st_go [1] S rfl (by kernel_rfl) ?_; clear S a; intro a S
  refine nxC ?_
  refine wp_seq ?_
  refine wp_regionK [] #[false, false, false, false, false, false, false, false, false, false, false, false, false, false, false, false, false, false, false] rfl M (by kernel_rfl) ?_; clear M; intro w3 M
  refine k_pure (listed' := #[true, false, false, false, false, false, false, false, false, false, false, false, false, false, false, false, false, false, false]) 0 S rfl rfl rfl rfl (by kernel_rfl) rfl (fun _ d _ _ _ h => by cases d <;> exact h) (fun w => y_fieldAddr (k := 0) S (by kernel_rfl) rfl) ?_; clear S a; intro a S
  refine k_read (listed' := #[true, true, false, false, false, false, false, false, false, false, false, false, false, false, false, false, false, false, false]) 1 S rfl rfl rfl rfl (by kernel_rfl) rfl (fun _ d _ _ _ h => by cases d <;> exact h) (fun w hW => have M := M.grow hW; y_load S (by kernel_rfl) rfl (M.cell 1 rfl rfl)) ?_; clear S a; intro a S
  refine k_pure (listed' := #[true, true, true, false, false, false, false, false, false, false, false, false, false, false, false, false, false, false, false]) 2 S rfl rfl rfl rfl (by kernel_rfl) rfl (fun _ d _ _ _ h => by cases d <;> exact h) (fun w => y_fieldAddr (k := 0) S (by kernel_rfl) rfl) ?_; clear S a; intro a S
  refine k_read (listed' := #[true, true, true, true, false, false, false, false, false, false, false, false, false, false, false, false, false, false, false]) 3 S rfl rfl rfl rfl (by kernel_rfl) rfl (fun _ d _ _ _ h => by cases d <;> exact h) (fun w hW => have M := M.grow hW; y_load S (by kernel_rfl) rfl (M.cell 0 rfl rfl)) ?_; clear S a; intro a S
  refine k_pure (listed' := #[true, true, true, true, false, true, false, false, false, false, false, false, false, false, false, false, false, false, false]) 5 S rfl rfl rfl rfl (by kernel_rfl) rfl (fun _ d _ _ _ h => by cases d <;> exact h) (fun w => y_fieldAddr (k := 1) S (by kernel_rfl) rfl) ?_; clear S a; intro a S
  refine k_read (listed' := #[true, true, true, true, false, true, true, false, false, false, false, false, false, false, false, false, false, false, false]) 6 S rfl rfl rfl rfl (by kernel_rfl) rfl (fun _ d _ _ _ h => by cases d <;> exact h) (fun w hW => have M := M.grow hW; y_load S (by kernel_rfl) rfl (M.cell 1 rfl rfl)) ?_; clear S a; intro a S
  refine k_pure (listed' := #[true, true, true, true, false, true, true, true, false, false, false, false, false, false, false, false, false, false, false]) 7 S rfl rfl rfl rfl (by kernel_rfl) rfl (fun _ d _ _ _ h => by cases d <;> exact h) (fun w => y_fieldAddr (k := 1) S (by kernel_rfl) rfl) ?_; clear S a; intro a S
  refine k_read (listed' := #[true, true, true, true, false, true, true, true, true, false, false, false, false, false, false, false, false, false, false]) 8 S rfl rfl rfl rfl (by kernel_rfl) rfl (fun _ d _ _ _ h => by cases d <;> exact h) (fun w hW => have M := M.grow hW; y_load S (by kernel_rfl) rfl (M.cell 0 rfl rfl)) ?_; clear S a; intro a S
  refine k_pure (listed' := #[true, true, true, true, false, true, true, true, true, false, true, false, false, false, false, false, false, false, false]) 10 S rfl rfl rfl rfl (by kernel_rfl) rfl (fun _ d _ _ _ h => by cases d <;> exact h) (fun w => y_fieldAddr (k := 2) S (by kernel_rfl) rfl) ?_; clear S a; intro a S
  refine k_read (listed' := #[true, true, true, true, false, true, true, true, true, false, true, true, false, false, false, false, false, false, false]) 11 S rfl rfl rfl rfl (by kernel_rfl) rfl (fun _ d _ _ _ h => by cases d <;> exact h) (fun w hW => have M := M.grow hW; y_load S (by kernel_rfl) rfl (M.cell 1 rfl rfl)) ?_; clear S a; intro a S
  refine k_pure (listed' := #[true, true, true, true, false, true, true, true, true, false, true, true, true, false, false, false, false, false, false]) 12 S rfl rfl rfl rfl (by kernel_rfl) rfl (fun _ d _ _ _ h => by cases d <;> exact h) (fun w => y_fieldAddr (k := 2) S (by kernel_rfl) rfl) ?_; clear S a; intro a S
  refine k_read (listed' := #[true, true, true, true, false, true, true, true, true, false, true, true, true, true, false, false, false, false, false]) 13 S rfl rfl rfl rfl (by kernel_rfl) rfl (fun _ d _ _ _ h => by cases d <;> exact h) (fun w hW => have M := M.grow hW; y_load S (by kernel_rfl) rfl (M.cell 0 rfl rfl)) ?_; clear S a; intro a S
  refine k_one (listed' := #[true, true, true, true, true, true, true, true, true, false, true, true, true, true, false, false, false, false, false]) 4 rfl (by kernel_rfl) rfl ?_
  refine st_call (xs := [(Operand.tmp 6), (Operand.tmp 8)]) S (enters_of Try.func49 (by decide) rfl) rfl rfl rfl (compare_any _ _ _) ?_
  rintro _ w4 ⟨rfl, hK⟩; refine ⟨_, rfl, ?_⟩; clear S a; intro a S; replace M := M.grow hK
  refine wpList_nil ?_; refine then_normal ?_; refine ⟨fun _ => hK, ?_⟩
  refine k_one (listed' := #[true, true, true, true, true, true, true, true, true, true, true, true, true, true, false, false, false, false, false]) 9 rfl (by kernel_rfl) rfl ?_
  refine st_call (xs := [(Operand.tmp 11), (Operand.tmp 13)]) S (enters_of Try.func49 (by decide) rfl) rfl rfl rfl (compare_any _ _ _) ?_
  rintro _ w5 ⟨rfl, hK⟩; refine ⟨_, rfl, ?_⟩; clear S a; intro a S; replace M := M.grow hK
  refine wpList_nil ?_; refine then_normal ?_; refine ⟨fun _ => hK, ?_⟩
  refine k_one (listed' := #[true, true, true, true, true, true, true, true, true, true, true, true, true, true, true, false, false, false, false]) 14 rfl (by kernel_rfl) rfl ?_
  refine st_call (xs := [(Operand.tmp 16), (Operand.tmp 18)]) S (enters_of Try.func49 (by decide) rfl) rfl rfl rfl (compare_any _ _ _) ?_
  rintro _ w6 ⟨rfl, hK⟩; refine ⟨_, rfl, ?_⟩; clear S a; intro a S; replace M := M.grow hK
  refine wpList_nil ?_; refine then_normal ?_; refine ⟨fun _ => hK, ?_⟩
  refine k_one (listed' := #[true, true, true, true, true, true, true, true, true, true, true, true, true, true, true, true, false, false, false]) 15 rfl (by kernel_rfl) rfl ?_
  refine st_lit (ps := [(0, (Operand.tmp 9)), (1, (Operand.tmp 14)), (2, (Operand.tmp 19))]) (e := 3) (sz := 1) (zl := [.int .i64 0, .int .i64 0, .int .i64 0]) (cs := [_, _, _]) S M rfl rfl (by kernel_rfl) rfl (rfl) ?_; clear S M a; intro a w7 bZ S M hB
  refine wpList_nil ?_; refine then_normal ?_; refine ⟨fun _ => hB, ?_⟩
  refine k_one (listed' := #[true, true, true, true, true, true, true, true, true, true, true, true, true, true, true, true, true, false, false]) 16 rfl (by kernel_rfl) rfl ?_
  refine st_call (xs := [(Operand.tmp 20)]) S (enters_of Try.func48 (by decide) rfl) rfl rfl rfl (or_any _ [cmpZ p.stamp q.stamp, cmpZ p.inc q.inc, cmpZ p.try_ q.try_] _ (M.sliceAt 0 rfl (M.cellsAt (k := 3) 0 rfl rfl) rfl (Nat.le_refl _) (by unfold maxLen; omega))) ?_
  rintro _ w8 ⟨rfl, hK⟩; refine ⟨_, rfl, ?_⟩; clear S a; intro a S; replace M := M.grow hK
  refine wpList_nil ?_; refine then_normal ?_; refine ⟨fun _ => hK, ?_⟩
  refine k_pure (listed' := #[true, true, true, true, true, true, true, true, true, true, true, true, true, true, true, true, true, true, false]) 17 S rfl rfl rfl rfl (by kernel_rfl) rfl (fun _ d _ _ _ h => by cases d <;> exact h) (fun w => y_int S rfl rfl rfl) ?_; clear S a; intro a S
  refine k_pure (listed' := #[true, true, true, true, true, true, true, true, true, true, true, true, true, true, true, true, true, true, true]) 18 S rfl rfl rfl rfl (by kernel_rfl) rfl (fun _ d _ _ _ h => by cases d <;> exact h) (fun w => y_assign S rfl) ?_; clear S a; intro a S
  refine k_end (by kernel_rfl) ?_
  replace S := S.sub [(0, _), (1, _), (2, _), (3, _), (4, _)] rfl
  refine then_normal ?_
  refine wp_ret ?_
  refine end_one S rfl (res_tmp rfl) ?_
  exact ⟨ret_bool (less_or p q), M.below⟩

end Go.Proofs.Ytidpeojkkfmgeaa
