/-
  The document's layer 7: the bytes of writes.
-/
import Derived.Test.YtojgcgaoajfihaaSn
import Derived.Test.YtojgcgaoajfihaaRp
import Derived.Test.YtojgcgaoajfihaaGX
namespace Go.Proofs.Ytojgcgaoajfihaa
open Go.RowKit Go.Sort

/-- a row of bytes of one's own -/
abbrev byE (lo hi : Nat) (v : Value) (bs : List UInt8) : Ent := rowE lo hi 5 1 v bs.length (bcells bs)
theorem Fresh.eqB {w w' : World} {e : Nat} {v : Value} {l l' : List UInt8} (hF : Fresh w w' e 1 v l.length (bcells l)) (h : l' = l) : Fresh w w' e 1 v l'.length (bcells l') := by rw [h]; exact hF
theorem bs_take {v : V8} {j : Nat} (h : j < 8) : ∃ b : UInt8, v.bs[j]? = some b ∧ v.cellsL[j]? = some (.int .u8 (b.toNat : Int)) := by
  have : j = 0 ∨ j = 1 ∨ j = 2 ∨ j = 3 ∨ j = 4 ∨ j = 5 ∨ j = 6 ∨ j = 7 := by omega
  rcases this with rfl | rfl | rfl | rfl | rfl | rfl | rfl | rfl <;> exact ⟨_, rfl, rfl⟩
theorem wcells_byte {x : List Wr} {k j : Nat} {p : Wr} {b : UInt8} {lo hi : Nat} {w : World} {v : Value} (h : Ws lo hi w v x) (hp : x[k]? = some p) (hb : p.val.cellsL[j]? = some (.int .u8 (b.toNat : Int))) : w.cell? ⟨(adr v).block, (adr v).off + k * 9 + 1 + j, none⟩ = some (.int .u8 (b.toNat : Int)) := by
  have hj := (List.getElem?_eq_some_iff.1 hb).1
  have := (h.at_.row (i := k) (wcells_get hp) rfl) (j + 1) (by simp at hj ⊢; omega)
  rw [show (adr v).off + k * 9 + 1 + j = (adr v).off + k * 9 + (j + 1) by omega, this, List.getElem?_cons_succ]
  exact hb
theorem rWrites_any {wc w : World} {H : List Ent} {lo hi : Nat} {v u : Value} {bs : List UInt8} {x : List Wr} (M : Mem wc w (byE lo hi v bs :: H)) (hu : Ws 0 wc.heap.size wc u x) (hb : bs.length ≤ 900) (hx : x.length ≤ 8) :
    Calls Try.prog 39 #[v, u] w fun e w' => ∃ v' lo' hi', e = .returned v' ∧ Mem wc w' (byE lo' hi' v' (bs ++ wsB x) :: H) := by
  refine calls_enter Try.func39 rfl 43 rfl rfl ?_; intro a S
  refine wp_seq ?_
  skip
  refine wp_region_lit ?_
  refine st_go [1] S rfl (by kernel_rfl) ?_; clear S a; intro a S
  refine nxA ?_
  refine st_go [1, 1] S rfl (by kernel_rfl) ?_; clear S a; intro a S
  refine st_y S rfl rfl rfl (y_lenR (E := 72) S rfl (M.arg hu) (by kernel_rfl)) ?_; clear S a; intro a S
  refine st_y S rfl rfl rfl (y_to8 S rfl (by kernel_rfl) (by kernel_rfl)) ?_; clear S a; intro a S
  refine st_lit (ps := [(0, (Operand.tmp 10))]) (e := 5) (sz := 1) (zl := [.int .u8 0]) (cs := [_]) S M rfl rfl (by kernel_rfl) rfl (rfl) ?_; clear S M a; intro a w1 bZ S M hB
  refine st_append (e := 5) (sz := 1) (by_ := 1) (zc := [.int .u8 0]) S M 1 rfl rfl (by kernel_rfl) rfl (by decide) rfl rfl rfl (show Rd _ _ _ 1 _ 1 (bcells [byteOf (x.length : Int)]) from M.sliceAt 0 rfl (M.cellsAt (k := 1) 0 rfl rfl) rfl (Nat.le_refl _) (by unfold maxLen; omega)) (allOne_bcells _) (by omega) (by unfold maxLen; omega) ?_; clear S M a; intro a w2 vA loA hiA S M
  replace M := M.rowC (ys := [byteOf (x.length : Int)]) rfl
  refine st_y S rfl rfl rfl (y_assign S rfl) ?_; clear S a; intro a S
  refine nxC ?_
  refine wp_seq ?_
  refine nxD ?_
  refine st_go [1] S rfl (by kernel_rfl) ?_; clear S a; intro a S
  refine nxC ?_
  refine wp_block ?_
  refine wp_loop_g (fun m a w' => ∃ (k : Nat) (t : Value) (lo hi : Nat), k ≤ x.length ∧ m = x.length - k ∧ Sees 43 a [(0, t), (1, u), (5, .int .i64 (k : Int))] ∧ Mem wc w' (byE lo hi t (bs ++ (leB x.length 1 ++ wrsB (x.take k))) :: H)) (x.length) ?_ ?_
  · skip
    exact ⟨0, _, _, _, Nat.zero_le _, rfl, S.sub _ rfl, by rw [leB1]; have := M.drop 1; simpa [wrsB, byE] using this⟩
  clear S M a; intro m a wl
  rintro ⟨k, t, lo, hi, hk, rfl, S, M⟩
  refine wp_seq ?_
  refine nxD ?_
  refine st_go [1, 1] S rfl (by kernel_rfl) ?_; clear S a; intro a S
  refine st_y S rfl rfl rfl (y_lenR (E := 72) S rfl ((M.arg hu)) (by kernel_rfl)) ?_; clear S a; intro a S
  refine st_go [1] S rfl (by kernel_rfl) ?_; clear S a; intro a S
  refine nxC ?_
  refine st_fi (t := 16) S rfl ?_ ?_
  · clear S; intro h16 S
    refine st_condF S rfl ?_
    refine wp_exit ?_
    refine then_exit ?_
    refine then_exit ?_
    refine block_hit ?_
    refine nxE ?_
    refine st_go [1, 1] S rfl (by kernel_rfl) ?_; clear S a; intro a S
    refine nxC ?_
    refine wp_ret ?_
    refine end_one S rfl (res_tmp rfl) ?_
    obtain rfl : k = x.length := by omega
    rw [List.take_length] at M
    exact ⟨_, _, _, rfl, M⟩
  clear S; intro h16 S
  refine st_condT S rfl ?_
  refine wp_skip ?_
  refine then_normal ?_
  refine wp_seq ?_
  refine wp_block ?_
  refine wp_seq ?_
  obtain ⟨p, hp⟩ : ∃ p, x[k]? = some p := ⟨_, List.getElem?_eq_getElem (by omega)⟩
  have hlen : (bs ++ (leB x.length 1 ++ wrsB (x.take k))).length ≤ 1100 := by
    simp only [List.length_append, leB_length, wrsB_len, List.length_take]; omega
  generalize hB0 : bs ++ (leB x.length 1 ++ wrsB (x.take k)) = B0 at M hlen
  refine wp_region_lit ?_
  refine st_go [1, 1, 1] S rfl (by kernel_rfl) ?_; clear S a; intro a S
  refine st_y S rfl rfl rfl (y_indexR (e := 72) (sz := 9) S (by kernel_rfl) rfl ((M.arg hu)) rfl (by first | omega | (simp; done) | (simp; omega))) ?_; clear S a; intro a S
  try simp only [Int.toNat_natCast, Nat.mul_one, Nat.zero_add] at S
  refine st_go [1] S rfl (by kernel_rfl) ?_; clear S a; intro a S
  refine st_y S rfl rfl rfl (y_load S (by kernel_rfl) rfl (wcells_block (M.arg hu) hp)) ?_; clear S a; intro a S
  refine st_y S rfl rfl rfl (y_to8 S rfl (by kernel_rfl) (by kernel_rfl)) ?_; clear S a; intro a S
  refine st_lit (ps := [(0, (Operand.tmp 25))]) (e := 5) (sz := 1) (zl := [.int .u8 0]) (cs := [_]) S M rfl rfl (by kernel_rfl) rfl (rfl) ?_; clear S M a; intro a w3 bY S M hB
  refine st_append (e := 5) (sz := 1) (by_ := 1) (zc := [.int .u8 0]) S M 1 rfl rfl (by kernel_rfl) rfl (by decide) rfl rfl rfl (show Rd _ _ _ 1 _ 1 (bcells [byteOf p.block]) from M.sliceAt 0 rfl (M.cellsAt (k := 1) 0 rfl rfl) rfl (Nat.le_refl _) (by unfold maxLen; omega)) (allOne_bcells _) (by omega) (by unfold maxLen; omega) ?_; clear S M a; intro a w4 vA loA hiA S M
  replace M := M.rowC (ys := [byteOf p.block]) rfl
  refine st_y S rfl rfl rfl (y_assign S rfl) ?_; clear S a; intro a S
  refine nxA ?_
  refine st_go [1] S rfl (by kernel_rfl) ?_; clear S a; intro a S
  refine nxC ?_
  refine wp_block ?_
  refine wp_loop_g (fun m a w' => ∃ (j : Nat) (t : Value) (lo hi : Nat), j ≤ 8 ∧ m = 8 - j ∧ Sees 43 a [(0, t), (1, u), (5, .int .i64 (k : Int)), (6, .int .i64 (j : Int))] ∧ Mem wc w' (byE lo hi t (B0 ++ [byteOf p.block] ++ p.val.bs.take j) :: H)) (8) ?_ ?_
  · skip
    exact ⟨0, _, _, _, by omega, rfl, S.sub _ rfl, by have := M.drop 1; simpa [byE] using this⟩
  clear S M a; intro m a wl
  rintro ⟨j, t, lo, hi, hj, rfl, S, M⟩
  refine wp_seq ?_
  refine nxD ?_
  refine st_go [1, 1] S rfl (by kernel_rfl) ?_; clear S a; intro a S
  refine nxC ?_
  refine st_fi (t := 29) S rfl ?_ ?_
  · clear S; intro h29 S
    refine st_condF S rfl ?_
    refine wp_exit ?_
    refine then_exit ?_
    refine then_exit ?_
    refine block_hit ?_
    refine block_normal ?_
    refine nxF ?_
    refine st_go [1] S rfl (by kernel_rfl) ?_; clear S a; intro a S
    (first | refine st_y S rfl rfl rfl (y_addN S rfl rfl (by omega)) ?_ | refine st_y S rfl rfl rfl (y_int S rfl rfl rfl) ?_); clear S a; intro a S
    refine st_go [1] S rfl (by kernel_rfl) ?_; clear S a; intro a S
    refine nxC ?_
    obtain rfl : j = 8 := by omega
    refine ⟨x.length - (k + 1), by omega, k + 1, t, lo, hi, by omega, rfl, S.sub _ rfl, ?_⟩
    rw [wrsB_succ hp, ← List.append_assoc (leB _ _), ← List.append_assoc bs, hB0]
    rw [show p.val.bs.take 8 = p.val.bs from rfl] at M
    unfold wrB; rw [leB1, ← List.append_assoc]; exact M
  clear S; intro h29 S
  refine st_condT S rfl ?_
  refine wp_skip ?_
  refine then_normal ?_
  refine wp_seq ?_
  refine wp_block ?_
  obtain ⟨c, hc1, hc2⟩ := bs_take (v := p.val) (j := j) (by omega)
  have hlen2 : (B0 ++ [byteOf p.block] ++ p.val.bs.take j).length ≤ 1200 := by simp only [List.length_append, List.length_take, List.length_cons, List.length_nil]; omega
  refine wp_region_lit ?_
  refine st_go [1, 1, 1, 1] S rfl (by kernel_rfl) ?_; clear S a; intro a S
  refine st_y S rfl rfl rfl (y_indexR (e := 72) (sz := 9) S (by kernel_rfl) rfl ((M.arg hu)) rfl (by first | omega | (simp; done) | (simp; omega))) ?_; clear S a; intro a S
  try simp only [Int.toNat_natCast, Nat.mul_one, Nat.zero_add] at S
  refine st_go [2] S rfl (by kernel_rfl) ?_; clear S a; intro a S
  refine st_y S rfl rfl rfl (y_indexA (m := 8) (sz := 1) S (by kernel_rfl) rfl rfl (by first | omega | (simp; done) | (simp; omega))) ?_; clear S a; intro a S
  try simp only [Int.toNat_natCast, Nat.mul_one, Nat.zero_add] at S
  refine st_y S rfl rfl rfl (y_load S (by kernel_rfl) rfl (wcells_byte (M.arg hu) hp hc2)) ?_; clear S a; intro a S
  refine st_lit (ps := [(0, (Operand.tmp 39))]) (e := 5) (sz := 1) (zl := [.int .u8 0]) (cs := [_]) S M rfl rfl (by kernel_rfl) rfl (rfl) ?_; clear S M a; intro a w5 bX S M hB
  refine st_append (e := 5) (sz := 1) (by_ := 1) (zc := [.int .u8 0]) S M 1 rfl rfl (by kernel_rfl) rfl (by decide) rfl rfl rfl (show Rd _ _ _ 1 _ 1 (bcells [c]) from M.sliceAt 0 rfl (M.cellsAt (k := 1) 0 rfl rfl) rfl (Nat.le_refl _) (by unfold maxLen; omega)) (allOne_bcells _) (by omega) (by unfold maxLen; omega) ?_; clear S M a; intro a w6 vA loA hiA S M
  refine st_go [1] S rfl (by kernel_rfl) ?_; clear S a; intro a S
  refine wpList_nil ?_
  refine block_normal ?_
  refine nxF ?_
  refine st_go [1] S rfl (by kernel_rfl) ?_; clear S a; intro a S
  (first | refine st_y S rfl rfl rfl (y_addN S rfl rfl (by omega)) ?_ | refine st_y S rfl rfl rfl (y_int S rfl rfl rfl) ?_); clear S a; intro a S
  refine st_go [1] S rfl (by kernel_rfl) ?_; clear S a; intro a S
  replace S := S.sub [(1, _), (5, _), (29, _), (0, _), (6, _)] rfl
  refine nxC ?_
  replace M := M.rowC (ys := [c]) rfl
  refine ⟨8 - (j + 1), by omega, j + 1, vA, loA, hiA, by omega, rfl, S.sub _ rfl, ?_⟩
  obtain ⟨hlt, he⟩ := List.getElem?_eq_some_iff.1 hc1
  rw [List.take_succ_eq_append_getElem hlt, he, ← List.append_assoc]
  exact M.drop 1

end Go.Proofs.Ytojgcgaoajfihaa
