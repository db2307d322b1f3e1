/-
  The document's layer 15: a message's bytes.
-/
import Derived.Test.YtojgcgaoajfihaaWe
import Derived.Test.YtojgcgaoajfihaaFb
import Derived.Test.YtojgcgaoajfihaaSbw
import Derived.Test.YtojgcgaoajfihaaHp
namespace Go.Proofs.Ytojgcgaoajfihaa
open Go.RowKit Go.Sort

theorem fthree_any {wc w : World} {H : List Ent} {lo hi : Nat} {v : Value} {bs : List UInt8} (M : Mem wc w (byE lo hi v bs :: H)) (n : Int) (hb : bs.length ≤ 1000) :
    Calls Try.prog 37 #[v, .int .i64 n] w fun e w' => ∃ v' lo' hi', e = .returned v' ∧ Mem wc w' (byE lo' hi' v' (bs ++ leB n 3) :: H) := by
  refine calls_enter Try.func37 rfl 16 rfl rfl ?_; intro a S
  refine wp_seq ?_
  skip
  refine wp_region_lit ?_
  refine st_go [1] S rfl (by kernel_rfl) ?_; clear S a; intro a S
  refine nxA ?_
  refine st_go [1, 1] S rfl (by kernel_rfl) ?_; clear S a; intro a S
  refine st_y S rfl rfl rfl (y_to8 S rfl (by kernel_rfl) (by kernel_rfl)) ?_; clear S a; intro a S
  refine st_go [1] S rfl (by kernel_rfl) ?_; clear S a; intro a S
  (first | refine st_y S rfl rfl rfl (y_shrN S rfl rfl (by omega)) ?_ | refine st_y S rfl rfl rfl (y_shr S rfl rfl (by omega)) ?_); clear S a; intro a S
  refine st_y S rfl rfl rfl (y_to8 S rfl (by kernel_rfl) (by kernel_rfl)) ?_; clear S a; intro a S
  refine st_go [1] S rfl (by kernel_rfl) ?_; clear S a; intro a S
  (first | refine st_y S rfl rfl rfl (y_shrN S rfl rfl (by omega)) ?_ | refine st_y S rfl rfl rfl (y_shr S rfl rfl (by omega)) ?_); clear S a; intro a S
  refine st_y S rfl rfl rfl (y_to8 S rfl (by kernel_rfl) (by kernel_rfl)) ?_; clear S a; intro a S
  refine st_lit (ps := [(0, (Operand.tmp 7)), (1, (Operand.tmp 10)), (2, (Operand.tmp 13))]) (e := 5) (sz := 1) (zl := [.int .u8 0, .int .u8 0, .int .u8 0]) (cs := [_, _, _]) S M rfl rfl (by kernel_rfl) rfl (rfl) ?_; clear S M a; intro a w1 bZ S M hB
  refine st_append (e := 5) (sz := 1) (by_ := 1) (zc := [.int .u8 0]) S M 1 rfl rfl (by kernel_rfl) rfl (by decide) rfl rfl rfl (show Rd _ _ _ 1 _ 3 (bcells [byteOf n, byteOf (n / 2 ^ (8 : Int).toNat), byteOf (n / 2 ^ (16 : Int).toNat)]) from M.sliceAt 0 rfl (M.cellsAt (k := 3) 0 rfl rfl) rfl (Nat.le_refl _) (by unfold maxLen; omega)) (allOne_bcells _) (by omega) (by unfold maxLen; omega) ?_; clear S M a; intro a w2 vA loA hiA S M
  refine st_go [1] S rfl (by kernel_rfl) ?_; clear S a; intro a S
  refine nxC ?_
  refine wp_ret ?_
  refine end_one S rfl (res_tmp rfl) ?_
  replace M := M.rowC (ys := [byteOf n, byteOf (n / 2 ^ (8 : Int).toNat), byteOf (n / 2 ^ (16 : Int).toNat)]) rfl
  have e : [byteOf n, byteOf (n / 2 ^ (8 : Int).toNat), byteOf (n / 2 ^ (16 : Int).toNat)] = leB n 3 := by rw [leB3]; rfl
  rw [e] at M
  exact ⟨_, _, _, rfl, M.drop 1⟩
theorem fflag_any (b : Bool) (w : World) : Calls Try.prog 40 #[.bool b] w fun e w' => e = .returned (.int .u8 ((byteOf (if b then 1 else 0)).toNat : Int)) ∧ Below w.heap.size w w' := by
  have M := Mem.start w
  refine calls_enter Try.func40 rfl 4 rfl rfl ?_; intro a S
  refine nxD ?_
  refine st_go [1] S rfl (by kernel_rfl) ?_; clear S a; intro a S
  refine nxC ?_
  refine wp_seq ?_
  refine nxD ?_
  refine st_go [1] S rfl (by kernel_rfl) ?_; clear S a; intro a S
  refine nxC ?_
  refine st_split (t := 3) S rfl ?_ ?_
  · clear S; intro h3 S
    refine st_condT S rfl ?_
    refine nxD ?_
    refine st_go [1] S rfl (by kernel_rfl) ?_; clear S a; intro a S
    refine nxC ?_
    refine wp_ret ?_
    refine then_ret ?_
    refine end_one S rfl (res_tmp rfl) ?_
    rw [h3]; exact ⟨rfl, M.below⟩
  clear S; intro h3 S
  refine st_condF S rfl ?_
  refine wp_skip ?_
  refine nxE ?_
  refine st_go [1] S rfl (by kernel_rfl) ?_; clear S a; intro a S
  refine nxC ?_
  refine wp_ret ?_
  refine end_one S rfl (res_tmp rfl) ?_
  rw [h3]; exact ⟨rfl, M.below⟩
theorem v8_cell {v : V8} {j : Nat} {c : Value} (h : v.cellsL[j]? = some c) : (v.cellsL.toArray)[((j : Int)).toNat]? = some c := by
  rw [Int.toNat_natCast, List.getElem?_toArray]; exact h
theorem fvalue_any {wc w : World} {H : List Ent} {lo hi : Nat} {v : Value} {bs : List UInt8} (M : Mem wc w (byE lo hi v bs :: H)) (q : V8) (hb : bs.length ≤ 900) :
    Calls Try.prog 38 #[v, .agg q.cellsL.toArray] w fun e w' => ∃ v' lo' hi', e = .returned v' ∧ Mem wc w' (byE lo' hi' v' (bs ++ q.bs) :: H) := by
  refine calls_enter Try.func38 rfl 17 rfl rfl ?_; intro a S
  refine wp_seq ?_
  skip
  refine wp_region_lit ?_
  refine st_box S M rfl rfl rfl #[_, _, _, _, _, _, _, _] rfl ?_; clear S M a; intro a w1 bV S M hB
  refine st_go [1] S rfl (by kernel_rfl) ?_; clear S a; intro a S
  refine nxC ?_
  refine wp_seq ?_
  refine nxD ?_
  refine st_go [1] S rfl (by kernel_rfl) ?_; clear S a; intro a S
  refine nxC ?_
  refine wp_block ?_
  refine wp_loop_g (fun m a w' => ∃ (j : Nat) (t : Value) (lo hi : Nat), j ≤ 8 ∧ m = 8 - j ∧ Sees 17 a [(0, t), (3, .pointer (some ⟨bV, 0, none⟩)), (5, .int .i64 (j : Int))] ∧ Mem wc w' (byE lo hi t (bs ++ q.bs.take j) :: .blk bV q.cellsL.toArray 39 :: H)) (8) ?_ ?_
  · skip
    replace M := M.front 1 rfl
    simp only [List.eraseIdx_cons_succ, List.eraseIdx_cons_zero] at M
    exact ⟨0, _, _, _, by omega, rfl, S.sub _ rfl, by simpa [byE] using M⟩
  clear S M a; intro m a wl
  rintro ⟨j, t, lo, hi, hj, rfl, S, M⟩
  refine wp_seq ?_
  refine nxD ?_
  refine st_go [1, 1] S rfl (by kernel_rfl) ?_; clear S a; intro a S
  refine nxC ?_
  refine st_fi (t := 7) S rfl ?_ ?_
  · clear S; intro h7 S
    refine st_condF S rfl ?_
    refine wp_exit ?_
    refine then_exit ?_
    refine then_exit ?_
    refine block_hit ?_
    refine nxE ?_
    refine st_go [1, 1] S rfl (by kernel_rfl) ?_; clear S a; intro a S
    refine nxC ?_
    refine wp_ret ?_
    refine end_one S rfl (res_tmp rfl) ?_
    obtain rfl : j = 8 := by omega
    rw [show q.bs.take 8 = q.bs from rfl] at M
    exact ⟨_, _, _, rfl, M.drop 1⟩
  clear S; intro h7 S
  refine st_condT S rfl ?_
  refine wp_skip ?_
  refine then_normal ?_
  refine wp_seq ?_
  refine wp_block ?_
  obtain ⟨c, hc1, hc2⟩ := bs_take (v := q) (j := j) (by omega)
  have hlen2 : (bs ++ q.bs.take j).length ≤ 1000 := by simp only [List.length_append, List.length_take]; omega
  refine wp_region_lit ?_
  refine st_go [1, 1] S rfl (by kernel_rfl) ?_; clear S a; intro a S
  refine st_y S rfl rfl rfl (y_indexA (m := 8) (sz := 1) S (by kernel_rfl) rfl rfl (by first | omega | (simp; done) | (simp; omega))) ?_; clear S a; intro a S
  try simp only [Int.toNat_natCast, Nat.mul_one, Nat.zero_add] at S
  refine st_y S rfl rfl rfl (y_load S (by kernel_rfl) rfl (M.cell 1 rfl (v8_cell hc2))) ?_; clear S a; intro a S
  refine st_lit (ps := [(0, (Operand.tmp 13))]) (e := 5) (sz := 1) (zl := [.int .u8 0]) (cs := [_]) S M rfl rfl (by kernel_rfl) rfl (rfl) ?_; clear S M a; intro a w2 bX S M hB
  refine st_append (e := 5) (sz := 1) (by_ := 1) (zc := [.int .u8 0]) S M 1 rfl rfl (by kernel_rfl) rfl (by decide) rfl rfl rfl (show Rd _ _ _ 1 _ 1 (bcells [c]) from M.sliceAt 0 rfl (M.cellsAt (k := 1) 0 rfl rfl) rfl (Nat.le_refl _) (by unfold maxLen; omega)) (allOne_bcells _) (by omega) (by unfold maxLen; omega) ?_; clear S M a; intro a w3 vA loA hiA S M
  refine st_go [1] S rfl (by kernel_rfl) ?_; clear S a; intro a S
  refine wpList_nil ?_
  refine block_normal ?_
  refine nxF ?_
  refine st_go [1] S rfl (by kernel_rfl) ?_; clear S a; intro a S
  (first | refine st_y S rfl rfl rfl (y_addN S rfl rfl (by omega)) ?_ | refine st_y S rfl rfl rfl (y_int S rfl rfl rfl) ?_); clear S a; intro a S
  refine st_go [1] S rfl (by kernel_rfl) ?_; clear S a; intro a S
  refine nxC ?_
  replace M := M.rowC (ys := [c]) rfl
  refine ⟨8 - (j + 1), by omega, j + 1, vA, loA, hiA, by omega, rfl, S.sub _ rfl, ?_⟩
  obtain ⟨hlt, he⟩ := List.getElem?_eq_some_iff.1 hc1
  rw [List.take_succ_eq_append_getElem hlt, he, ← List.append_assoc]
  exact M.drop 1
def nmP2 (m : Msg) : List UInt8 := if m.kind = 1 ∨ m.kind = 11 then [] else nmB m.name
def RowM (w w' : World) (A : Nat) (c : Array Value) (t : Value) (bs : List UInt8) : Prop := ∃ lo hi, Mem w w' [byE lo hi t bs, .blk A c 42]
theorem rowM {w w' : World} {A : Nat} {c : Array Value} {t : Value} {bs bs' : List UInt8} {lo hi : Nat} {H : List Ent} (M : Mem w w' (byE lo hi t bs :: H)) (hH : [Ent.blk A c 42].Sublist H) (h : bs = bs') : RowM w w' A c t bs' := by
  subst h; exact ⟨lo, hi, M.sub (hH.cons_cons _)⟩
theorem V8.bs_len (v : V8) : v.bs.length = 8 := rfl
theorem leB2 (n : Int) : leB n 2 = [byteOf n, byteOf (n / 2 ^ (8 : Int).toNat)] := by
  rw [show (2 : Int) ^ (8 : Int).toNat = 256 from rfl]; simp [leB, List.range, List.range.loop]
theorem bodyP_flat (h : Nat → Bool) (m : Msg) (x : List Wr) : ∀ k, bodyP h m x k = ((List.range k).filter h).flatMap (fB m x)
  | 0 => rfl
  | k + 1 => by
    rw [bodyP, bodyP_flat h m x k, List.range_succ, List.filter_append, List.flatMap_append]
    cases hk : h k <;> simp [hk]
theorem encR {m : Msg} {x : List Wr} {K : Int} {L : List Nat} (h : m.kind = K) (h1 : K ≠ 1) (h2 : K ≠ 11) (hL : (List.range 10).filter (khas K) = 0 :: L) : m.enc x = hdB m ++ nmP2 m ++ L.flatMap (fB m x) := by
  unfold Msg.enc nmP2
  rw [bodyP_flat, h, hL, if_neg (by rintro (q | q) <;> contradiction), List.flatMap_cons, ← List.append_assoc]; rfl
theorem encR1 {m : Msg} {x : List Wr} (h : m.kind = 1 ∨ m.kind = 11) : m.enc x = hdB m ++ nmP2 m := by
  unfold Msg.enc nmP2
  rw [bodyP_flat, if_pos h]
  rcases h with h | h <;> rw [h]
  · rw [show (List.range 10).filter (khas 1) = [] by decide]; rfl
  · rw [show (List.range 10).filter (khas 11) = [] by decide]; rfl
theorem encR0 {m : Msg} {x : List Wr} (h : m.kind = 7 ∨ m.kind = 8 ∨ m.kind = 9) : hdB m ++ nmP2 m = m.enc x := by
  rcases h with h | h | h
  · rw [encR (K := 7) (L := []) h (by decide) (by decide) (by decide)]; simp
  · rw [encR (K := 8) (L := []) h (by decide) (by decide) (by decide)]; simp
  · rw [encR (K := 9) (L := []) h (by decide) (by decide) (by decide)]; simp
set_option maxHeartbeats 1000000 in
theorem fBytes_any (m : Msg) (va : Option Addr) (vc : Nat) (x : List Wr) (w : World) (hv : Ws 0 w.heap.size w (.slice va x.length vc) x) :
    Calls Try.prog 22 #[.agg (m.cells (.slice va x.length vc))] w (BytesPost m x w) := by
  have M := Mem.start w
  refine calls_enter Try.func22 rfl 128 rfl rfl ?_; intro a S
  refine nxD ?_
  refine st_box S M rfl rfl rfl #[_, _, _, _, _, _, _, _, _, _, _, _, _, _, _, _, _, _, _, _, _, _, _, _] rfl ?_; clear S M a; intro a w1 bA S M hB
  refine st_go [1, 1] S rfl (by kernel_rfl) ?_; clear S a; intro a S
  refine nxC ?_
  refine wp_seq ?_
  refine nxD ?_
  refine st_y S rfl rfl rfl (y_loadAgg (cs := [_, _, _, _, _, _, _, _, _, _, _, _, _, _, _, _, _, _, _, _, _, _, _, _]) S (by kernel_rfl) rfl rfl (M.cellsAt (k := 24) 0 rfl rfl)) ?_; clear S a; intro a S
  refine st_call (xs := [(Operand.tmp 5)]) S (enters_of Try.func36 (by decide) rfl) rfl rfl rfl (fMay_any m va _ vc x _ (M.argW hv)) ?_
  rintro _ w2 ⟨rfl, hK⟩; refine ⟨_, rfl, ?_⟩; clear S a; intro a S; replace M := M.grow hK
  refine st_go [1] S rfl (by kernel_rfl) ?_; clear S a; intro a S
  refine nxC ?_
  refine st_split (t := 7) S rfl ?_ ?_
  · clear S; intro h7 S
    refine st_condT S rfl ?_
    refine nxD ?_
    refine st_go [1, 1] S rfl (by kernel_rfl) ?_; clear S a; intro a S
    refine nxC ?_
    refine wp_ret ?_
    refine then_ret ?_
    refine end_two S rfl (res_tmp rfl) (res_tmp rfl) ?_
    have hm : m.may x = false := by simpa using h7
    exact ⟨_, by rw [hm]; rfl, by rw [ifL_neg (by rw [hm]; simp)]; exact M.freshNil _ _⟩
  clear S; intro h7 S
  refine st_condF S rfl ?_
  refine wp_skip ?_
  refine then_normal ?_
  refine wp_seq ?_
  have hm : m.may x = true := by simpa using h7
  have hk := may_kind hm
  have hx8 := may_x8 hm
  refine wp_region_lit ?_
  refine st_run [1, 1] S M rfl (by kernel_rfl) ?_; clear S a; intro a S
  refine st_y S rfl rfl rfl (y_to8 S rfl (by kernel_rfl) (by kernel_rfl)) ?_; clear S a; intro a S
  refine st_run [2, 1] S M rfl (by kernel_rfl) ?_; clear S a; intro a S
  refine st_y S rfl rfl rfl (y_to8 S rfl (by kernel_rfl) (by kernel_rfl)) ?_; clear S a; intro a S
  refine st_run [3, 1] S M rfl (by kernel_rfl) ?_; clear S a; intro a S
  refine st_y S rfl rfl rfl (y_to8 S rfl (by kernel_rfl) (by kernel_rfl)) ?_; clear S a; intro a S
  refine st_lit (ps := [(0, (Operand.tmp 10)), (1, (Operand.tmp 13)), (2, (Operand.tmp 16))]) (e := 5) (sz := 1) (zl := [.int .u8 0, .int .u8 0, .int .u8 0]) (cs := [_, _, _]) S M rfl rfl (by kernel_rfl) rfl (rfl) ?_; clear S M a; intro a w3 bR S M hB
  replace M := M.toRow (sz := 1) (m := 3) (cap := 3) (xs := bcells [byteOf m.kind, byteOf m.frm, byteOf m.to]) 0 rfl rfl (Nat.le_refl _) (by unfold maxLen; omega) rfl rfl
  rw [show [byteOf m.kind, byteOf m.frm, byteOf m.to] = leB m.kind 1 ++ (leB m.frm 1 ++ leB m.to 1) by rw [leB1, leB1, leB1]; rfl] at M
  replace M : Mem w _ (byE _ _ _ (leB m.kind 1 ++ (leB m.frm 1 ++ leB m.to 1)) :: _) := M
  refine st_y S rfl rfl rfl (y_assign S rfl) ?_; clear S a; intro a S
  refine nxA ?_
  refine st_run [1, 4, 2] S M rfl (by kernel_rfl) ?_; clear S a; intro a S
  refine st_call (xs := [(Operand.tmp 18), (Operand.tmp 20)]) S (enters_of Try.func37 (by decide) rfl) rfl rfl rfl (fthree_any M _ (by simp only [List.length_append, leB_length]; omega)) ?_
  rintro _ w4 ⟨v1, lo1, hi1, rfl, M1⟩; refine ⟨_, rfl, ?_⟩; clear S a; intro a S; replace M := M1; clear M1
  refine st_go [1] S rfl (by kernel_rfl) ?_; clear S a; intro a S
  replace S := S.sub [(0, _), (1, _), (2, _), (3, _), (7, _), (4, _)] rfl
  refine nxA ?_
  refine st_run [1, 5, 2] S M rfl (by kernel_rfl) ?_; clear S a; intro a S
  refine st_call (xs := [(Operand.tmp 22), (Operand.tmp 24)]) S (enters_of Try.func37 (by decide) rfl) rfl rfl rfl (fthree_any M _ (by simp only [List.length_append, leB_length]; omega)) ?_
  rintro _ w5 ⟨v1, lo1, hi1, rfl, M1⟩; refine ⟨_, rfl, ?_⟩; clear S a; intro a S; replace M := M1; clear M1
  refine st_go [1] S rfl (by kernel_rfl) ?_; clear S a; intro a S
  refine nxC ?_
  refine wp_cut (fun a w' => ∃ t, Sees 128 a [(1, .pointer (some ⟨bA, 0, none⟩)), (4, t)] ∧ RowM w w' bA (m.cells (.slice va x.length vc)) t (hdB m ++ nmP2 m)) ?_ ?_
  · skip
    refine nxD ?_
    refine st_run [1, 2, 1, 1] S M rfl (by kernel_rfl) ?_; clear S a; intro a S
    refine st_fi (t := 29) S rfl ?_ ?_
    · clear S; intro h29 S
      refine st_go [0, 0, 0, 1] S rfl (by kernel_rfl) ?_; clear S a; intro a S
      refine nxC ?_
      refine st_condF S rfl ?_
      refine wp_skip ?_
      refine then_normal ?_
      first
        | (exfalso; omega)
        | (refine ⟨_, S.sub _ rfl, rowM M (by simp) ?_⟩; unfold nmP2; rw [if_neg (by omega)]; simp only [hdB, nmB, List.append_assoc]; done)
        | (refine ⟨_, S.sub _ rfl, rowM M (by simp) ?_⟩; unfold nmP2; rw [if_pos (by omega)]; simp only [hdB, List.append_assoc, List.append_nil]; done)
    clear S; intro h29 S
    refine st_run [1, 2, 1, 1] S M rfl (by kernel_rfl) ?_; clear S a; intro a S
    refine nxC ?_
    refine st_fi (t := 33) S rfl ?_ ?_
    · clear S; intro h33 S
      refine st_condF S rfl ?_
      refine wp_skip ?_
      refine then_normal ?_
      first
        | (exfalso; omega)
        | (refine ⟨_, S.sub _ rfl, rowM M (by simp) ?_⟩; unfold nmP2; rw [if_neg (by omega)]; simp only [hdB, nmB, List.append_assoc]; done)
        | (refine ⟨_, S.sub _ rfl, rowM M (by simp) ?_⟩; unfold nmP2; rw [if_pos (by omega)]; simp only [hdB, List.append_assoc, List.append_nil]; done)
    clear S; intro h33 S
    refine st_condT S rfl ?_
    refine nxD ?_
    refine st_run [1, 6, 1, 2] S M rfl (by kernel_rfl) ?_; clear S a; intro a S
    refine st_call (xs := [(Operand.tmp 34), (Operand.tmp 37)]) S (enters_of Try.func37 (by decide) rfl) rfl rfl rfl (fthree_any M _ (by simp only [List.length_append, leB_length]; omega)) ?_
    rintro _ w6 ⟨v1, lo1, hi1, rfl, M1⟩; refine ⟨_, rfl, ?_⟩; clear S a; intro a S; replace M := M1; clear M1
    refine st_go [1] S rfl (by kernel_rfl) ?_; clear S a; intro a S
    replace S := S.sub [(0, _), (1, _), (2, _), (3, _), (7, _), (33, _), (4, _)] rfl
    refine nxA ?_
    refine st_run [1, 6, 2, 2] S M rfl (by kernel_rfl) ?_; clear S a; intro a S
    refine st_call (xs := [(Operand.tmp 39), (Operand.tmp 42)]) S (enters_of Try.func37 (by decide) rfl) rfl rfl rfl (fthree_any M _ (by simp only [List.length_append, leB_length]; omega)) ?_
    rintro _ w7 ⟨v1, lo1, hi1, rfl, M1⟩; refine ⟨_, rfl, ?_⟩; clear S a; intro a S; replace M := M1; clear M1
    refine st_go [1] S rfl (by kernel_rfl) ?_; clear S a; intro a S
    refine nxB ?_
    refine st_run [1, 6, 3, 2] S M rfl (by kernel_rfl) ?_; clear S a; intro a S
    refine st_call (xs := [(Operand.tmp 44), (Operand.tmp 47)]) S (enters_of Try.func37 (by decide) rfl) rfl rfl rfl (fthree_any M _ (by simp only [List.length_append, leB_length]; omega)) ?_
    rintro _ w8 ⟨v1, lo1, hi1, rfl, M1⟩; refine ⟨_, rfl, ?_⟩; clear S a; intro a S; replace M := M1; clear M1
    refine st_go [1] S rfl (by kernel_rfl) ?_; clear S a; intro a S
    refine nxC ?_
    first
      | (exfalso; omega)
      | (refine ⟨_, S.sub _ rfl, rowM M (by simp) ?_⟩; unfold nmP2; rw [if_neg (by omega)]; simp only [hdB, nmB, List.append_assoc]; done)
      | (refine ⟨_, S.sub _ rfl, rowM M (by simp) ?_⟩; unfold nmP2; rw [if_pos (by omega)]; simp only [hdB, List.append_assoc, List.append_nil]; done)
  clear S a M; intro a wc
  rintro ⟨t, S, lo, hi, M⟩
  have hlen0 : (hdB m).length + (nmP2 m).length ≤ 30 := by
    rw [hdB_len]; unfold nmP2 nmB; split <;> simp only [List.length_append, leB_length, List.length_nil] <;> omega
  refine wp_cut (fun a w' => ∃ t, Sees 128 a [(1, .pointer (some ⟨bA, 0, none⟩)), (4, t)] ∧ RowM w w' bA (m.cells (.slice va x.length vc)) t (m.enc x)) ?_ ?_
  · skip
    refine nxD ?_
    refine st_run [1, 2] S M rfl (by kernel_rfl) ?_; clear S a; intro a S
    refine nxC ?_
    refine wp_block ?_
    refine nxD ?_
    refine st_go [1, 1] S rfl (by kernel_rfl) ?_; clear S a; intro a S
    refine nxC ?_
    refine st_if (t := 51) S rfl ?_ ?_
    · clear S; intro h51 S
      refine st_condT S rfl ?_
      refine nxD ?_
      refine st_run [1, 9, 2] S M rfl (by kernel_rfl) ?_; clear S a; intro a S
      refine st_call (xs := [(Operand.tmp 53), (Operand.tmp 55)]) S (enters_of Try.func37 (by decide) rfl) rfl rfl rfl (fthree_any M _ (by simp only [List.length_append]; omega)) ?_
      rintro _ w9 ⟨v1, lo1, hi1, rfl, M1⟩; refine ⟨_, rfl, ?_⟩; clear S a; intro a S; replace M := M1; clear M1
      refine st_go [1] S rfl (by kernel_rfl) ?_; clear S a; intro a S
      refine nxA ?_
      refine st_run [1, 10, 2] S M rfl (by kernel_rfl) ?_; clear S a; intro a S
      refine st_y S rfl rfl rfl (y_to8 S rfl (by kernel_rfl) (by kernel_rfl)) ?_; clear S a; intro a S
      refine st_run [11, 2] S M rfl (by kernel_rfl) ?_; clear S a; intro a S
      refine st_y S rfl rfl rfl (y_to8 S rfl (by kernel_rfl) (by kernel_rfl)) ?_; clear S a; intro a S
      refine st_lit (ps := [(0, (Operand.tmp 60)), (1, (Operand.tmp 63))]) (e := 5) (sz := 1) (zl := [.int .u8 0, .int .u8 0]) (cs := [_, _]) S M rfl rfl (by kernel_rfl) rfl (rfl) ?_; clear S M a; intro a w10 bZ S M hB
      refine st_append (e := 5) (sz := 1) (by_ := 1) (zc := [.int .u8 0]) S M 1 rfl rfl (by kernel_rfl) rfl (by decide) rfl rfl rfl (show Rd _ _ _ 1 _ 2 (bcells [byteOf m.op, byteOf m.block]) from M.sliceAt 0 rfl (M.cellsAt (k := 2) 0 rfl rfl) rfl (Nat.le_refl _) (by unfold maxLen; omega)) (allOne_bcells _) (by (try simp only [List.length_append, leB_length, V8.bs_len] at *); omega) (by unfold maxLen; (try simp only [List.length_append, leB_length, V8.bs_len] at *); omega) ?_; clear S M a; intro a w11 vA loA hiA S M
      replace M := M.rowC (ys := [byteOf m.op, byteOf m.block]) rfl
      rw [show [byteOf m.op, byteOf m.block] = leB m.op 1 ++ leB m.block 1 by rw [leB1, leB1]; rfl] at M
      replace M := M.drop 1
      simp only [List.eraseIdx_cons_succ, List.eraseIdx_cons_zero] at M
      refine st_y S rfl rfl rfl (y_assign S rfl) ?_; clear S a; intro a S
      replace S := S.sub [(1, _), (50, _), (51, _), (4, _)] rfl
      refine nxB ?_
      refine st_go [1, 12] S rfl (by kernel_rfl) ?_; clear S a; intro a S
      refine st_y S rfl rfl rfl (y_loadAgg (cs := [_, _, _, _, _, _, _, _]) S (by kernel_rfl) rfl rfl (M.cellsAt (k := 8) 1 rfl rfl)) ?_; clear S a; intro a S
      refine st_call (xs := [(Operand.tmp 66), (Operand.tmp 68)]) S (enters_of Try.func38 (by decide) rfl) rfl rfl rfl (fvalue_any M m.val (by simp only [List.length_append, leB_length, V8.bs_len, List.length_cons, List.length_nil]; omega)) ?_
      rintro _ w12 ⟨v1, lo1, hi1, rfl, M1⟩; refine ⟨_, rfl, ?_⟩; clear S a; intro a S; replace M := M1; clear M1
      refine st_go [1] S rfl (by kernel_rfl) ?_; clear S a; intro a S
      refine wpList_nil ?_
      refine block_normal ?_
      refine then_normal ?_
      first
        | (exfalso; omega)
        | (refine ⟨_, S.sub _ rfl, rowM M (by simp) ?_⟩
           first
             | (rw [encR (K := 2) (L := [1, 2, 3, 4]) (by omega) (by decide) (by decide) (by decide)]; simp only [List.flatMap_cons, List.flatMap_nil, fB, List.append_nil, List.append_assoc]; done)
             | (rw [encR (K := 3) (L := [1, 4, 5]) (by omega) (by decide) (by decide) (by decide)]; simp only [List.flatMap_cons, List.flatMap_nil, fB, List.append_nil, List.append_assoc]; done)
             | (rw [encR (K := 4) (L := [7, 8, 9]) (by omega) (by decide) (by decide) (by decide)]; simp only [List.flatMap_cons, List.flatMap_nil, fB, List.append_nil, List.append_assoc]; done)
             | (rw [encR (K := 5) (L := [6]) (by omega) (by decide) (by decide) (by decide)]; simp only [List.flatMap_cons, List.flatMap_nil, fB, List.append_nil, List.append_assoc]; done)
             | (rw [encR (K := 6) (L := [6]) (by omega) (by decide) (by decide) (by decide)]; simp only [List.flatMap_cons, List.flatMap_nil, fB, List.append_nil, List.append_assoc]; done)
             | (rw [encR (K := 10) (L := [5]) (by omega) (by decide) (by decide) (by decide)]; simp only [List.flatMap_cons, List.flatMap_nil, fB, List.append_nil, List.append_assoc]; done)
             | (rcases (show (m.kind = 1 ∨ m.kind = 11) ∨ (m.kind = 7 ∨ m.kind = 8 ∨ m.kind = 9) by omega) with hq | hq
                · rw [encR1 hq]
                · exact encR0 hq))
    clear S; intro h51 S
    refine st_condF S rfl ?_
    refine nxD ?_
    refine st_go [1, 1] S rfl (by kernel_rfl) ?_; clear S a; intro a S
    refine nxC ?_
    refine st_if (t := 70) S rfl ?_ ?_
    · clear S; intro h70 S
      refine st_condT S rfl ?_
      refine nxD ?_
      refine st_run [1, 9, 2] S M rfl (by kernel_rfl) ?_; clear S a; intro a S
      refine st_call (xs := [(Operand.tmp 72), (Operand.tmp 74)]) S (enters_of Try.func37 (by decide) rfl) rfl rfl rfl (fthree_any M _ (by simp only [List.length_append, leB_length, V8.bs_len, List.length_cons, List.length_nil]; omega)) ?_
      rintro _ w13 ⟨v1, lo1, hi1, rfl, M1⟩; refine ⟨_, rfl, ?_⟩; clear S a; intro a S; replace M := M1; clear M1
      refine st_go [1] S rfl (by kernel_rfl) ?_; clear S a; intro a S
      refine nxA ?_
      refine st_go [1, 12] S rfl (by kernel_rfl) ?_; clear S a; intro a S
      refine st_y S rfl rfl rfl (y_loadAgg (cs := [_, _, _, _, _, _, _, _]) S (by kernel_rfl) rfl rfl (M.cellsAt (k := 8) 1 rfl rfl)) ?_; clear S a; intro a S
      refine st_call (xs := [(Operand.tmp 76), (Operand.tmp 78)]) S (enters_of Try.func38 (by decide) rfl) rfl rfl rfl (fvalue_any M m.val (by simp only [List.length_append, leB_length, V8.bs_len, List.length_cons, List.length_nil]; omega)) ?_
      rintro _ w14 ⟨v1, lo1, hi1, rfl, M1⟩; refine ⟨_, rfl, ?_⟩; clear S a; intro a S; replace M := M1; clear M1
      refine st_go [1] S rfl (by kernel_rfl) ?_; clear S a; intro a S
      refine nxB ?_
      refine st_run [1, 20, 2] S M rfl (by kernel_rfl) ?_; clear S a; intro a S
      refine st_y S rfl rfl rfl (y_to8 S rfl (by kernel_rfl) (by kernel_rfl)) ?_; clear S a; intro a S
      refine st_run [20, 2] S M rfl (by kernel_rfl) ?_; clear S a; intro a S
      (first | refine st_y S rfl rfl rfl (y_shrN S rfl rfl (by omega)) ?_ | refine st_y S rfl rfl rfl (y_shr S rfl rfl (by omega)) ?_); clear S a; intro a S
      refine st_y S rfl rfl rfl (y_to8 S rfl (by kernel_rfl) (by kernel_rfl)) ?_; clear S a; intro a S
      refine st_lit (ps := [(0, (Operand.tmp 83)), (1, (Operand.tmp 87))]) (e := 5) (sz := 1) (zl := [.int .u8 0, .int .u8 0]) (cs := [_, _]) S M rfl rfl (by kernel_rfl) rfl (rfl) ?_; clear S M a; intro a w15 bZ S M hB
      refine st_append (e := 5) (sz := 1) (by_ := 1) (zc := [.int .u8 0]) S M 1 rfl rfl (by kernel_rfl) rfl (by decide) rfl rfl rfl (show Rd _ _ _ 1 _ 2 (bcells [byteOf m.e, byteOf (m.e / 2 ^ (8 : Int).toNat)]) from M.sliceAt 0 rfl (M.cellsAt (k := 2) 0 rfl rfl) rfl (Nat.le_refl _) (by unfold maxLen; omega)) (allOne_bcells _) (by (try simp only [List.length_append, leB_length, V8.bs_len] at *); omega) (by unfold maxLen; (try simp only [List.length_append, leB_length, V8.bs_len] at *); omega) ?_; clear S M a; intro a w16 vA loA hiA S M
      replace M := M.rowC (ys := [byteOf m.e, byteOf (m.e / 2 ^ (8 : Int).toNat)]) rfl
      rw [show [byteOf m.e, byteOf (m.e / 2 ^ (8 : Int).toNat)] = leB m.e 2 by exact (leB2 _).symm] at M
      replace M := M.drop 1
      simp only [List.eraseIdx_cons_succ, List.eraseIdx_cons_zero] at M
      refine st_y S rfl rfl rfl (y_assign S rfl) ?_; clear S a; intro a S
      replace S := S.sub [(1, _), (50, _), (51, _), (70, _), (4, _)] rfl
      refine wpList_nil ?_
      refine block_normal ?_
      refine then_normal ?_
      first
        | (exfalso; omega)
        | (refine ⟨_, S.sub _ rfl, rowM M (by simp) ?_⟩
           first
             | (rw [encR (K := 2) (L := [1, 2, 3, 4]) (by omega) (by decide) (by decide) (by decide)]; simp only [List.flatMap_cons, List.flatMap_nil, fB, List.append_nil, List.append_assoc]; done)
             | (rw [encR (K := 3) (L := [1, 4, 5]) (by omega) (by decide) (by decide) (by decide)]; simp only [List.flatMap_cons, List.flatMap_nil, fB, List.append_nil, List.append_assoc]; done)
             | (rw [encR (K := 4) (L := [7, 8, 9]) (by omega) (by decide) (by decide) (by decide)]; simp only [List.flatMap_cons, List.flatMap_nil, fB, List.append_nil, List.append_assoc]; done)
             | (rw [encR (K := 5) (L := [6]) (by omega) (by decide) (by decide) (by decide)]; simp only [List.flatMap_cons, List.flatMap_nil, fB, List.append_nil, List.append_assoc]; done)
             | (rw [encR (K := 6) (L := [6]) (by omega) (by decide) (by decide) (by decide)]; simp only [List.flatMap_cons, List.flatMap_nil, fB, List.append_nil, List.append_assoc]; done)
             | (rw [encR (K := 10) (L := [5]) (by omega) (by decide) (by decide) (by decide)]; simp only [List.flatMap_cons, List.flatMap_nil, fB, List.append_nil, List.append_assoc]; done)
             | (rcases (show (m.kind = 1 ∨ m.kind = 11) ∨ (m.kind = 7 ∨ m.kind = 8 ∨ m.kind = 9) by omega) with hq | hq
                · rw [encR1 hq]
                · exact encR0 hq))
    clear S; intro h70 S
    refine st_condF S rfl ?_
    refine nxD ?_
    refine st_go [1, 1] S rfl (by kernel_rfl) ?_; clear S a; intro a S
    refine nxC ?_
    refine st_if (t := 90) S rfl ?_ ?_
    · clear S; intro h90 S
      refine st_condT S rfl ?_
      refine nxD ?_
      refine st_run [1, 22, 2] S M rfl (by kernel_rfl) ?_; clear S a; intro a S
      refine st_y S rfl rfl rfl (y_to8 S rfl (by kernel_rfl) (by kernel_rfl)) ?_; clear S a; intro a S
      refine st_run [23, 2] S M rfl (by kernel_rfl) ?_; clear S a; intro a S
      refine st_y S rfl rfl rfl (y_to8 S rfl (by kernel_rfl) (by kernel_rfl)) ?_; clear S a; intro a S
      refine st_lit (ps := [(0, (Operand.tmp 95)), (1, (Operand.tmp 98))]) (e := 5) (sz := 1) (zl := [.int .u8 0, .int .u8 0]) (cs := [_, _]) S M rfl rfl (by kernel_rfl) rfl (rfl) ?_; clear S M a; intro a w17 bZ S M hB
      refine st_append (e := 5) (sz := 1) (by_ := 1) (zc := [.int .u8 0]) S M 1 rfl rfl (by kernel_rfl) rfl (by decide) rfl rfl rfl (show Rd _ _ _ 1 _ 2 (bcells [byteOf m.give, byteOf m.take]) from M.sliceAt 0 rfl (M.cellsAt (k := 2) 0 rfl rfl) rfl (Nat.le_refl _) (by unfold maxLen; omega)) (allOne_bcells _) (by (try simp only [List.length_append, leB_length, V8.bs_len] at *); omega) (by unfold maxLen; (try simp only [List.length_append, leB_length, V8.bs_len] at *); omega) ?_; clear S M a; intro a w18 vA loA hiA S M
      replace M := M.rowC (ys := [byteOf m.give, byteOf m.take]) rfl
      rw [show [byteOf m.give, byteOf m.take] = leB m.give 1 ++ leB m.take 1 by rw [leB1, leB1]; rfl] at M
      replace M := M.drop 1
      simp only [List.eraseIdx_cons_succ, List.eraseIdx_cons_zero] at M
      refine st_y S rfl rfl rfl (y_assign S rfl) ?_; clear S a; intro a S
      replace S := S.sub [(1, _), (50, _), (51, _), (70, _), (90, _), (4, _)] rfl
      refine nxB ?_
      refine st_run [1, 24, 2] S M rfl (by kernel_rfl) ?_; clear S a; intro a S
      refine st_call (xs := [(Operand.tmp 101), (Operand.tmp 103)]) S (enters_of Try.func39 (by decide) rfl) rfl rfl rfl (rWrites_any M hv (by simp only [List.length_append, leB_length]; omega) hx8) ?_
      rintro _ w19 ⟨v1, lo1, hi1, rfl, M1⟩; refine ⟨_, rfl, ?_⟩; clear S a; intro a S; replace M := M1; clear M1
      refine st_go [1] S rfl (by kernel_rfl) ?_; clear S a; intro a S
      refine wpList_nil ?_
      refine block_normal ?_
      refine then_normal ?_
      first
        | (exfalso; omega)
        | (refine ⟨_, S.sub _ rfl, rowM M (by simp) ?_⟩
           first
             | (rw [encR (K := 2) (L := [1, 2, 3, 4]) (by omega) (by decide) (by decide) (by decide)]; simp only [List.flatMap_cons, List.flatMap_nil, fB, List.append_nil, List.append_assoc]; done)
             | (rw [encR (K := 3) (L := [1, 4, 5]) (by omega) (by decide) (by decide) (by decide)]; simp only [List.flatMap_cons, List.flatMap_nil, fB, List.append_nil, List.append_assoc]; done)
             | (rw [encR (K := 4) (L := [7, 8, 9]) (by omega) (by decide) (by decide) (by decide)]; simp only [List.flatMap_cons, List.flatMap_nil, fB, List.append_nil, List.append_assoc]; done)
             | (rw [encR (K := 5) (L := [6]) (by omega) (by decide) (by decide) (by decide)]; simp only [List.flatMap_cons, List.flatMap_nil, fB, List.append_nil, List.append_assoc]; done)
             | (rw [encR (K := 6) (L := [6]) (by omega) (by decide) (by decide) (by decide)]; simp only [List.flatMap_cons, List.flatMap_nil, fB, List.append_nil, List.append_assoc]; done)
             | (rw [encR (K := 10) (L := [5]) (by omega) (by decide) (by decide) (by decide)]; simp only [List.flatMap_cons, List.flatMap_nil, fB, List.append_nil, List.append_assoc]; done)
             | (rcases (show (m.kind = 1 ∨ m.kind = 11) ∨ (m.kind = 7 ∨ m.kind = 8 ∨ m.kind = 9) by omega) with hq | hq
                · rw [encR1 hq]
                · exact encR0 hq))
    clear S; intro h90 S
    refine st_condF S rfl ?_
    refine wp_seq ?_
    refine nxD ?_
    refine st_go [1, 1] S rfl (by kernel_rfl) ?_; clear S a; intro a S
    refine nxC ?_
    refine st_if (t := 105) S rfl ?_ ?_
    · clear S; intro h105 S
      refine st_condT S rfl ?_
      refine wp_skip ?_
      refine then_normal ?_
      refine st_condT S rfl ?_
      refine wp_region_lit ?_
      refine st_run [1, 21, 2] S M rfl (by kernel_rfl) ?_; clear S a; intro a S
      refine st_call (xs := [(Operand.tmp 110)]) S (enters_of Try.func40 (by decide) rfl) rfl rfl rfl (fflag_any _ _) ?_
      rintro _ w20 ⟨rfl, hK⟩; refine ⟨_, rfl, ?_⟩; clear S a; intro a S; replace M := M.grow hK
      refine st_lit (ps := [(0, (Operand.tmp 111))]) (e := 5) (sz := 1) (zl := [.int .u8 0]) (cs := [_]) S M rfl rfl (by kernel_rfl) rfl (rfl) ?_; clear S M a; intro a w21 bZ S M hB
      refine st_append (e := 5) (sz := 1) (by_ := 1) (zc := [.int .u8 0]) S M 1 rfl rfl (by kernel_rfl) rfl (by decide) rfl rfl rfl (show Rd _ _ _ 1 _ 1 (bcells [byteOf (if m.yes = true then 1 else 0)]) from M.sliceAt 0 rfl (M.cellsAt (k := 1) 0 rfl rfl) rfl (Nat.le_refl _) (by unfold maxLen; omega)) (allOne_bcells _) (by (try simp only [List.length_append, leB_length, V8.bs_len] at *); omega) (by unfold maxLen; (try simp only [List.length_append, leB_length, V8.bs_len] at *); omega) ?_; clear S M a; intro a w22 vA loA hiA S M
      replace M := M.rowC (ys := [byteOf (if m.yes = true then 1 else 0)]) rfl
      rw [show [byteOf (if m.yes = true then 1 else 0)] = leB (if m.yes = true then 1 else 0) 1 by rw [leB1]] at M
      replace M := M.drop 1
      simp only [List.eraseIdx_cons_succ, List.eraseIdx_cons_zero] at M
      refine st_y S rfl rfl rfl (y_assign S rfl) ?_; clear S a; intro a S
      refine wpList_nil ?_
      refine block_normal ?_
      refine then_normal ?_
      first
        | (exfalso; omega)
        | (refine ⟨_, S.sub _ rfl, rowM M (by simp) ?_⟩
           first
             | (rw [encR (K := 2) (L := [1, 2, 3, 4]) (by omega) (by decide) (by decide) (by decide)]; simp only [List.flatMap_cons, List.flatMap_nil, fB, List.append_nil, List.append_assoc]; done)
             | (rw [encR (K := 3) (L := [1, 4, 5]) (by omega) (by decide) (by decide) (by decide)]; simp only [List.flatMap_cons, List.flatMap_nil, fB, List.append_nil, List.append_assoc]; done)
             | (rw [encR (K := 4) (L := [7, 8, 9]) (by omega) (by decide) (by decide) (by decide)]; simp only [List.flatMap_cons, List.flatMap_nil, fB, List.append_nil, List.append_assoc]; done)
             | (rw [encR (K := 5) (L := [6]) (by omega) (by decide) (by decide) (by decide)]; simp only [List.flatMap_cons, List.flatMap_nil, fB, List.append_nil, List.append_assoc]; done)
             | (rw [encR (K := 6) (L := [6]) (by omega) (by decide) (by decide) (by decide)]; simp only [List.flatMap_cons, List.flatMap_nil, fB, List.append_nil, List.append_assoc]; done)
             | (rw [encR (K := 10) (L := [5]) (by omega) (by decide) (by decide) (by decide)]; simp only [List.flatMap_cons, List.flatMap_nil, fB, List.append_nil, List.append_assoc]; done)
             | (rcases (show (m.kind = 1 ∨ m.kind = 11) ∨ (m.kind = 7 ∨ m.kind = 8 ∨ m.kind = 9) by omega) with hq | hq
                · rw [encR1 hq]
                · exact encR0 hq))
    clear S; intro h105 S
    refine st_condF S rfl ?_
    refine wp_region_lit ?_
    refine st_go [1, 1] S rfl (by kernel_rfl) ?_; clear S a; intro a S
    refine nxC ?_
    refine st_if (t := 105) S rfl ?_ ?_
    · clear S; intro h105 S
      refine st_condT S rfl ?_
      refine wp_region_lit ?_
      refine st_run [1, 21, 2] S M rfl (by kernel_rfl) ?_; clear S a; intro a S
      refine st_call (xs := [(Operand.tmp 110)]) S (enters_of Try.func40 (by decide) rfl) rfl rfl rfl (fflag_any _ _) ?_
      rintro _ w23 ⟨rfl, hK⟩; refine ⟨_, rfl, ?_⟩; clear S a; intro a S; replace M := M.grow hK
      refine st_lit (ps := [(0, (Operand.tmp 111))]) (e := 5) (sz := 1) (zl := [.int .u8 0]) (cs := [_]) S M rfl rfl (by kernel_rfl) rfl (rfl) ?_; clear S M a; intro a w24 bZ S M hB
      refine st_append (e := 5) (sz := 1) (by_ := 1) (zc := [.int .u8 0]) S M 1 rfl rfl (by kernel_rfl) rfl (by decide) rfl rfl rfl (show Rd _ _ _ 1 _ 1 (bcells [byteOf (if m.yes = true then 1 else 0)]) from M.sliceAt 0 rfl (M.cellsAt (k := 1) 0 rfl rfl) rfl (Nat.le_refl _) (by unfold maxLen; omega)) (allOne_bcells _) (by (try simp only [List.length_append, leB_length, V8.bs_len] at *); omega) (by unfold maxLen; (try simp only [List.length_append, leB_length, V8.bs_len] at *); omega) ?_; clear S M a; intro a w25 vA loA hiA S M
      replace M := M.rowC (ys := [byteOf (if m.yes = true then 1 else 0)]) rfl
      rw [show [byteOf (if m.yes = true then 1 else 0)] = leB (if m.yes = true then 1 else 0) 1 by rw [leB1]] at M
      replace M := M.drop 1
      simp only [List.eraseIdx_cons_succ, List.eraseIdx_cons_zero] at M
      refine st_y S rfl rfl rfl (y_assign S rfl) ?_; clear S a; intro a S
      replace S := S.sub [(1, _), (50, _), (51, _), (70, _), (90, _), (105, _), (4, _)] rfl
      refine wpList_nil ?_
      refine block_normal ?_
      refine then_normal ?_
      first
        | (exfalso; omega)
        | (refine ⟨_, S.sub _ rfl, rowM M (by simp) ?_⟩
           first
             | (rw [encR (K := 2) (L := [1, 2, 3, 4]) (by omega) (by decide) (by decide) (by decide)]; simp only [List.flatMap_cons, List.flatMap_nil, fB, List.append_nil, List.append_assoc]; done)
             | (rw [encR (K := 3) (L := [1, 4, 5]) (by omega) (by decide) (by decide) (by decide)]; simp only [List.flatMap_cons, List.flatMap_nil, fB, List.append_nil, List.append_assoc]; done)
             | (rw [encR (K := 4) (L := [7, 8, 9]) (by omega) (by decide) (by decide) (by decide)]; simp only [List.flatMap_cons, List.flatMap_nil, fB, List.append_nil, List.append_assoc]; done)
             | (rw [encR (K := 5) (L := [6]) (by omega) (by decide) (by decide) (by decide)]; simp only [List.flatMap_cons, List.flatMap_nil, fB, List.append_nil, List.append_assoc]; done)
             | (rw [encR (K := 6) (L := [6]) (by omega) (by decide) (by decide) (by decide)]; simp only [List.flatMap_cons, List.flatMap_nil, fB, List.append_nil, List.append_assoc]; done)
             | (rw [encR (K := 10) (L := [5]) (by omega) (by decide) (by decide) (by decide)]; simp only [List.flatMap_cons, List.flatMap_nil, fB, List.append_nil, List.append_assoc]; done)
             | (rcases (show (m.kind = 1 ∨ m.kind = 11) ∨ (m.kind = 7 ∨ m.kind = 8 ∨ m.kind = 9) by omega) with hq | hq
                · rw [encR1 hq]
                · exact encR0 hq))
    clear S; intro h105 S
    refine st_condF S rfl ?_
    refine nxD ?_
    refine st_go [1, 1] S rfl (by kernel_rfl) ?_; clear S a; intro a S
    refine nxC ?_
    refine st_fi (t := 114) S rfl ?_ ?_
    · clear S; intro h114 S
      refine st_condF S rfl ?_
      refine wp_skip ?_
      refine block_normal ?_
      refine then_normal ?_
      first
        | (exfalso; omega)
        | (refine ⟨_, S.sub _ rfl, rowM M (by simp) ?_⟩
           first
             | (rw [encR (K := 2) (L := [1, 2, 3, 4]) (by omega) (by decide) (by decide) (by decide)]; simp only [List.flatMap_cons, List.flatMap_nil, fB, List.append_nil, List.append_assoc]; done)
             | (rw [encR (K := 3) (L := [1, 4, 5]) (by omega) (by decide) (by decide) (by decide)]; simp only [List.flatMap_cons, List.flatMap_nil, fB, List.append_nil, List.append_assoc]; done)
             | (rw [encR (K := 4) (L := [7, 8, 9]) (by omega) (by decide) (by decide) (by decide)]; simp only [List.flatMap_cons, List.flatMap_nil, fB, List.append_nil, List.append_assoc]; done)
             | (rw [encR (K := 5) (L := [6]) (by omega) (by decide) (by decide) (by decide)]; simp only [List.flatMap_cons, List.flatMap_nil, fB, List.append_nil, List.append_assoc]; done)
             | (rw [encR (K := 6) (L := [6]) (by omega) (by decide) (by decide) (by decide)]; simp only [List.flatMap_cons, List.flatMap_nil, fB, List.append_nil, List.append_assoc]; done)
             | (rw [encR (K := 10) (L := [5]) (by omega) (by decide) (by decide) (by decide)]; simp only [List.flatMap_cons, List.flatMap_nil, fB, List.append_nil, List.append_assoc]; done)
             | (rcases (show (m.kind = 1 ∨ m.kind = 11) ∨ (m.kind = 7 ∨ m.kind = 8 ∨ m.kind = 9) by omega) with hq | hq
                · rw [encR1 hq]
                · exact encR0 hq))
    clear S; intro h114 S
    refine st_condT S rfl ?_
    refine wp_region_lit ?_
    refine st_run [1, 20, 2] S M rfl (by kernel_rfl) ?_; clear S a; intro a S
    refine st_y S rfl rfl rfl (y_to8 S rfl (by kernel_rfl) (by kernel_rfl)) ?_; clear S a; intro a S
    refine st_run [20, 2] S M rfl (by kernel_rfl) ?_; clear S a; intro a S
    (first | refine st_y S rfl rfl rfl (y_shrN S rfl rfl (by omega)) ?_ | refine st_y S rfl rfl rfl (y_shr S rfl rfl (by omega)) ?_); clear S a; intro a S
    refine st_y S rfl rfl rfl (y_to8 S rfl (by kernel_rfl) (by kernel_rfl)) ?_; clear S a; intro a S
    refine st_lit (ps := [(0, (Operand.tmp 119)), (1, (Operand.tmp 123))]) (e := 5) (sz := 1) (zl := [.int .u8 0, .int .u8 0]) (cs := [_, _]) S M rfl rfl (by kernel_rfl) rfl (rfl) ?_; clear S M a; intro a w26 bZ S M hB
    refine st_append (e := 5) (sz := 1) (by_ := 1) (zc := [.int .u8 0]) S M 1 rfl rfl (by kernel_rfl) rfl (by decide) rfl rfl rfl (show Rd _ _ _ 1 _ 2 (bcells [byteOf m.e, byteOf (m.e / 2 ^ (8 : Int).toNat)]) from M.sliceAt 0 rfl (M.cellsAt (k := 2) 0 rfl rfl) rfl (Nat.le_refl _) (by unfold maxLen; omega)) (allOne_bcells _) (by (try simp only [List.length_append, leB_length, V8.bs_len] at *); omega) (by unfold maxLen; (try simp only [List.length_append, leB_length, V8.bs_len] at *); omega) ?_; clear S M a; intro a w27 vA loA hiA S M
    replace M := M.rowC (ys := [byteOf m.e, byteOf (m.e / 2 ^ (8 : Int).toNat)]) rfl
    rw [show [byteOf m.e, byteOf (m.e / 2 ^ (8 : Int).toNat)] = leB m.e 2 by exact (leB2 _).symm] at M
    replace M := M.drop 1
    simp only [List.eraseIdx_cons_succ, List.eraseIdx_cons_zero] at M
    refine st_y S rfl rfl rfl (y_assign S rfl) ?_; clear S a; intro a S
    replace S := S.sub [(1, _), (50, _), (51, _), (70, _), (90, _), (105, _), (114, _), (4, _)] rfl
    refine wpList_nil ?_
    refine block_normal ?_
    refine then_normal ?_
    first
      | (exfalso; omega)
      | (refine ⟨_, S.sub _ rfl, rowM M (by simp) ?_⟩
         first
           | (rw [encR (K := 2) (L := [1, 2, 3, 4]) (by omega) (by decide) (by decide) (by decide)]; simp only [List.flatMap_cons, List.flatMap_nil, fB, List.append_nil, List.append_assoc]; done)
           | (rw [encR (K := 3) (L := [1, 4, 5]) (by omega) (by decide) (by decide) (by decide)]; simp only [List.flatMap_cons, List.flatMap_nil, fB, List.append_nil, List.append_assoc]; done)
           | (rw [encR (K := 4) (L := [7, 8, 9]) (by omega) (by decide) (by decide) (by decide)]; simp only [List.flatMap_cons, List.flatMap_nil, fB, List.append_nil, List.append_assoc]; done)
           | (rw [encR (K := 5) (L := [6]) (by omega) (by decide) (by decide) (by decide)]; simp only [List.flatMap_cons, List.flatMap_nil, fB, List.append_nil, List.append_assoc]; done)
           | (rw [encR (K := 6) (L := [6]) (by omega) (by decide) (by decide) (by decide)]; simp only [List.flatMap_cons, List.flatMap_nil, fB, List.append_nil, List.append_assoc]; done)
           | (rw [encR (K := 10) (L := [5]) (by omega) (by decide) (by decide) (by decide)]; simp only [List.flatMap_cons, List.flatMap_nil, fB, List.append_nil, List.append_assoc]; done)
           | (rcases (show (m.kind = 1 ∨ m.kind = 11) ∨ (m.kind = 7 ∨ m.kind = 8 ∨ m.kind = 9) by omega) with hq | hq
              · rw [encR1 hq]
              · exact encR0 hq))
  clear S a M; intro a wc
  rintro ⟨t, S, lo, hi, M⟩
  have hlen9 : (m.enc x).length ≤ 90100 := encS_len (khas m.kind) m x (Nat.le_refl _) (by omega)
  refine nxD ?_
  refine st_go [1] S rfl (by kernel_rfl) ?_; clear S a; intro a S
  refine st_call (xs := [(Operand.tmp 126)]) S (enters_of Try.func41 (by decide) rfl) rfl rfl rfl (refSeal_any _ _ _ (M.readAll 0 rfl (by unfold maxLen; omega)) (by omega)) ?_
  rintro _ w28 ⟨v1, rfl, hF⟩; refine ⟨_, rfl, ?_⟩; clear S a; intro a S
  obtain ⟨lo1, hi1, -, M⟩ := M.pushFresh hF
  refine st_go [1, 1] S rfl (by kernel_rfl) ?_; clear S a; intro a S
  refine nxC ?_
  refine wp_ret ?_
  refine end_two S rfl (res_tmp rfl) (res_tmp rfl) ?_
  exact ⟨_, by rw [hm]; rfl, by rw [ifL_pos hm]; exact M.fresh 0 rfl⟩

end Go.Proofs.Ytojgcgaoajfihaa
