/-
  The document's layer 16: Check, Bytes, Read.
-/
import Derived.Test.YtojgcgaoajfihaaHd
import Derived.Test.YtojgcgaoajfihaaFc
import Derived.Test.YtojgcgaoajfihaaWq
namespace Go.Proofs.Ytojgcgaoajfihaa
open Go.RowKit Go.Sort

theorem y_and255 {P : Program} {n : Nat} {a : Act} {L : List (Nat × Value)} {w : World} {x y : Operand} {m : Nat} (S : Sees n a L) (hx : val L x = some (.int .i64 (m : Int))) (hy : val L y = some (.int .i64 255)) (h : m < 2 ^ 63) {d : Option Tmp} {xt yt t : TypeId} {p : String} {e : Array Edge} {g : Option (Nat × Bool)} :
    Yields P a ⟨d, .binOp .and xt x y yt, t, p, e, g⟩ w (.int .i64 ((m : Int) % 256)) := by
  refine y_int S hx hy ?_
  show some (Value.int .i64 (IntKind.i64.wrap (((BitVec.ofInt 64 (m : Int) &&& BitVec.ofInt 64 255 : BitVec 64).toNat : Nat) : Int))) = _
  have e1 : (BitVec.ofInt 64 (m : Int) &&& BitVec.ofInt 64 255 : BitVec 64).toNat = m % 256 := by
    rw [BitVec.toNat_and, BitVec.ofInt_natCast, BitVec.toNat_ofNat, Nat.mod_eq_of_lt (by omega)]
    exact Nat.and_two_pow_sub_one_eq_mod m 8
  rw [e1, IntWalk.i64_in _ (by omega)]
  simp
theorem fcheck16_any (va : Option Addr) (vc : Nat) (cs : List Value) (ms : Ml) (c : Int) (hc : (if ms.ok = true then (0 : Int) else 2) = c) (w : World) (hv : MsC cs 0 w.heap.size w (.slice va ms.length vc) ms) :
    Calls Try.prog 21 #[.agg #[.slice va ms.length vc]] w fun e w' => e = .returned (.int .i64 c) ∧ Below w.heap.size w w' := by
  have M := Mem.start w
  have hl := hv.1.2.1
  unfold maxLen at hl
  refine calls_enter Try.func21 rfl 22 rfl rfl ?_; intro a S
  refine nxD ?_
  refine st_box S M rfl rfl rfl #[_] rfl ?_; clear S M a; intro a w1 bF S M hB
  refine st_go [1] S rfl (by kernel_rfl) ?_; clear S a; intro a S
  refine nxC ?_
  refine wp_seq ?_
  refine nxD ?_
  refine st_run [1, 1] S M rfl (by kernel_rfl) ?_; clear S a; intro a S
  refine st_y S rfl rfl rfl (y_lenS (E := 42) S rfl (by kernel_rfl)) ?_; clear S a; intro a S
  refine st_go [1] S rfl (by kernel_rfl) ?_; clear S a; intro a S
  refine nxC ?_
  refine st_if (t := 7) S rfl ?_ ?_
  · clear S; intro h7 S
    refine st_condT S rfl ?_
    refine nxD ?_
    refine st_go [1] S rfl (by kernel_rfl) ?_; clear S a; intro a S
    refine nxC ?_
    refine wp_ret ?_
    refine then_ret ?_
    refine end_one S rfl (res_tmp rfl) ?_
    refine ⟨?_, M.below⟩
    rw [← hc, if_neg]
    intro h; have := (Ml.ok_iff.1 h).1; omega
  clear S; intro h7 S
  refine st_condF S rfl ?_
  refine wp_skip ?_
  refine then_normal ?_
  refine wp_seq ?_
  refine nxD ?_
  refine st_go [1] S rfl (by kernel_rfl) ?_; clear S a; intro a S
  refine nxC ?_
  refine wp_block ?_
  refine wp_loop_g (fun m a w' => ∃ (k : Nat), k ≤ ms.length ∧ m = ms.length - k ∧ Sees 22 a [(1, .pointer (some ⟨bF, 0, none⟩)), (3, .int .i64 (k : Int))] ∧ Mem w w' [.blk bF #[.slice va ms.length vc] 24] ∧ Ml.all (ms.take k) = true) (ms.length) ?_ ?_
  · skip
    exact ⟨0, Nat.zero_le _, rfl, S.sub _ rfl, M, rfl⟩
  clear S M a; intro m a wl
  rintro ⟨k, hk, rfl, S, M, hall⟩
  refine wp_seq ?_
  refine nxD ?_
  refine st_run [1, 1, 1] S M rfl (by kernel_rfl) ?_; clear S a; intro a S
  refine st_y S rfl rfl rfl (y_lenS (E := 42) S rfl (by kernel_rfl)) ?_; clear S a; intro a S
  refine st_go [1] S rfl (by kernel_rfl) ?_; clear S a; intro a S
  refine nxC ?_
  refine st_fi (t := 12) S rfl ?_ ?_
  · clear S; intro h12 S
    refine st_condF S rfl ?_
    refine wp_exit ?_
    refine then_exit ?_
    refine then_exit ?_
    refine block_hit ?_
    refine nxE ?_
    refine st_go [1] S rfl (by kernel_rfl) ?_; clear S a; intro a S
    refine nxC ?_
    refine wp_ret ?_
    refine end_one S rfl (res_tmp rfl) ?_
    obtain rfl : k = ms.length := by omega
    refine ⟨?_, M.below⟩
    rw [List.take_length] at hall
    rw [← hc, if_pos (Ml.ok_iff.2 ⟨by omega, hall⟩)]
  clear S; intro h12 S
  refine st_condT S rfl ?_
  refine wp_skip ?_
  refine then_normal ?_
  refine wp_seq ?_
  refine wp_block ?_
  refine nxD ?_
  obtain ⟨q, hq⟩ : ∃ q, ms[k]? = some q := ⟨_, List.getElem?_eq_getElem (by omega)⟩
  obtain ⟨ad, cp, hrow, hws⟩ := hv.sl hq
  refine st_y S rfl rfl rfl (y_fieldAddr (k := 0) S (by kernel_rfl) rfl) ?_; clear S a; intro a S
  refine st_run [1, 1] S M rfl (by kernel_rfl) ?_; clear S a; intro a S
  refine st_y S rfl rfl rfl (y_indexR (e := 42) (sz := 24) S (by kernel_rfl) rfl ((M.ms hv).1) rfl (by first | omega | (simp; done) | (simp; omega))) ?_; clear S a; intro a S
  try simp only [Int.toNat_natCast, Nat.mul_one, Nat.zero_add] at S
  refine st_y S rfl rfl rfl (y_loadAgg S (by kernel_rfl) rfl rfl ((M.ms hv).1.at_.row (i := k) hrow rfl)) ?_; clear S a; intro a S
  refine st_call (xs := [(Operand.tmp 19)]) S (enters_of Try.func36 (by decide) rfl) rfl rfl rfl (fMay_any q.1 ad q.2.length cp q.2 _ (M.argW hws)) ?_
  rintro _ w2 ⟨rfl, hK⟩; refine ⟨_, rfl, ?_⟩; clear S a; intro a S; replace M := M.grow hK
  refine st_go [1] S rfl (by kernel_rfl) ?_; clear S a; intro a S
  refine nxC ?_
  refine st_split (t := 21) S rfl ?_ ?_
  · clear S; intro h21 S
    refine st_condT S rfl ?_
    refine nxD ?_
    refine st_go [1] S rfl (by kernel_rfl) ?_; clear S a; intro a S
    refine nxC ?_
    refine wp_ret ?_
    refine block_ret ?_
    refine then_ret ?_
    refine then_ret ?_
    refine block_ret ?_
    refine then_ret ?_
    refine end_one S rfl (res_tmp rfl) ?_
    refine ⟨?_, M.below⟩
    rw [← hc, if_neg]
    intro h; have := Ml.all_get (Ml.ok_iff.1 h).2 hq; rw [this] at h21; cases h21
  clear S; intro h21 S
  refine st_condF S rfl ?_
  refine wp_skip ?_
  refine block_normal ?_
  refine nxF ?_
  refine st_go [1] S rfl (by kernel_rfl) ?_; clear S a; intro a S
  (first | refine st_y S rfl rfl rfl (y_addN S rfl rfl (by omega)) ?_ | refine st_y S rfl rfl rfl (y_int S rfl rfl rfl) ?_); clear S a; intro a S
  refine st_go [1] S rfl (by kernel_rfl) ?_; clear S a; intro a S
  refine nxC ?_
  refine ⟨ms.length - (k + 1), by omega, k + 1, by omega, rfl, S.sub _ rfl, M, ?_⟩
  rw [Ml.all_take hq hall]; simpa using h21
theorem fBytes_msB (q : Msg × List Wr) (va : Option Addr) (vc : Nat) (w : World) (hv : Ws 0 w.heap.size w (.slice va q.2.length vc) q.2) (hm : q.1.may q.2 = true) :
    Calls Try.prog 22 #[.agg (q.1.cells (.slice va q.2.length vc))] w fun e w' => ∃ v', e = .returned (.tuple #[v', .int .i64 0]) ∧ Fresh w w' 5 1 v' (msB q).length (bcells (msB q)) := by
  refine (fBytes_any q.1 va _ q.2 w hv).mono ?_
  rintro e w' ⟨v', rfl, hF⟩
  rw [if_pos hm]
  rw [ifL_pos hm] at hF
  exact ⟨v', rfl, hF⟩
theorem sh8 (n : Nat) : (n : Int) / 2 ^ (8 : Int).toNat = ((n / 256 : Nat) : Int) := by rw [show (2 : Int) ^ (8 : Int).toNat = 256 from rfl]; omega
set_option maxHeartbeats 1000000 in
theorem fbytes16_any (va : Option Addr) (vc : Nat) (cs : List Value) (ms : Ml) (w : World) (hv : MsC cs 0 w.heap.size w (.slice va ms.length vc) ms) : Calls Try.prog 8 #[.agg #[.slice va ms.length vc]] w (BytesF ms w) := by
  have M := Mem.start w
  obtain ⟨c, hc⟩ : ∃ c, (if ms.ok = true then (0 : Int) else 2) = c := ⟨_, rfl⟩
  have hc' := okC hc
  refine calls_enter Try.func8 rfl 45 rfl rfl ?_; intro a S
  refine nxD ?_
  refine st_box S M rfl rfl rfl #[_] rfl ?_; clear S M a; intro a w1 bF S M hB
  refine st_go [1, 1] S rfl (by kernel_rfl) ?_; clear S a; intro a S
  refine nxC ?_
  refine wp_seq ?_
  refine nxD ?_
  refine st_y S rfl rfl rfl (y_loadAgg (cs := [_]) S (by kernel_rfl) rfl rfl (M.cellsAt (k := 1) 0 rfl rfl)) ?_; clear S a; intro a S
  refine st_call (xs := [(Operand.tmp 8)]) S (enters_of Try.func21 (by decide) rfl) rfl rfl rfl (fcheck16_any va vc cs ms c hc _ (M.msW hv)) ?_
  rintro _ w2 ⟨rfl, hK⟩; refine ⟨_, rfl, ?_⟩; clear S a; intro a S; replace M := M.grow hK
  refine st_go [1] S rfl (by kernel_rfl) ?_; clear S a; intro a S
  refine nxC ?_
  refine st_if (t := 10) S rfl ?_ ?_
  · clear S; intro h10 S
    refine st_condT S rfl ?_
    refine nxD ?_
    refine st_go [1, 1] S rfl (by kernel_rfl) ?_; clear S a; intro a S
    refine nxC ?_
    refine wp_ret ?_
    refine then_ret ?_
    refine end_two S rfl (res_tmp rfl) (res_tmp rfl) ?_
    rcases hc' with ⟨h1, h2⟩ | ⟨h1, h2⟩
    · exact absurd h2 (by simpa using h10)
    · exact ⟨_, by rw [if_neg (by simp [h1])], by rw [ifL_neg (by simp [h1])]; exact M.freshNil _ _⟩
  clear S; intro h10 S
  refine st_condF S rfl ?_
  refine wp_skip ?_
  refine then_normal ?_
  refine wp_seq ?_
  have hok : ms.ok = true := by
    rcases hc' with ⟨h1, h2⟩ | ⟨h1, h2⟩
    · exact h1
    · exfalso; simp [h2] at h10
  obtain ⟨hlen, hall⟩ := Ml.ok_iff.1 hok
  refine wp_region_lit ?_
  refine st_go [1] S rfl (by kernel_rfl) ?_; clear S a; intro a S
  refine nxC ?_
  refine wp_seq ?_
  refine nxD ?_
  refine st_go [1] S rfl (by kernel_rfl) ?_; clear S a; intro a S
  refine nxC ?_
  refine wp_block ?_
  refine wp_loop_g (fun m a w' => ∃ (k : Nat), k ≤ ms.length ∧ m = ms.length - k ∧ ∃ u lo hi, Sees 45 a [(1, .pointer (some ⟨bF, 0, none⟩)), (4, u), (5, .int .i64 (k : Int))] ∧ Mem w w' [byE lo hi u (mlB (ms.take k)), .blk bF #[.slice va ms.length vc] 24]) (ms.length) ?_ ?_
  · skip
    replace M := M.rowNil 5 1
    exact ⟨0, Nat.zero_le _, rfl, _, _, _, S.sub _ rfl, M⟩
  clear S M a; intro m a wl
  rintro ⟨k, hk, rfl, u, lo, hi, S, M⟩
  have hbl := mlB_len (Ml.all_part hall k)
  rw [List.length_take, Nat.min_eq_left hk] at hbl
  refine wp_seq ?_
  refine nxD ?_
  refine st_run [1, 1, 2] S M rfl (by kernel_rfl) ?_; clear S a; intro a S
  refine st_y S rfl rfl rfl (y_lenS (E := 42) S rfl (by kernel_rfl)) ?_; clear S a; intro a S
  refine st_go [1] S rfl (by kernel_rfl) ?_; clear S a; intro a S
  refine nxC ?_
  refine st_fi (t := 15) S rfl ?_ ?_
  · clear S; intro h15 S
    refine st_condF S rfl ?_
    refine wp_exit ?_
    refine then_exit ?_
    refine then_exit ?_
    refine block_hit ?_
    refine nxE ?_
    refine st_go [1, 1, 1] S rfl (by kernel_rfl) ?_; clear S a; intro a S
    refine nxC ?_
    refine wp_ret ?_
    refine end_two S rfl (res_tmp rfl) (res_tmp rfl) ?_
    obtain rfl : k = ms.length := by omega
    rw [List.take_length] at M
    exact ⟨_, by rw [if_pos hok], by rw [ifL_pos hok]; exact M.fresh 0 rfl⟩
  clear S; intro h15 S
  refine st_condT S rfl ?_
  refine wp_skip ?_
  refine then_normal ?_
  refine wp_seq ?_
  refine wp_block ?_
  refine nxD ?_
  obtain ⟨q, hq⟩ : ∃ q, ms[k]? = some q := ⟨_, List.getElem?_eq_getElem (by omega)⟩
  obtain ⟨ad, cp, hrow, hws⟩ := hv.sl hq
  have hm := Ml.all_get hall hq
  have hql := msB_len hm
  refine st_y S rfl rfl rfl (y_fieldAddr (k := 0) S (by kernel_rfl) rfl) ?_; clear S a; intro a S
  refine st_run [2, 1] S M rfl (by kernel_rfl) ?_; clear S a; intro a S
  refine st_y S rfl rfl rfl (y_indexR (e := 42) (sz := 24) S (by kernel_rfl) rfl ((M.ms hv).1) rfl (by first | omega | (simp; done) | (simp; omega))) ?_; clear S a; intro a S
  try simp only [Int.toNat_natCast, Nat.mul_one, Nat.zero_add] at S
  refine st_y S rfl rfl rfl (y_loadAgg S (by kernel_rfl) rfl rfl ((M.ms hv).1.at_.row (i := k) hrow rfl)) ?_; clear S a; intro a S
  refine st_call (xs := [(Operand.tmp 23)]) S (enters_of Try.func22 (by decide) rfl) rfl rfl rfl (fBytes_msB q ad cp _ (M.argW hws) hm) ?_
  rintro _ w3 ⟨v1, rfl, hF⟩; refine ⟨_, rfl, ?_⟩; clear S a; intro a S
  obtain ⟨lo1, hi1, -, M⟩ := M.pushFresh hF
  refine st_go [1, 1, 1, 1, 1] S rfl (by kernel_rfl) ?_; clear S a; intro a S
  refine nxC ?_
  refine wp_seq ?_
  refine nxD ?_
  refine st_go [1, 1] S rfl (by kernel_rfl) ?_; clear S a; intro a S
  replace S := S.sub [(1, _), (4, _), (5, _), (15, _), (6, _), (7, _), (28, _)] rfl
  refine nxC ?_
  refine st_if (t := 28) S rfl ?_ ?_
  · clear S; intro h28 S
    simp at h28
  clear S; intro h28 S
  refine st_condF S rfl ?_
  refine wp_skip ?_
  refine nxE ?_
  refine st_go [1, 1] S rfl (by kernel_rfl) ?_; clear S a; intro a S
  refine st_y S rfl rfl rfl (y_lenR (E := 5) S rfl (M.readAll 0 rfl (by unfold maxLen; omega)) (by kernel_rfl)) ?_; clear S a; intro a S
  refine st_y S rfl rfl rfl (y_and255 S rfl rfl (by omega)) ?_; clear S a; intro a S
  refine st_y S rfl rfl rfl (y_to8 S rfl (by kernel_rfl) (by kernel_rfl)) ?_; clear S a; intro a S
  refine st_go [1] S rfl (by kernel_rfl) ?_; clear S a; intro a S
  refine st_y S rfl rfl rfl (y_lenR (E := 5) S rfl (M.readAll 0 rfl (by unfold maxLen; omega)) (by kernel_rfl)) ?_; clear S a; intro a S
  (first | refine st_y S rfl rfl rfl (y_shrN S rfl rfl (by omega)) ?_ | refine st_y S rfl rfl rfl (y_shr S rfl rfl (by omega)) ?_); clear S a; intro a S
  refine st_y S rfl rfl rfl (y_to8 S rfl (by kernel_rfl) (by kernel_rfl)) ?_; clear S a; intro a S
  refine st_lit (ps := [(0, (Operand.tmp 34)), (1, (Operand.tmp 38))]) (e := 5) (sz := 1) (zl := [.int .u8 0, .int .u8 0]) (cs := [_, _]) S M rfl rfl (by kernel_rfl) rfl (rfl) ?_; clear S M a; intro a w4 bZ S M hB
  refine st_append (e := 5) (sz := 1) (by_ := 1) (zc := [.int .u8 0]) S M 2 rfl rfl (by kernel_rfl) rfl (by decide) rfl rfl rfl (show Rd _ _ _ 1 _ 2 (bcells [byteOf (((msB q).length : Int) % 256), byteOf (((msB q).length : Int) / 2 ^ (8 : Int).toNat)]) from M.sliceAt 0 rfl (M.cellsAt (k := 2) 0 rfl rfl) rfl (Nat.le_refl _) (by unfold maxLen; omega)) (allOne_bcells _) (by (try simp only [List.length_append, leB_length] at *); omega) (by unfold maxLen; (try simp only [List.length_append, leB_length] at *); omega) ?_; clear S M a; intro a w5 vA loA hiA S M
  replace M := M.rowC (ys := [byteOf (((msB q).length : Int) % 256), byteOf (((msB q).length : Int) / 2 ^ (8 : Int).toNat)]) rfl
  rw [show [byteOf (((msB q).length : Int) % 256), byteOf (((msB q).length : Int) / 2 ^ (8 : Int).toNat)] = leB (msB q).length 2 by rw [leB2]; congr 1; unfold byteOf; rw [Int.emod_emod_of_dvd _ (by decide)]] at M
  refine st_y S rfl rfl rfl (y_assign S rfl) ?_; clear S a; intro a S
  refine nxB ?_
  refine st_go [1, 1] S rfl (by kernel_rfl) ?_; clear S a; intro a S
  refine st_append (e := 5) (sz := 1) (by_ := 1) (zc := [.int .u8 0]) S M 0 rfl rfl (by kernel_rfl) rfl (by decide) rfl rfl rfl (M.readAll 2 rfl (by unfold maxLen; omega)) (allOne_bcells _) (by (try simp only [List.length_append, leB_length] at *); omega) (by unfold maxLen; (try simp only [List.length_append, leB_length] at *); omega) ?_; clear S M a; intro a w6 vA loA hiA S M
  refine st_go [1] S rfl (by kernel_rfl) ?_; clear S a; intro a S
  replace S := S.sub [(1, _), (5, _), (15, _), (6, _), (7, _), (28, _), (4, _)] rfl
  refine wpList_nil ?_
  refine block_normal ?_
  refine nxF ?_
  refine st_go [1] S rfl (by kernel_rfl) ?_; clear S a; intro a S
  (first | refine st_y S rfl rfl rfl (y_addN S rfl rfl (by (try simp only [List.length_append, leB_length] at *); omega)) ?_ | refine st_y S rfl rfl rfl (y_int S rfl rfl rfl) ?_); clear S a; intro a S
  refine st_go [1] S rfl (by kernel_rfl) ?_; clear S a; intro a S
  refine nxC ?_
  replace M := M.drop 1
  simp only [List.eraseIdx_cons_succ, List.eraseIdx_cons_zero] at M
  replace M := M.drop 1
  simp only [List.eraseIdx_cons_succ, List.eraseIdx_cons_zero] at M
  refine ⟨ms.length - (k + 1), by omega, k + 1, by omega, rfl, _, loA, hiA, S.sub _ rfl, ?_⟩
  unfold byE
  rw [mlB_take hq, bcells_append, List.length_append (bs := msB q)]; exact M

theorem two_get {bs : List UInt8} {k : Nat} {a b : UInt8} (ha : bs[k]? = some a) (hb : bs[k + 1]? = some b) : (bs.drop k).take 2 = [a, b] := by
  obtain ⟨h1, e1⟩ := List.getElem?_eq_some_iff.1 ha
  obtain ⟨h2, e2⟩ := List.getElem?_eq_some_iff.1 hb
  rw [List.drop_eq_getElem_cons h1, List.drop_eq_getElem_cons h2, e1, e2]; rfl
theorem or2 (a b : UInt8) : a.toNat ||| b.toNat * 256 = leN [a, b] := by
  have := or_add (x := a.toNat) (y := b.toNat) (k := 8) (UInt8.toNat_lt a)
  rw [show (2 : Nat) ^ 8 = 256 from rfl] at this
  rw [this]; simp [leN]; omega
set_option maxHeartbeats 1000000 in
theorem freadF_any (v : Value) (bs : List UInt8) (w : World) (hv : Bs 0 w.heap.size w v bs) (hl : bs.length ≤ 70000000000000) : Calls Try.prog 10 #[v] w (ReadF bs w) := by
  have M := Mem.start w
  refine calls_enter Try.func10 rfl 70 rfl rfl ?_; intro a S
  refine nxD ?_
  refine st_alloc S M rfl rfl #[.slice none 0 0] (by kernel_rfl) ?_; clear S M a; intro a w1 bO S M hB
  refine st_go [1] S rfl (by kernel_rfl) ?_; clear S a; intro a S
  refine nxA ?_
  refine st_alloc S M rfl rfl #[.slice none 0 0] (by kernel_rfl) ?_; clear S M a; intro a w2 bF S M hB
  refine nxC ?_
  refine wp_seq ?_
  refine nxD ?_
  refine st_go [1] S rfl (by kernel_rfl) ?_; clear S a; intro a S
  refine nxC ?_
  refine wp_block ?_
  refine wp_loop_g (fun m a w' => ∃ (k : Nat) (l : Ml), k ≤ bs.length ∧ m = bs.length - k ∧ Sees 70 a [(0, v), (2, .pointer (some ⟨bO, 0, none⟩)), (4, .pointer (some ⟨bF, 0, none⟩)), (5, .int .i64 (k : Int))] ∧ l.all = true ∧ l.length ≤ 200 ∧ mlB l = bs.take k ∧ ∃ u lo hi cs es, Mem w w' (.blk bF #[u] 24 :: .blk bO #[.slice none 0 0] 24 :: rowE lo hi 42 24 u l.length cs :: es) ∧ MsBk cs l es) (bs.length) ?_ ?_
  · skip
    replace M := M.rowNil 42 24
    replace M := M.front 2 rfl
    simp only [List.eraseIdx_cons_succ, List.eraseIdx_cons_zero] at M
    replace M := M.front 2 rfl
    simp only [List.eraseIdx_cons_succ, List.eraseIdx_cons_zero] at M
    exact ⟨0, [], Nat.zero_le _, rfl, S.sub _ rfl, rfl, by simp, rfl, _, _, _, [], [], M, MsBk.nil⟩
  clear S M a; intro m a wl
  rintro ⟨k, l, hk, rfl, S, hall, hl2, hml, u, lo, hi, cs, es, M, hBk⟩
  obtain ⟨ua, uc, rfl, -, -⟩ := (M.readRow 2 rfl (by unfold maxLen; omega)).form
  refine wp_seq ?_
  refine nxD ?_
  refine st_go [1, 1] S rfl (by kernel_rfl) ?_; clear S a; intro a S
  refine st_y S rfl rfl rfl (y_lenR (E := 5) S rfl (M.arg hv) (by kernel_rfl)) ?_; clear S a; intro a S
  refine st_go [1] S rfl (by kernel_rfl) ?_; clear S a; intro a S
  refine nxC ?_
  refine st_fi (t := 12) S rfl ?_ ?_
  · clear S; intro h12 S
    refine st_condF S rfl ?_
    refine wp_exit ?_
    refine then_exit ?_
    refine then_exit ?_
    refine block_hit ?_
    refine nxE ?_
    refine st_y S rfl rfl rfl (y_loadAgg (cs := [_]) S (by kernel_rfl) rfl rfl (M.cellsAt (k := 1) 0 rfl rfl)) ?_; clear S a; intro a S
    refine st_store (sz := 1) (us := [_]) S M 1 rfl (by kernel_rfl) rfl rfl rfl rfl rfl rfl (by first | decide | (simp; done) | (simp; omega)) ?_; clear M; intro w14 M
    simp only [putL, List.set_cons_zero, List.set_cons_succ, Nat.reduceAdd] at M
    refine st_go [1] S rfl (by kernel_rfl) ?_; clear S a; intro a S
    refine nxC ?_
    refine wp_ret ?_
    refine end_two S rfl (res_agg (cs := [_]) (by kernel_rfl) rfl rfl (M.cellsAt (k := 1) 1 rfl rfl)) (res_tmp rfl) ?_
    obtain rfl : k = bs.length := by omega
    rw [List.take_length] at hml
    refine ⟨l, 0, ⟨ua, uc, cs, rfl, M.below, hBk.msC M (List.mem_of_getElem? (show _[2]? = _ from rfl)) (fun e he => by simp [he]) (by unfold maxLen; omega)⟩, .inl ⟨rfl, Ml.ok_iff.2 ⟨hl2, hall⟩, hml⟩⟩
  clear S; intro h12 S
  refine st_condT S rfl ?_
  refine wp_skip ?_
  refine then_normal ?_
  refine wp_block ?_
  refine wp_seq ?_
  refine wp_seq ?_
  have hk' : k < bs.length := by omega
  refine wp_region_lit ?_
  refine st_go [1] S rfl (by kernel_rfl) ?_; clear S a; intro a S
  refine st_y S rfl rfl rfl (y_lenR (E := 5) S rfl (M.arg hv) (by kernel_rfl)) ?_; clear S a; intro a S
  refine st_go [1] S rfl (by kernel_rfl) ?_; clear S a; intro a S
  (first | refine st_y S rfl rfl rfl (y_subN S rfl rfl (by omega)) ?_ | refine st_y S rfl rfl rfl (y_int S rfl rfl rfl) ?_); clear S a; intro a S
  refine st_go [1, 1] S rfl (by kernel_rfl) ?_; clear S a; intro a S
  refine st_if (t := 18) S rfl ?_ ?_
  · clear S; intro h18 S
    refine st_go [0, 0, 0, 0, 1] S rfl (by kernel_rfl) ?_; clear S a; intro a S
    refine nxC ?_
    refine st_condT S rfl ?_
    refine nxD ?_
    refine st_y S rfl rfl rfl (y_build (ps := []) (pl := [(0, 1)]) (z := [.slice none 0 0]) (cs := [_]) S (by kernel_rfl) rfl (rfl)) ?_; clear S a; intro a S
    refine st_store (sz := 1) (us := [_]) S M 1 rfl (by kernel_rfl) rfl rfl rfl rfl rfl rfl (by first | decide | (simp; done) | (simp; omega)) ?_; clear M; intro w3 M
    simp only [putL, List.set_cons_zero, List.set_cons_succ, Nat.reduceAdd] at M
    refine st_go [1] S rfl (by kernel_rfl) ?_; clear S a; intro a S
    replace S := S.sub [(0, _), (2, _), (4, _), (5, _), (12, _), (23, _), (3, _)] rfl
    refine nxC ?_
    refine wp_ret ?_
    refine then_ret ?_
    refine block_ret ?_
    refine then_ret ?_
    refine block_ret ?_
    refine then_ret ?_
    refine end_two S rfl (res_agg (cs := [_]) (by kernel_rfl) rfl rfl (M.cellsAt (k := 1) 1 rfl rfl)) (res_tmp rfl) ?_
    refine readF_no M hall hml hk' ?_
    first
      | (refine .inl fun q hq h1 h2 h3 => ?_; omega)
      | (refine .inr ?_; simp at h23; omega)
  clear S; intro h18 S
  refine st_run [1, 1] S M rfl (by kernel_rfl) ?_; clear S a; intro a S
  refine st_y S rfl rfl rfl (y_lenS (E := 42) S rfl (by kernel_rfl)) ?_; clear S a; intro a S
  refine st_go [1, 1] S rfl (by kernel_rfl) ?_; clear S a; intro a S
  refine nxC ?_
  refine st_split (t := 23) S rfl ?_ ?_
  · clear S; intro h23 S
    refine st_condT S rfl ?_
    refine nxD ?_
    refine st_y S rfl rfl rfl (y_build (ps := []) (pl := [(0, 1)]) (z := [.slice none 0 0]) (cs := [_]) S (by kernel_rfl) rfl (rfl)) ?_; clear S a; intro a S
    refine st_store (sz := 1) (us := [_]) S M 1 rfl (by kernel_rfl) rfl rfl rfl rfl rfl rfl (by first | decide | (simp; done) | (simp; omega)) ?_; clear M; intro w4 M
    simp only [putL, List.set_cons_zero, List.set_cons_succ, Nat.reduceAdd] at M
    refine st_go [1] S rfl (by kernel_rfl) ?_; clear S a; intro a S
    replace S := S.sub [(0, _), (2, _), (4, _), (5, _), (12, _), (23, _), (3, _)] rfl
    refine nxC ?_
    refine wp_ret ?_
    refine then_ret ?_
    refine block_ret ?_
    refine then_ret ?_
    refine block_ret ?_
    refine then_ret ?_
    refine end_two S rfl (res_agg (cs := [_]) (by kernel_rfl) rfl rfl (M.cellsAt (k := 1) 1 rfl rfl)) (res_tmp rfl) ?_
    refine readF_no M hall hml hk' ?_
    first
      | (refine .inl fun q hq h1 h2 h3 => ?_; omega)
      | (refine .inr ?_; simp at h23; omega)
  clear S; intro h23 S
  refine st_condF S rfl ?_
  refine wp_skip ?_
  refine then_normal ?_
  refine wp_seq ?_
  have hk2 : k + 2 ≤ bs.length := by omega
  have hl200 : l.length < 200 := by simp at h23; omega
  obtain ⟨x0, hx0⟩ : ∃ c, bs[k]? = some c := ⟨_, List.getElem?_eq_getElem (by omega)⟩
  obtain ⟨x1, hx1⟩ : ∃ c, bs[k + 1]? = some c := ⟨_, List.getElem?_eq_getElem (by omega)⟩
  have hb0 := UInt8.toNat_lt x0
  have hb1 := UInt8.toNat_lt x1
  have h2 := two_get hx0 hx1
  refine wp_quiet M (by kernel_rfl) (by kernel_rfl) ?_
  refine qt_y S rfl rfl rfl (fun w M => y_move S rfl) ?_; clear S a; intro a S
  refine qt_y S rfl rfl rfl (fun w M => y_move S rfl) ?_; clear S a; intro a S
  refine qt_y S rfl rfl rfl (fun w M => y_indexR (e := 5) (sz := 1) S (by kernel_rfl) rfl (M.arg hv) rfl (by first | omega | (simp; done) | (simp; omega))) ?_; clear S a; intro a S
  try simp only [Int.toNat_natCast, Nat.mul_one, Nat.zero_add] at S
  refine qt_y S rfl rfl rfl (fun w M => y_load S (by kernel_rfl) rfl ((M.arg hv).byte hx0)) ?_; clear S a; intro a S
  (first | refine qt_y S rfl rfl rfl (fun w M => y_to64 S rfl (by kernel_rfl) (by kernel_rfl) (by omega)) ?_ | refine qt_y S rfl rfl rfl (fun w M => y_conv (k' := .i64) S rfl (by kernel_rfl) (by kernel_rfl)) ?_); clear S a; intro a S
  refine qt_y S rfl rfl rfl (fun w M => y_move S rfl) ?_; clear S a; intro a S
  refine qt_y S rfl rfl rfl (fun w M => y_move S rfl) ?_; clear S a; intro a S
  (first | refine qt_y S rfl rfl rfl (fun w M => y_addN S rfl rfl (by omega)) ?_ | refine qt_y S rfl rfl rfl (fun w M => y_int S rfl rfl rfl) ?_); clear S a; intro a S
  refine qt_y S rfl rfl rfl (fun w M => y_indexR (e := 5) (sz := 1) S (by kernel_rfl) rfl (M.arg hv) rfl (by first | omega | (simp; done) | (simp; omega))) ?_; clear S a; intro a S
  try simp only [Int.toNat_natCast, Nat.mul_one, Nat.zero_add] at S
  rw [show ((k : Int) + 1).toNat = k + 1 by omega] at S
  refine qt_y S rfl rfl rfl (fun w M => y_load S (by kernel_rfl) rfl ((M.arg hv).byte hx1)) ?_; clear S a; intro a S
  (first | refine qt_y S rfl rfl rfl (fun w M => y_to64 S rfl (by kernel_rfl) (by kernel_rfl) (by omega)) ?_ | refine qt_y S rfl rfl rfl (fun w M => y_conv (k' := .i64) S rfl (by kernel_rfl) (by kernel_rfl)) ?_); clear S a; intro a S
  (first | refine qt_y S rfl rfl rfl (fun w M => y_shlN S rfl rfl (by omega) (by rw [show (2 : Int) ^ (8 : Int).toNat = 256 from rfl]; omega)) ?_ | refine qt_y S rfl rfl rfl (fun w M => y_shl S rfl rfl (by omega)) ?_); clear S a; intro a S
  rw [show (x1.toNat : Int) * 2 ^ (8 : Int).toNat = ((x1.toNat * 256 : Nat) : Int) by rw [show (2 : Int) ^ (8 : Int).toNat = 256 from rfl]; omega] at S
  (first | refine qt_y S rfl rfl rfl (fun w M => y_orN S rfl rfl (by omega) (by omega)) ?_ | refine qt_y S rfl rfl rfl (fun w M => y_int S rfl rfl rfl) ?_); clear S a; intro a S
  rw [or2, ← h2] at S
  refine qt_y S rfl rfl rfl (fun w M => y_assign S rfl) ?_; clear S a; intro a S
  refine wpQuiet_nil ?_; clear M; intro w5 M
  replace S := S.sub [(0, _), (2, _), (4, _), (5, _), (12, _), (23, _), (6, _)] rfl
  refine then_normal ?_
  refine wp_seq ?_
  obtain ⟨n, hn⟩ : ∃ n, leN ((bs.drop k).take 2) = n := ⟨_, rfl⟩
  rw [hn] at S
  have hn2 : n < 65536 := by
    have := leN_lt ((bs.drop k).take 2)
    rw [List.length_take, List.length_drop, Nat.min_eq_left (by omega), hn] at this; simpa using this
  have hnn : leB (n : Int) 2 = (bs.drop k).take 2 := by
    rw [← hn]; exact leB_leN2 (by rw [List.length_take, List.length_drop]; omega)
  have hNo : ∀ q : Msg × List Wr, q.1.may q.2 = true → (bs.drop k).take 2 = leB (msB q).length 2 → (msB q).length = n := fun q hq h => by
    rw [← hn, h]; exact (leN_leB2n (by have := msB_len hq; omega)).symm
  refine wp_region_lit ?_
  refine st_go [1] S rfl (by kernel_rfl) ?_; clear S a; intro a S
  (first | refine st_y S rfl rfl rfl (y_addN S rfl rfl (by omega)) ?_ | refine st_y S rfl rfl rfl (y_int S rfl rfl rfl) ?_); clear S a; intro a S
  refine st_go [1] S rfl (by kernel_rfl) ?_; clear S a; intro a S
  refine nxC ?_
  refine wp_seq ?_
  refine nxD ?_
  refine st_go [1] S rfl (by kernel_rfl) ?_; clear S a; intro a S
  refine st_y S rfl rfl rfl (y_lenR (E := 5) S rfl (M.arg hv) (by kernel_rfl)) ?_; clear S a; intro a S
  refine st_go [1] S rfl (by kernel_rfl) ?_; clear S a; intro a S
  (first | refine st_y S rfl rfl rfl (y_subN S rfl rfl (by omega)) ?_ | refine st_y S rfl rfl rfl (y_int S rfl rfl rfl) ?_); clear S a; intro a S
  refine st_go [1, 1] S rfl (by kernel_rfl) ?_; clear S a; intro a S
  refine nxC ?_
  refine st_if (t := 45) S rfl ?_ ?_
  · clear S; intro h45 S
    refine st_condT S rfl ?_
    refine nxD ?_
    refine st_y S rfl rfl rfl (y_build (ps := []) (pl := [(0, 1)]) (z := [.slice none 0 0]) (cs := [_]) S (by kernel_rfl) rfl (rfl)) ?_; clear S a; intro a S
    refine st_store (sz := 1) (us := [_]) S M 1 rfl (by kernel_rfl) rfl rfl rfl rfl rfl rfl (by first | decide | (simp; done) | (simp; omega)) ?_; clear M; intro w6 M
    simp only [putL, List.set_cons_zero, List.set_cons_succ, Nat.reduceAdd] at M
    refine st_go [1] S rfl (by kernel_rfl) ?_; clear S a; intro a S
    refine nxC ?_
    refine wp_ret ?_
    refine then_ret ?_
    refine block_ret ?_
    refine then_ret ?_
    refine block_ret ?_
    refine then_ret ?_
    refine end_two S rfl (res_agg (cs := [_]) (by kernel_rfl) rfl rfl (M.cellsAt (k := 1) 1 rfl rfl)) (res_tmp rfl) ?_
    refine readF_no M hall hml hk' (.inl fun q hq h1 h2 h3 => ?_)
    have := hNo q hq h2; omega
  clear S; intro h45 S
  refine st_condF S rfl ?_
  refine wp_skip ?_
  refine then_normal ?_
  refine wp_seq ?_
  have hfit : k + 2 + n ≤ bs.length := by omega
  have hcut : RdH w [] (cutV v (k + 2) (k + 2 + n) (capV v) 1) ((bs.drop (k + 2)).take n) := fun w' M => by
    have hb := M.argW hv
    have := hb.cutB (i := k + 2) (j := k + 2 + n) (mx := capV v) (by omega) hfit (by have := hb.cap; omega) (Nat.le_refl _)
    rwa [Nat.add_sub_cancel_left] at this
  refine wp_region_lit ?_
  refine st_go [1, 1, 1, 1] S rfl (by kernel_rfl) ?_; clear S a; intro a S
  (first | refine st_y S rfl rfl rfl (y_addN S rfl rfl (by omega)) ?_ | refine st_y S rfl rfl rfl (y_int S rfl rfl rfl) ?_); clear S a; intro a S
  refine st_y S rfl rfl rfl (y_slice2R (e := 5) (sz := 1) S (by kernel_rfl) rfl (M.arg hv) rfl rfl (by first | omega | (simp; done) | (simp; omega))) ?_; clear S a; intro a S
  simp only [show ((k : Int) + 2).toNat = k + 2 by omega, show ((k : Int) + 2 + (n : Int)).toNat = k + 2 + n by omega] at S
  refine st_call (xs := [(Operand.tmp 53)]) S (enters_of Try.func25 (by decide) rfl) rfl rfl rfl (readF_any _ _ _ (hcut _ (M.sub (by simp))) (by rw [List.length_take]; omega)) ?_
  rintro _ w7 hpost
  obtain ⟨q, ad, cp, c, rfl, hF, hx, hc⟩ := hpost.form
  refine ⟨_, rfl, ?_⟩; clear S a hpost; intro a S; have hK := hF.below
  obtain ⟨lo2, hi2, -, M⟩ := M.pushFresh hF
  refine st_go [1, 1, 1] S rfl (by kernel_rfl) ?_; clear S a; intro a S
  refine st_alloc S M rfl rfl #[.int .i8 0, .int .i64 0, .int .i64 0, .int .i64 0, .int .i64 0, .int .i64 0, .int .i64 0, .int .i64 0, .int .i64 0, .int .i8 0, .int .i64 0, .int .u8 0, .int .u8 0, .int .u8 0, .int .u8 0, .int .u8 0, .int .u8 0, .int .u8 0, .int .u8 0, .int .i64 0, .bool false, .int .i64 0, .int .i64 0, .slice none 0 0] (by kernel_rfl) ?_; clear S M a; intro a w8 bB S M hB
  refine st_store (sz := 24) (us := [_, _, _, _, _, _, _, _, _, _, _, _, _, _, _, _, _, _, _, _, _, _, _, _]) S M 0 rfl (by kernel_rfl) rfl rfl rfl rfl rfl rfl (by first | decide | (simp; done) | (simp; omega)) ?_; clear M; intro w9 M
  simp only [putL, List.set_cons_zero, List.set_cons_succ, Nat.reduceAdd] at M
  refine st_go [1] S rfl (by kernel_rfl) ?_; clear S a; intro a S
  replace S := S.sub [(0, _), (2, _), (4, _), (12, _), (23, _), (6, _), (5, _), (45, _), (7, _), (8, _)] rfl
  refine nxC ?_
  refine wp_seq ?_
  refine nxD ?_
  refine st_go [1, 1] S rfl (by kernel_rfl) ?_; clear S a; intro a S
  refine nxC ?_
  refine st_split (t := 58) S rfl ?_ ?_
  · clear S; intro h58 S
    refine st_condT S rfl ?_
    refine nxD ?_
    refine st_y S rfl rfl rfl (y_build (ps := []) (pl := [(0, 1)]) (z := [.slice none 0 0]) (cs := [_]) S (by kernel_rfl) rfl (rfl)) ?_; clear S a; intro a S
    refine st_store (sz := 1) (us := [_]) S M 3 rfl (by kernel_rfl) rfl rfl rfl rfl rfl rfl (by first | decide | (simp; done) | (simp; omega)) ?_; clear M; intro w10 M
    simp only [putL, List.set_cons_zero, List.set_cons_succ, Nat.reduceAdd] at M
    refine st_go [1] S rfl (by kernel_rfl) ?_; clear S a; intro a S
    refine nxC ?_
    refine wp_ret ?_
    refine then_ret ?_
    refine block_ret ?_
    refine then_ret ?_
    refine block_ret ?_
    refine then_ret ?_
    refine end_two S rfl (res_agg (cs := [_]) (by kernel_rfl) rfl rfl (M.cellsAt (k := 1) 3 rfl rfl)) (res_tmp rfl) ?_
    refine readF_no M hall hml hk' (.inl fun q hq h1 h2 h3 => ?_)
    have := hNo q hq h2
    rcases hc with ⟨h4, -⟩ | ⟨-, h4⟩
    · simp [h4] at h58
    · subst this; exact h4 q hq h3.symm
  clear S; intro h58 S
  refine st_condF S rfl ?_
  refine wp_skip ?_
  refine then_normal ?_
  refine wp_seq ?_
  have hc0 : c = 0 := by simpa using h58
  obtain ⟨hm, hq2⟩ : q.1.may q.2 = true ∧ msB q = (bs.drop (k + 2)).take n := by
    rcases hc with ⟨-, h⟩ | ⟨h4, -⟩
    · exact h
    · omega
  have hlen : (msB q).length = n := by rw [hq2, List.length_take, List.length_drop]; omega
  subst hlen
  have hq8 := may_x8 hm
  refine wp_region_lit ?_
  refine st_run [1, 3] S M rfl (by kernel_rfl) ?_; clear S a; intro a S
  refine st_y S rfl rfl rfl (y_loadAgg (cs := [_, _, _, _, _, _, _, _, _, _, _, _, _, _, _, _, _, _, _, _, _, _, _, _]) S (by kernel_rfl) rfl rfl (M.cellsAt (k := 24) 0 rfl rfl)) ?_; clear S a; intro a S
  refine st_lit (ps := [(0, (Operand.tmp 62))]) (e := 42) (sz := 24) (zl := [.int .i8 0, .int .i64 0, .int .i64 0, .int .i64 0, .int .i64 0, .int .i64 0, .int .i64 0, .int .i64 0, .int .i64 0, .int .i8 0, .int .i64 0, .int .u8 0, .int .u8 0, .int .u8 0, .int .u8 0, .int .u8 0, .int .u8 0, .int .u8 0, .int .u8 0, .int .i64 0, .bool false, .int .i64 0, .int .i64 0, .slice none 0 0]) (cs := (q.1.cells (.slice ad q.2.length cp)).toList) S M rfl rfl (by kernel_rfl) rfl (by kernel_rfl) ?_; clear S M a; intro a w11 bZ S M hB
  refine st_append (e := 42) (sz := 24) (by_ := 152) (zc := [.int .i8 0, .int .i64 0, .int .i64 0, .int .i64 0, .int .i64 0, .int .i64 0, .int .i64 0, .int .i64 0, .int .i64 0, .int .i8 0, .int .i64 0, .int .u8 0, .int .u8 0, .int .u8 0, .int .u8 0, .int .u8 0, .int .u8 0, .int .u8 0, .int .u8 0, .int .i64 0, .bool false, .int .i64 0, .int .i64 0, .slice none 0 0]) S M 5 rfl rfl (by kernel_rfl) rfl (by decide) rfl rfl rfl (show Rd _ _ _ 24 _ 1 (q.1.cells (.slice ad q.2.length cp)).toList from M.sliceAt 0 rfl (M.cellsAt (k := 24) 0 rfl rfl) rfl (Nat.le_refl _) (by unfold maxLen; omega)) (rfl) (by omega) (by unfold maxLen; omega) ?_; clear S M a; intro a w12 vA loA hiA S M
  obtain ⟨aA, cA, rfl, -, -⟩ := (M.readAll 0 rfl (by unfold maxLen; omega)).form
  refine st_y S rfl rfl rfl (y_fieldAddr (k := 0) S (by kernel_rfl) rfl) ?_; clear S a; intro a S
  refine st_store (sz := 1) (us := [_]) S M 4 rfl (by kernel_rfl) rfl rfl rfl rfl rfl rfl (by first | decide | (simp; done) | (simp; omega)) ?_; clear M; intro w13 M
  simp only [putL, List.set_cons_zero, List.set_cons_succ, Nat.reduceAdd] at M
  refine nxB ?_
  refine st_go [1, 1] S rfl (by kernel_rfl) ?_; clear S a; intro a S
  (first | refine st_y S rfl rfl rfl (y_addN S rfl rfl (by omega)) ?_ | refine st_y S rfl rfl rfl (y_int S rfl rfl rfl) ?_); clear S a; intro a S
  refine st_go [1] S rfl (by kernel_rfl) ?_; clear S a; intro a S
  refine wpList_nil ?_
  refine block_normal ?_
  refine then_normal ?_
  replace M := M.drop 1
  simp only [List.eraseIdx_cons_succ, List.eraseIdx_cons_zero] at M
  replace M := M.drop 1
  simp only [List.eraseIdx_cons_succ, List.eraseIdx_cons_zero] at M
  replace M := M.front 1 rfl
  simp only [List.eraseIdx_cons_succ, List.eraseIdx_cons_zero] at M
  replace M := M.front 1 rfl
  simp only [List.eraseIdx_cons_succ, List.eraseIdx_cons_zero] at M
  replace M := M.front 3 rfl
  simp only [List.eraseIdx_cons_succ, List.eraseIdx_cons_zero] at M
  replace M := M.front 3 rfl
  simp only [List.eraseIdx_cons_succ, List.eraseIdx_cons_zero] at M
  have hBk' := hBk.more (q := q) (lv := .slice ad q.2.length cp) (lo := lo2) (hi := hi2) (by unfold maxLen; omega)
  have e3 : ((k + 2 + (msB q).length : Nat) : Int) = (k : Int) + 2 + ((msB q).length : Int) := by omega
  refine ⟨bs.length - (k + 2 + (msB q).length), by omega, k + 2 + (msB q).length, l ++ [q], hfit, rfl, by rw [e3]; exact S.sub _ rfl, Ml.all_append.2 ⟨hall, by rw [Ml.all_cons]; exact ⟨hm, rfl⟩⟩, by simp; omega, mlB_grow hml hnn.symm hq2.symm, .slice aA (l.length + 1) cA, loA, hiA, _, _, ?_, hBk'⟩
  rw [List.length_append (bs := [q])]; exact M

end Go.Proofs.Ytojgcgaoajfihaa
