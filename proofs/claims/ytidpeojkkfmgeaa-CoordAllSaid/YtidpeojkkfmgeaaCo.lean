/-
  law21: CoordTicks.
-/
import Derived.Test.YtidpeojkkfmgeaaCm
namespace Go.Proofs.Ytidpeojkkfmgeaa
open Go.RowKit Go.Sort

theorem bit32 : ∀ (s y : Fin 32) (k : Fin 4), bitK (andNotV (s.val : Int) (y.val : Int)) (k.val + 1) = (andV (s.val : Int) (1 * 2 ^ (k.val + 1)) != 0 && andV (y.val : Int) (1 * 2 ^ (k.val + 1)) == 0) := by decide +kernel
theorem bit_iff {s y : Int} {k : Nat} (hs : 0 ≤ s ∧ s ≤ 31) (hy : 0 ≤ y ∧ y ≤ 31) (hk : k < 4) : bitK (andNotV s y) (k + 1) = true ↔ andV s (1 * 2 ^ (k + 1)) ≠ 0 ∧ andV y (1 * 2 ^ (k + 1)) = 0 := by
  obtain ⟨S, rfl⟩ := Int.eq_ofNat_of_zero_le hs.1
  obtain ⟨Y, rfl⟩ := Int.eq_ofNat_of_zero_le hy.1
  have := bit32 ⟨S, by omega⟩ ⟨Y, by omega⟩ ⟨k, hk⟩
  simp only at this
  rw [this]; simp
/-- the shards that a tick speaks to -/
def tickB (d : Dr) : Int := if d.phase = 1 then andNotV d.shards d.yes else if d.phase = 3 then andNotV d.shards d.acks else 0
def tickF (q : Dr × List Wr) (k : Nat) : Msg × List Wr := if q.1.phase = 1 then prepM q.1 q.2 k else decM q.1.name true k
theorem tickM_eq (q : Dr × List Wr) : tickM q = (bitsK (tickB q.1) 4).map (tickF q) := by
  unfold tickM tickB
  by_cases h1 : q.1.phase = 1
  · rw [if_pos h1, if_pos h1]; congr 1; funext k; unfold tickF; rw [if_pos h1]
  · rw [if_neg h1, if_neg h1]
    by_cases h3 : q.1.phase = 3
    · rw [if_pos h3, if_pos h3]; congr 1; funext k; unfold tickF; rw [if_neg h1]
    · rw [if_neg h3, if_neg h3]; rfl
theorem bitsK_pre (n : Int) (j : Nat) : ∀ m, ∃ r, bitsK n (j + m) = bitsK n j ++ r
  | 0 => ⟨[], by simp⟩
  | m + 1 => by
    obtain ⟨r, h⟩ := bitsK_pre n j m
    exact ⟨_, by rw [← Nat.add_assoc, bitsK_succ, h, List.append_assoc]⟩
theorem bitsK_get {n : Int} {k : Nat} (hk : k < 4) (h : bitK n (k + 1) = true) : (bitsK n 4)[(bitsK n k).length]? = some (k + 1) := by
  obtain ⟨r, hr⟩ := bitsK_pre n (k + 1) (4 - (k + 1))
  rw [show k + 1 + (4 - (k + 1)) = 4 by omega, bitsK_succ n k, if_pos h] at hr
  rw [hr]; simp
theorem tick_get {ds : Dl} {i k : Nat} {q : Dr × List Wr} (hq : ds[i]? = some q) (hk : k < 4) (h : bitK (tickB q.1) (k + 1) = true) : (ds.flatMap tickM)[((ds.take i).flatMap tickM).length + (bitsK (tickB q.1) k).length]? = some (tickF q (k + 1)) := by
  have e : ds = ds.take i ++ q :: ds.drop (i + 1) := by rw [← drop_get hq, List.take_append_drop]
  have e2 : ds.flatMap tickM = (ds.take i).flatMap tickM ++ (tickM q ++ (ds.drop (i + 1)).flatMap tickM) := by
    conv => lhs; rw [e]
    rw [List.flatMap_append, List.flatMap_cons]
  have hg := bitsK_get hk h
  have hl := (List.getElem?_eq_some_iff.1 hg).1
  rw [e2, List.getElem?_append_right (by omega), Nat.add_sub_cancel_left, List.getElem?_append_left (by rw [tickM_eq, List.length_map]; exact hl), tickM_eq, List.getElem?_map, hg]
  rfl
theorem tickF_is (q : Dr × List Wr) (k : Nat) : (tickF q k).1.to = (k : Int) ∧ (tickF q k).1.name = q.1.name ∧ (tickF q k).1.kind = (if q.1.phase = 1 then 4 else 6) ∧ (tickF q k).1.yes = (if q.1.phase = 1 then false else true) := by
  unfold tickF
  by_cases h : q.1.phase = 1
  · simp only [if_pos h]; unfold prepM
    split
    · exact ⟨rfl, rfl, rfl, rfl⟩
    · split <;> exact ⟨rfl, rfl, rfl, rfl⟩
  · simp only [if_neg h]; exact ⟨rfl, rfl, rfl, rfl⟩
/-- the bits that are handed in are numbers of 64 bits -/
def DlZ (ds : Dl) : Prop := ∀ q ∈ ds, q.1.shards ≤ 9223372036854775807 ∧ (-9223372036854775808 ≤ q.1.yes ∧ q.1.yes ≤ 9223372036854775807) ∧ (-9223372036854775808 ≤ q.1.acks ∧ q.1.acks ≤ 9223372036854775807)
theorem mach_bits {ds : Dl} (h : machB ds = true) (hz : DlZ ds) {q : Dr × List Wr} (hq : q ∈ ds) : (0 ≤ q.1.shards ∧ q.1.shards ≤ 31) ∧ (0 ≤ q.1.yes ∧ q.1.yes ≤ 31) ∧ (0 ≤ q.1.acks ∧ q.1.acks ≤ 31) := by
  have h1 := drOk_iff.1 ((machB_iff.1 h).2.1 q hq)
  have hs : 0 ≤ q.1.shards ∧ q.1.shards ≤ 31 := by have := h1.2.2.1; unfold shardsB at this; simp at this; omega
  have hz := hz q hq
  have := sub_le hz.2.1 hs h1.2.2.2.1
  have := sub_le hz.2.2 hs h1.2.2.2.2.1
  omega
theorem shlK {k : Nat} (h : k < 4) : -9223372036854775808 ≤ 1 * (2 : Int) ^ (k + 1) ∧ 1 * (2 : Int) ^ (k + 1) ≤ 9223372036854775807 := by
  have : k = 0 ∨ k = 1 ∨ k = 2 ∨ k = 3 := by omega
  rcases this with rfl | rfl | rfl | rfl <;> decide
theorem bit0 (k : Nat) : ¬ bitK 0 k = true := by unfold bitK; rw [Int.zero_ediv]; decide
set_option maxHeartbeats 2000000 in
theorem ticks21_any (va : Option Addr) (vc : Nat) (cs : List Value) (ds : Dl) (w : World) (hv : RowC drS cs 0 w.heap.size w (.slice va ds.length vc) ds) (hz : DlZ ds) :
    Calls Try.prog 5 #[.agg #[.slice va ds.length vc]] w fun e w' => e = .returned (.bool true) ∧ Below w.heap.size w w' := by
  obtain ⟨E, hE, hE0⟩ := machE ds
  have hb : ∀ q ∈ ds, q.1.shards ≤ 9223372036854775807 := fun q hq => (hz q hq).1
  have M := Mem.start w
  refine calls_enter Try.func5 rfl 179 rfl rfl ?_; intro a S
  refine nxD ?_
  refine st_box S M rfl rfl rfl #[_] rfl ?_; clear S M a; intro a w1 bC S M hB
  refine st_go [1] S rfl (by kernel_rfl) ?_; clear S a; intro a S
  refine nxC ?_
  refine wp_seq ?_
  refine nxD ?_
  refine st_y S rfl rfl rfl (y_loadAgg (cs := [_]) S (by kernel_rfl) rfl rfl (M.cellsAt (k := 1) 0 rfl rfl)) ?_; clear S a; intro a S
  refine st_call (xs := [(Operand.tmp 14)]) S (enters_of Try.func6 (by decide) rfl) rfl rfl rfl (great21_any va vc cs ds _ (M.rowsW hv)) ?_
  rintro _ w2 ⟨b, rfl, hK⟩; refine ⟨_, rfl, ?_⟩; clear S a; intro a S; replace M := M.grow hK
  refine st_go [1] S rfl (by kernel_rfl) ?_; clear S a; intro a S
  refine st_if (t := 16) S rfl ?_ ?_
  · clear S; intro h16 S
    refine st_go [0, 0, 0, 1] S rfl (by kernel_rfl) ?_; clear S a; intro a S
    refine nxC ?_
    refine st_condT S rfl ?_
    refine nxD ?_
    refine st_call (xs := []) S (enters_of Try.func8 (by decide) rfl) rfl rfl rfl (wakes21_any _) ?_
    rintro _ w3 ⟨rfl, hK⟩; refine ⟨_, rfl, ?_⟩; clear S a; intro a S; replace M := M.grow hK
    refine st_go [1] S rfl (by kernel_rfl) ?_; clear S a; intro a S
    refine nxC ?_
    refine wp_ret ?_
    refine then_ret ?_
    refine end_one S rfl (res_tmp rfl) ?_
    exact ⟨rfl, M.below⟩
  clear S; intro h16 S
  refine st_y S rfl rfl rfl (y_loadAgg (cs := [_]) S (by kernel_rfl) rfl rfl (M.cellsAt (k := 1) 0 rfl rfl)) ?_; clear S a; intro a S
  refine st_call (xs := [(Operand.tmp 17)]) S (enters_of Try.func7 (by decide) rfl) rfl rfl rfl (checkE_any va vc cs ds hE _ (M.rowsW hv) hb) ?_
  rintro _ w4 ⟨rfl, hK⟩; refine ⟨_, rfl, ?_⟩; clear S a; intro a S; replace M := M.grow hK
  refine st_go [1, 1] S rfl (by kernel_rfl) ?_; clear S a; intro a S
  refine nxC ?_
  refine st_if (t := 20) S rfl ?_ ?_
  · clear S; intro h20 S
    refine st_condT S rfl ?_
    refine nxD ?_
    refine st_call (xs := []) S (enters_of Try.func8 (by decide) rfl) rfl rfl rfl (wakes21_any _) ?_
    rintro _ w5 ⟨rfl, hK⟩; refine ⟨_, rfl, ?_⟩; clear S a; intro a S; replace M := M.grow hK
    refine st_go [1] S rfl (by kernel_rfl) ?_; clear S a; intro a S
    refine nxC ?_
    refine wp_ret ?_
    refine then_ret ?_
    refine end_one S rfl (res_tmp rfl) ?_
    exact ⟨rfl, M.below⟩
  clear S; intro h20 S
  refine st_condF S rfl ?_
  refine wp_skip ?_
  refine then_normal ?_
  refine wp_seq ?_
  have hmac : machB ds = true := by
    rcases hE0 with ⟨-, h⟩ | ⟨h, -⟩
    · exact h
    · exfalso; omega
  have hl8 := (machB_iff.1 hmac).1
  have hfl := ticks_len ds
  refine wp_region_lit ?_
  refine st_y S rfl rfl rfl (y_loadAgg (cs := [_]) S (by kernel_rfl) rfl rfl (M.cellsAt (k := 1) 0 rfl rfl)) ?_; clear S a; intro a S
  refine st_call (xs := [(Operand.tmp 23)]) S (enters_of Try.func17 (by decide) rfl) rfl rfl rfl (tick_any va vc cs ds _ (M.rowsW hv) hb) ?_
  rintro _ w6 ⟨er, r, hR, hc⟩
  obtain ⟨rfl, rfl⟩ : er = 0 ∧ r = (ds, ds.flatMap tickM, [], []) := by
    rcases hc with ⟨h1, -, h2⟩ | ⟨-, h⟩
    · exact ⟨h1, h2⟩
    · exact absurd hmac h
  obtain ⟨cv, mv, kv, ev, rfl, hK, hO⟩ := hR
  obtain ⟨la, lc, ma, mc, ka, kc, ea, ec, rfl, rfl, rfl, rfl⟩ := hO.form
  obtain ⟨c1, c2, c3, c4, hO⟩ := hO.cells
  refine ⟨_, rfl, ?_⟩; clear S a hc; intro a S; replace M := M.out hK hO
  refine st_go [1, 1, 1, 1] S rfl (by kernel_rfl) ?_; clear S a; intro a S
  refine st_alloc S M rfl rfl #[.slice none 0 0] (by kernel_rfl) ?_; clear S M a; intro a w7 bD S M hB
  refine st_alloc S M rfl rfl #[.slice none 0 0, .slice none 0 0, .slice none 0 0] (by kernel_rfl) ?_; clear S M a; intro a w8 bT S M hB
  refine st_store (sz := 1) (us := [_]) S M 1 rfl (by kernel_rfl) rfl rfl rfl rfl rfl rfl (by first | decide | (simp; done) | (simp; omega)) ?_; clear M; intro w9 M
  simp only [putL, List.set_cons_zero, List.set_cons_succ, Nat.reduceAdd] at M
  refine st_store (sz := 3) (us := [_, _, _]) S M 0 rfl (by kernel_rfl) rfl rfl rfl rfl rfl rfl (by first | decide | (simp; done) | (simp; omega)) ?_; clear M; intro w10 M
  simp only [putL, List.set_cons_zero, List.set_cons_succ, Nat.reduceAdd] at M
  refine st_go [1] S rfl (by kernel_rfl) ?_; clear S a; intro a S
  refine nxA ?_
  refine st_y S rfl rfl rfl (y_loadAgg (cs := [_]) S (by kernel_rfl) rfl rfl (M.cellsAt (k := 1) 1 rfl rfl)) ?_; clear S a; intro a S
  refine st_call (xs := [(Operand.tmp 29)]) S (enters_of Try.func17 (by decide) rfl) rfl rfl rfl (tick_any la lc c1 ds _ (M.outAt 2 rfl).1 hb) ?_
  rintro _ w11 ⟨er2, r2, hR, hc⟩
  obtain ⟨rfl, rfl⟩ : er2 = 0 ∧ r2 = (ds, ds.flatMap tickM, [], []) := by
    rcases hc with ⟨h1, -, h2⟩ | ⟨-, h⟩
    · exact ⟨h1, h2⟩
    · exact absurd hmac h
  obtain ⟨cv2, mv2, kv2, ev2, rfl, hK, hO2⟩ := hR
  obtain ⟨la2, lc2, ma2, mc2, ka2, kc2, ea2, ec2, rfl, rfl, rfl, rfl⟩ := hO2.form
  obtain ⟨d1, d2, d3, d4, hO2⟩ := hO2.cells
  refine ⟨_, rfl, ?_⟩; clear S a hc; intro a S; replace M := M.out hK hO2
  refine st_go [1, 1, 1, 1] S rfl (by kernel_rfl) ?_; clear S a; intro a S
  refine st_alloc S M rfl rfl #[.slice none 0 0] (by kernel_rfl) ?_; clear S M a; intro a w12 bG S M hB
  refine st_alloc S M rfl rfl #[.slice none 0 0, .slice none 0 0, .slice none 0 0] (by kernel_rfl) ?_; clear S M a; intro a w13 bU S M hB
  refine st_store (sz := 1) (us := [_]) S M 1 rfl (by kernel_rfl) rfl rfl rfl rfl rfl rfl (by first | decide | (simp; done) | (simp; omega)) ?_; clear M; intro w14 M
  simp only [putL, List.set_cons_zero, List.set_cons_succ, Nat.reduceAdd] at M
  refine st_store (sz := 3) (us := [_, _, _]) S M 0 rfl (by kernel_rfl) rfl rfl rfl rfl rfl rfl (by first | decide | (simp; done) | (simp; omega)) ?_; clear M; intro w15 M
  simp only [putL, List.set_cons_zero, List.set_cons_succ, Nat.reduceAdd] at M
  refine st_go [1] S rfl (by kernel_rfl) ?_; clear S a; intro a S
  replace S := S.sub [(0, _), (1, _), (2, _), (20, _), (3, _), (4, _), (5, _), (6, _), (7, _), (8, _)] rfl
  refine nxC ?_
  refine wp_seq ?_
  refine nxD ?_
  refine st_go [1, 1, 1] S rfl (by kernel_rfl) ?_; clear S a; intro a S
  refine st_if (t := 36) S rfl ?_ ?_
  · clear S; intro h36 S
    exact absurd rfl h36
  clear S; intro h36 S
  refine st_go [1, 1, 1, 1] S rfl (by kernel_rfl) ?_; clear S a; intro a S
  refine st_if (t := 40) S rfl ?_ ?_
  · clear S; intro h40 S
    exact absurd rfl h40
  clear S; intro h40 S
  refine st_y S rfl rfl rfl (y_loadAgg (cs := [_]) S (by kernel_rfl) rfl rfl (M.cellsAt (k := 1) 4 rfl rfl)) ?_; clear S a; intro a S
  refine st_y S rfl rfl rfl (y_loadAgg (cs := [_]) S (by kernel_rfl) rfl rfl (M.cellsAt (k := 1) 6 rfl rfl)) ?_; clear S a; intro a S
  refine st_call (xs := [(Operand.tmp 41), (Operand.tmp 42)]) S (enters_of Try.func11 (by decide) rfl) rfl rfl rfl (sameC_any la va lc vc c1 cs ds ds _ (M.outAt 5 rfl).1 (M.rowsW hv)) ?_
  rintro _ w16 ⟨b2, rfl, hK, hb2⟩; obtain rfl := hb2.2 rfl; refine ⟨_, rfl, ?_⟩; clear S a; intro a S; replace M := M.grow hK
  refine st_go [1, 1, 1] S rfl (by kernel_rfl) ?_; clear S a; intro a S
  refine st_if (t := 46) S rfl ?_ ?_
  · clear S; intro h46 S
    cases h46
  clear S; intro h46 S
  refine st_y S rfl rfl rfl (y_loadAgg (cs := [_]) S (by kernel_rfl) rfl rfl (M.cellsAt (k := 1) 1 rfl rfl)) ?_; clear S a; intro a S
  refine st_y S rfl rfl rfl (y_loadAgg (cs := [_]) S (by kernel_rfl) rfl rfl (M.cellsAt (k := 1) 6 rfl rfl)) ?_; clear S a; intro a S
  refine st_call (xs := [(Operand.tmp 47), (Operand.tmp 48)]) S (enters_of Try.func11 (by decide) rfl) rfl rfl rfl (sameC_any la2 va lc2 vc d1 cs ds ds _ (M.outAt 2 rfl).1 (M.rowsW hv)) ?_
  rintro _ w17 ⟨b3, rfl, hK, hb3⟩; obtain rfl := hb3.2 rfl; refine ⟨_, rfl, ?_⟩; clear S a; intro a S; replace M := M.grow hK
  refine st_go [1, 1, 1] S rfl (by kernel_rfl) ?_; clear S a; intro a S
  refine st_if (t := 52) S rfl ?_ ?_
  · clear S; intro h52 S
    cases h52
  clear S; intro h52 S
  refine st_y S rfl rfl rfl (y_loadAgg (cs := [_, _, _]) S (by kernel_rfl) rfl rfl (M.cellsAt (k := 3) 3 rfl rfl)) ?_; clear S a; intro a S
  refine st_y S rfl rfl rfl (y_loadAgg (cs := [_, _, _]) S (by kernel_rfl) rfl rfl (M.cellsAt (k := 3) 0 rfl rfl)) ?_; clear S a; intro a S
  refine st_call (xs := [(Operand.tmp 53), (Operand.tmp 54)]) S (enters_of Try.func18 (by decide) rfl) rfl rfl rfl (sameSaid_any ma ma2 ka ka2 ea ea2 mc mc2 kc kc2 ec ec2 c2 d2 (ds.flatMap tickM) _ (M.outAt 5 rfl).2.1 (M.outAt 2 rfl).2.1) ?_
  rintro _ w18 ⟨rfl, hK⟩; refine ⟨_, rfl, ?_⟩; clear S a; intro a S; replace M := M.grow hK
  refine st_go [1, 1, 1] S rfl (by kernel_rfl) ?_; clear S a; intro a S
  refine st_if (t := 58) S rfl ?_ ?_
  · clear S; intro h58 S
    cases h58
  clear S; intro h58 S
  refine st_run [2, 4] S M rfl (by kernel_rfl) ?_; clear S a; intro a S
  refine st_y S rfl rfl rfl (y_lenS (E := 97) S rfl (by kernel_rfl)) ?_; clear S a; intro a S
  refine st_run [3, 4] S M rfl (by kernel_rfl) ?_; clear S a; intro a S
  refine st_y S rfl rfl rfl (y_lenS (E := 66) S rfl (by kernel_rfl)) ?_; clear S a; intro a S
  (first | refine st_y S rfl rfl rfl (y_addN S rfl rfl (by omega)) ?_ | refine st_y S rfl rfl rfl (y_int S rfl rfl rfl) ?_); clear S a; intro a S
  refine st_go [1, 1] S rfl (by kernel_rfl) ?_; clear S a; intro a S
  replace S := S.sub [(0, _), (1, _), (2, _), (20, _), (3, _), (4, _), (5, _), (6, _), (7, _), (8, _), (67, _)] rfl
  refine nxC ?_
  refine st_if (t := 67) S rfl ?_ ?_
  · clear S; intro h67 S
    exfalso; change (0 : Int) < IntKind.i64.wrap ((0 : Int) + 0) at h67; revert h67; decide
  clear S; intro h67 S
  refine st_condF S rfl ?_
  refine wp_skip ?_
  refine nxE ?_
  refine st_go [1] S rfl (by kernel_rfl) ?_; clear S a; intro a S
  refine nxC ?_
  refine wp_seq ?_
  refine nxD ?_
  refine st_run [1, 7] S M rfl (by kernel_rfl) ?_; clear S a; intro a S
  refine st_y S rfl rfl rfl (y_lenS (E := 59) S rfl (by kernel_rfl)) ?_; clear S a; intro a S
  refine st_go [1] S rfl (by kernel_rfl) ?_; clear S a; intro a S
  refine nxC ?_
  refine wp_block ?_
  refine wp_loop_g (fun m a w' => ∃ (i n lo hi : Nat), i ≤ ds.length ∧ m = ds.length - i ∧ n = ((ds.take i).flatMap tickM).length ∧ Sees 179 a [(4, .pointer (some ⟨bT, 0, none⟩)), (9, .int .i64 (n : Int)), (69, .slice va ds.length vc), (70, .int .i64 (ds.length : Int)), (71, .int .i64 (i : Int))] ∧ Mem w w' [.blk bT #[.slice ma (ds.flatMap tickM).length mc, .slice ka 0 kc, .slice ea 0 ec] 41, outE c1 c2 c3 c4 lo hi (.slice la ds.length lc) (.slice ma (ds.flatMap tickM).length mc) (.slice ka 0 kc) (.slice ea 0 ec) (ds, ds.flatMap tickM, [], [])]) (ds.length) ?_ ?_
  · skip
    replace M := M.drop 0
    simp only [List.eraseIdx_cons_succ, List.eraseIdx_cons_zero] at M
    replace M := M.drop 0
    simp only [List.eraseIdx_cons_succ, List.eraseIdx_cons_zero] at M
    replace M := M.drop 0
    simp only [List.eraseIdx_cons_succ, List.eraseIdx_cons_zero] at M
    replace M := M.drop 1
    simp only [List.eraseIdx_cons_succ, List.eraseIdx_cons_zero] at M
    replace M := M.drop 2
    simp only [List.eraseIdx_cons_succ, List.eraseIdx_cons_zero] at M
    exact ⟨0, 0, _, _, Nat.zero_le _, rfl, rfl, S.sub _ rfl, M⟩
  clear S M a; intro m a wl
  rintro ⟨i, n, lo, hi, hi', rfl, hn, S, M⟩
  refine nxD ?_
  refine st_go [1] S rfl (by kernel_rfl) ?_; clear S a; intro a S
  refine nxC ?_
  refine wp_seq ?_
  refine st_fi (t := 72) S rfl ?_ ?_
  · clear S; intro h72 S
    refine st_condF S rfl ?_
    refine wp_exit ?_
    refine then_exit ?_
    refine then_exit ?_
    refine block_hit ?_
    refine then_normal ?_
    refine wp_seq ?_
    obtain rfl : i = ds.length := by omega
    rw [List.take_length] at hn
    refine wp_region_lit ?_
    refine st_run [1, 1, 1] S M rfl (by kernel_rfl) ?_; clear S a; intro a S
    refine st_y S rfl rfl rfl (y_lenS (E := 36) S rfl (by kernel_rfl)) ?_; clear S a; intro a S
    refine st_go [1, 1] S rfl (by kernel_rfl) ?_; clear S a; intro a S
    refine st_fi (t := 176) S rfl ?_ ?_
    · clear S; intro h176 S
      exfalso; omega
    clear S; intro h176 S
    refine st_call (xs := []) S (enters_of Try.func8 (by decide) rfl) rfl rfl rfl (wakes21_any _) ?_
    rintro _ w23 ⟨rfl, hK⟩; refine ⟨_, rfl, ?_⟩; clear S a; intro a S; replace M := M.grow hK
    refine st_go [1, 1] S rfl (by kernel_rfl) ?_; clear S a; intro a S
    refine nxC ?_
    refine wp_ret ?_
    refine end_one S rfl (res_tmp rfl) ?_
    exact ⟨rfl, M.below⟩
  clear S; intro h72 S
  refine st_condT S rfl ?_
  refine wp_skip ?_
  refine then_normal ?_
  refine wp_seq ?_
  refine wp_block ?_
  refine wp_seq ?_
  have hk' : i < ds.length := by omega
  obtain ⟨q, hq⟩ : ∃ q, ds[i]? = some q := ⟨_, List.getElem?_eq_getElem hk'⟩
  obtain ⟨xa, xc, hrow, hws⟩ := hv.sl hq
  obtain ⟨hs31, hy31, ha31⟩ := mach_bits hmac hz (List.mem_of_getElem? hq)
  refine wp_region_lit ?_
  refine st_y S rfl rfl rfl (y_indexR (e := 59) (sz := 10) S (by kernel_rfl) rfl ((M.rows hv).1) rfl (by first | omega | exact ⟨Int.natCast_nonneg _, Int.ofNat_lt.2 hnl⟩)) ?_; clear S a; intro a S
  try simp only [Int.toNat_natCast, Nat.mul_one, Nat.zero_add] at S
  refine st_y S rfl rfl rfl (y_loadAgg S (by kernel_rfl) rfl rfl ((M.rows hv).1.at_.row (i := i) hrow rfl)) ?_; clear S a; intro a S
  refine st_alloc S M rfl rfl #[.int .i64 0, .int .i64 0, .int .i64 0, .int .i8 0, .int .i64 0, .int .i64 0, .int .i64 0, .int .i64 0, .int .i64 0, .slice none 0 0] (by kernel_rfl) ?_; clear S M a; intro a w19 bQ S M hB
  refine st_store (sz := 10) (us := [_, _, _, _, _, _, _, _, _, _]) S M 0 rfl (by kernel_rfl) rfl rfl rfl rfl rfl rfl (by first | decide | (simp; done) | (simp; omega)) ?_; clear M; intro w20 M
  simp only [putL, List.set_cons_zero, List.set_cons_succ, Nat.reduceAdd] at M
  refine nxA ?_
  refine st_go [1] S rfl (by kernel_rfl) ?_; clear S a; intro a S
  refine nxC ?_
  refine wp_block ?_
  refine wp_loop_g (fun m a w' => ∃ (k n lo hi : Nat), k ≤ 4 ∧ m = 4 - k ∧ n = ((ds.take i).flatMap tickM).length + (bitsK (tickB q.1) k).length ∧ Sees 179 a [(4, .pointer (some ⟨bT, 0, none⟩)), (9, .int .i64 (n : Int)), (11, .pointer (some ⟨bQ, 0, none⟩)), (12, .int .i64 ((k + 1 : Nat) : Int)), (69, .slice va ds.length vc), (70, .int .i64 (ds.length : Int)), (71, .int .i64 (i : Int))] ∧ Mem w w' [.blk bQ (q.1.cells (.slice xa q.2.length xc)) 59, .blk bT #[.slice ma (ds.flatMap tickM).length mc, .slice ka 0 kc, .slice ea 0 ec] 41, outE c1 c2 c3 c4 lo hi (.slice la ds.length lc) (.slice ma (ds.flatMap tickM).length mc) (.slice ka 0 kc) (.slice ea 0 ec) (ds, ds.flatMap tickM, [], [])]) (4) ?_ ?_
  · skip
    exact ⟨0, n, lo, hi, by omega, rfl, by rw [hn]; rfl, S.sub _ rfl, M⟩
  clear S M a; intro m a wl
  clear hn n
  rintro ⟨k, n, lo, hi, hk4, rfl, hn, S, M⟩
  refine wp_seq ?_
  refine nxD ?_
  refine st_go [1, 1] S rfl (by kernel_rfl) ?_; clear S a; intro a S
  refine nxC ?_
  refine st_fi (t := 76) S rfl ?_ ?_
  · clear S; intro h76 S
    refine st_condF S rfl ?_
    refine wp_exit ?_
    refine then_exit ?_
    refine then_exit ?_
    refine block_hit ?_
    refine block_normal ?_
    refine nxF ?_
    (first | refine st_y S rfl rfl rfl (y_addN S rfl rfl (by omega)) ?_ | refine st_y S rfl rfl rfl (y_int S rfl rfl rfl) ?_); clear S a; intro a S
    refine st_go [1] S rfl (by kernel_rfl) ?_; clear S a; intro a S
    refine nxC ?_
    obtain rfl : k = 4 := by omega
    replace M := M.drop 0
    simp only [List.eraseIdx_cons_succ, List.eraseIdx_cons_zero] at M
    refine ⟨ds.length - (i + 1), by omega, i + 1, n, lo, hi, by omega, rfl, by rw [take_flat hq, List.length_append, tickM_eq, List.length_map]; exact hn, S.sub _ rfl, M⟩
  clear S; intro h76 S
  refine st_condT S rfl ?_
  refine wp_skip ?_
  refine then_normal ?_
  refine wp_seq ?_
  refine wp_block ?_
  refine nxD ?_
  refine st_go [1] S rfl (by kernel_rfl) ?_; clear S a; intro a S
  (first | refine st_y S rfl rfl rfl (y_shlN S rfl rfl (by omega) (by exact shlK (by omega))) ?_ | refine st_y S rfl rfl rfl (y_shl S rfl rfl (by omega)) ?_); clear S a; intro a S
  refine st_go [1] S rfl (by kernel_rfl) ?_; clear S a; intro a S
  refine nxA ?_
  refine st_run [4, 1, 1, 1] S M rfl (by kernel_rfl) ?_; clear S a; intro a S
  refine st_if (t := 84) S rfl ?_ ?_
  · clear S; intro h84 S
    refine st_run [5, 1, 1] S M rfl (by kernel_rfl) ?_; clear S a; intro a S
    refine st_y S rfl rfl rfl (y_int S rfl rfl rfl) ?_; clear S a; intro a S
    refine st_go [1, 1, 1] S rfl (by kernel_rfl) ?_; clear S a; intro a S
    refine st_fi (t := 91) S rfl ?_ ?_
    · clear S; intro h91 S
      refine st_run [0, 0, 0, 0, 0, 1, 1, 4, 1, 1, 1] S M rfl (by kernel_rfl) ?_; clear S a; intro a S
      refine st_if (t := 102) S rfl ?_ ?_
      · clear S; intro h102 S
        exfalso; omega
      clear S; intro h102 S
      refine st_go [0, 0, 0, 0, 0, 1, 1, 0, 0, 0, 0, 0, 1, 1] S rfl (by kernel_rfl) ?_; clear S a; intro a S
      replace S := S.sub [(4, _), (9, _), (11, _), (12, _), (69, _), (70, _), (71, _), (76, _), (13, _), (116, _)] rfl
      refine nxC ?_
      refine st_condF S rfl ?_
      refine wp_skip ?_
      refine block_normal ?_
      refine nxF ?_
      refine st_go [1] S rfl (by kernel_rfl) ?_; clear S a; intro a S
      (first | refine st_y S rfl rfl rfl (y_addN S rfl rfl (by omega)) ?_ | refine st_y S rfl rfl rfl (y_int S rfl rfl rfl) ?_); clear S a; intro a S
      refine st_go [1] S rfl (by kernel_rfl) ?_; clear S a; intro a S
      refine nxC ?_
      first
        | (refine ⟨4 - (k + 1), by omega, k + 1, n + 1, lo, hi, by omega, rfl, by rw [bitsK_succ, if_pos hbit, hn, List.length_append]; rfl, ?_, M⟩
           rw [show ((k + 1 + 1 : Nat) : Int) = ((k + 1 : Nat) : Int) + 1 by omega, show ((n + 1 : Nat) : Int) = (n : Int) + 1 by omega]; exact S.sub _ rfl)
        | (have hbit : ¬ bitK (tickB q.1) (k + 1) = true := by
             unfold tickB
             by_cases g1 : q.1.phase = 1
             · rw [if_pos g1, bit_iff hs31 hy31 (by omega)]
               rintro ⟨a, b⟩
               first | exact a h91 | exact h98 b | omega
             · rw [if_neg g1]
               by_cases g3 : q.1.phase = 3
               · rw [if_pos g3, bit_iff hs31 ha31 (by omega)]
                 rintro ⟨a, b⟩
                 first | exact a h109 | exact h116 b | omega
               · rw [if_neg g3]; exact bit0 _
           refine ⟨4 - (k + 1), by omega, k + 1, n, lo, hi, by omega, rfl, by rw [bitsK_succ, if_neg hbit, hn, List.append_nil], ?_, M⟩
           rw [show ((k + 1 + 1 : Nat) : Int) = ((k + 1 : Nat) : Int) + 1 by omega]; exact S.sub _ rfl)
    clear S; intro h91 S
    refine st_run [6, 1, 1] S M rfl (by kernel_rfl) ?_; clear S a; intro a S
    refine st_y S rfl rfl rfl (y_int S rfl rfl rfl) ?_; clear S a; intro a S
    refine st_go [1, 1, 1] S rfl (by kernel_rfl) ?_; clear S a; intro a S
    refine st_fi (t := 98) S rfl ?_ ?_
    · clear S; intro h98 S
      refine st_run [4, 1, 1, 1] S M rfl (by kernel_rfl) ?_; clear S a; intro a S
      refine st_if (t := 102) S rfl ?_ ?_
      · clear S; intro h102 S
        exfalso; omega
      clear S; intro h102 S
      refine st_go [0, 0, 0, 0, 0, 1, 1, 0, 0, 0, 0, 0, 1, 1] S rfl (by kernel_rfl) ?_; clear S a; intro a S
      replace S := S.sub [(4, _), (9, _), (11, _), (12, _), (69, _), (70, _), (71, _), (76, _), (13, _), (116, _)] rfl
      refine nxC ?_
      refine st_condF S rfl ?_
      refine wp_skip ?_
      refine block_normal ?_
      refine nxF ?_
      refine st_go [1] S rfl (by kernel_rfl) ?_; clear S a; intro a S
      (first | refine st_y S rfl rfl rfl (y_addN S rfl rfl (by omega)) ?_ | refine st_y S rfl rfl rfl (y_int S rfl rfl rfl) ?_); clear S a; intro a S
      refine st_go [1] S rfl (by kernel_rfl) ?_; clear S a; intro a S
      refine nxC ?_
      first
        | (refine ⟨4 - (k + 1), by omega, k + 1, n + 1, lo, hi, by omega, rfl, by rw [bitsK_succ, if_pos hbit, hn, List.length_append]; rfl, ?_, M⟩
           rw [show ((k + 1 + 1 : Nat) : Int) = ((k + 1 : Nat) : Int) + 1 by omega, show ((n + 1 : Nat) : Int) = (n : Int) + 1 by omega]; exact S.sub _ rfl)
        | (have hbit : ¬ bitK (tickB q.1) (k + 1) = true := by
             unfold tickB
             by_cases g1 : q.1.phase = 1
             · rw [if_pos g1, bit_iff hs31 hy31 (by omega)]
               rintro ⟨a, b⟩
               first | exact a h91 | exact h98 b | omega
             · rw [if_neg g1]
               by_cases g3 : q.1.phase = 3
               · rw [if_pos g3, bit_iff hs31 ha31 (by omega)]
                 rintro ⟨a, b⟩
                 first | exact a h109 | exact h116 b | omega
               · rw [if_neg g3]; exact bit0 _
           refine ⟨4 - (k + 1), by omega, k + 1, n, lo, hi, by omega, rfl, by rw [bitsK_succ, if_neg hbit, hn, List.append_nil], ?_, M⟩
           rw [show ((k + 1 + 1 : Nat) : Int) = ((k + 1 : Nat) : Int) + 1 by omega]; exact S.sub _ rfl)
    clear S; intro h98 S
    refine st_go [0, 0, 0, 0, 0, 0, 0, 0, 0, 0, 0, 0, 0, 0, 0, 0, 0, 1] S rfl (by kernel_rfl) ?_; clear S a; intro a S
    replace S := S.sub [(4, _), (9, _), (11, _), (12, _), (69, _), (70, _), (71, _), (76, _), (13, _), (116, _)] rfl
    refine nxC ?_
    refine st_condT S rfl ?_
    refine wp_seq ?_
    refine wp_seq ?_
    have hbit : bitK (tickB q.1) (k + 1) = true := by
      unfold tickB
      first
        | (rw [if_pos h84]; exact (bit_iff hs31 hy31 (by omega)).2 ⟨h91, h98⟩)
        | (rw [if_neg (by omega), if_pos h102]; exact (bit_iff hs31 ha31 (by omega)).2 ⟨h109, h116⟩)
    have hp13 : q.1.phase = 1 ∨ q.1.phase = 3 := by omega
    have hget := tick_get hq (show k < 4 by omega) hbit
    rw [← hn] at hget
    have hnl := (List.getElem?_eq_some_iff.1 hget).1
    obtain ⟨ht1, ht2, ht3, ht4⟩ := tickF_is q (k + 1)
    obtain ⟨a1, b1, hr, -⟩ := (M.outAt 2 rfl).2.1.sl hget
    generalize tickF q (k + 1) = x at *
    refine wp_quiet M (by kernel_rfl) (by kernel_rfl) ?_
    refine qt_y S rfl rfl rfl (fun w M => y_move S rfl) ?_; clear S a; intro a S
    refine qt_y S rfl rfl rfl (fun w M => y_fieldAddr (k := 0) S (by kernel_rfl) rfl) ?_; clear S a; intro a S
    refine qt_y S rfl rfl rfl (fun w M => y_load S (by kernel_rfl) rfl (M.cell 1 rfl rfl)) ?_; clear S a; intro a S
    refine qt_y S rfl rfl rfl (fun w M => y_lenS (E := 36) S rfl (by kernel_rfl)) ?_; clear S a; intro a S
    refine qt_y S rfl rfl rfl (fun w M => y_int S rfl rfl rfl) ?_; clear S a; intro a S
    refine qt_y S rfl rfl rfl (fun w M => y_move S rfl) ?_; clear S a; intro a S
    refine st_if (t := 122) S rfl ?_ ?_
    · clear S; intro h122 S
      exfalso; omega
    clear S; intro h122 S
    refine qt_y S rfl rfl rfl (fun w M => y_fieldAddr (k := 0) S (by kernel_rfl) rfl) ?_; clear S a; intro a S
    refine qt_y S rfl rfl rfl (fun w M => y_load S (by kernel_rfl) rfl (M.cell 1 rfl rfl)) ?_; clear S a; intro a S
    refine qt_y S rfl rfl rfl (fun w M => y_move S rfl) ?_; clear S a; intro a S
    refine qt_y S rfl rfl rfl (fun w M => y_indexR (e := 36) (sz := 24) S (by kernel_rfl) rfl ((M.outAt 2 rfl).2.1.1) rfl (by first | omega | exact ⟨Int.natCast_nonneg _, Int.ofNat_lt.2 hnl⟩)) ?_; clear S a; intro a S
    try simp only [Int.toNat_natCast, Nat.mul_one, Nat.zero_add] at S
    refine qt_y S rfl rfl rfl (fun w M => y_fieldAddr (k := 2) S (by kernel_rfl) rfl) ?_; clear S a; intro a S
    refine qt_y S rfl rfl rfl (fun w M => y_load S (by kernel_rfl) rfl ((M.outAt 2 rfl).2.1.1.at_.row (i := n) hr rfl 2 (show 2 < 24 by decide))) ?_; clear S a; intro a S
    refine qt_y S rfl rfl rfl (fun w M => y_move S rfl) ?_; clear S a; intro a S
    refine qt_y S rfl rfl rfl (fun w M => y_int S rfl rfl rfl) ?_; clear S a; intro a S
    refine qt_y S rfl rfl rfl (fun w M => y_pickF S rfl rfl) ?_; clear S a; intro a S
    refine qt_y S rfl rfl rfl (fun w M => y_move S rfl) ?_; clear S a; intro a S
    refine st_if (t := 132) S rfl ?_ ?_
    · clear S; intro h132 S
      exact absurd ht1 h132
    clear S; intro h132 S
    refine qt_y S rfl rfl rfl (fun w M => y_fieldAddr (k := 0) S (by kernel_rfl) rfl) ?_; clear S a; intro a S
    refine qt_y S rfl rfl rfl (fun w M => y_load S (by kernel_rfl) rfl (M.cell 1 rfl rfl)) ?_; clear S a; intro a S
    refine qt_y S rfl rfl rfl (fun w M => y_move S rfl) ?_; clear S a; intro a S
    refine qt_y S rfl rfl rfl (fun w M => y_indexR (e := 36) (sz := 24) S (by kernel_rfl) rfl ((M.outAt 2 rfl).2.1.1) rfl (by first | omega | exact ⟨Int.natCast_nonneg _, Int.ofNat_lt.2 hnl⟩)) ?_; clear S a; intro a S
    try simp only [Int.toNat_natCast, Nat.mul_one, Nat.zero_add] at S
    refine qt_y S rfl rfl rfl (fun w M => y_fieldAddr (k := 5) S (by kernel_rfl) rfl) ?_; clear S a; intro a S
    refine qt_y S rfl rfl rfl (fun w M => y_loadAgg S (by kernel_rfl) rfl rfl (show CellsAt _ _ _ [.int .i64 x.1.name.stamp, .int .i64 x.1.name.inc, .int .i64 x.1.name.try_] from ((M.outAt 2 rfl).2.1.1.at_.row (i := n) hr rfl).part 5 3)) ?_; clear S a; intro a S
    refine qt_y S rfl rfl rfl (fun w M => y_fieldAddr (k := 0) S (by kernel_rfl) rfl) ?_; clear S a; intro a S
    refine qt_y S rfl rfl rfl (fun w M => y_loadAgg (cs := [_, _, _]) S (by kernel_rfl) rfl rfl (M.cellsAt (k := 3) 0 rfl rfl)) ?_; clear S a; intro a S
    refine qt_y S rfl rfl rfl (fun w M => y_neqG (by kernel_rfl) S rfl rfl (fun w => equalNm 9998 x.1.name q.1.name w)) ?_; clear S a; intro a S
    refine qt_y S rfl rfl rfl (fun w M => y_pickF S rfl rfl) ?_; clear S a; intro a S
    refine qt_y S rfl rfl rfl (fun w M => y_move S rfl) ?_; clear S a; intro a S
    refine st_if (t := 143) S rfl ?_ ?_
    · clear S; intro h143 S
      exfalso; rw [ht2, Nm.eqb_iff.2 rfl] at h143; cases h143
    clear S; intro h143 S
    refine qt_y S rfl rfl rfl (fun w M => y_fieldAddr (k := 0) S (by kernel_rfl) rfl) ?_; clear S a; intro a S
    refine qt_y S rfl rfl rfl (fun w M => y_load S (by kernel_rfl) rfl (M.cell 1 rfl rfl)) ?_; clear S a; intro a S
    refine qt_y S rfl rfl rfl (fun w M => y_move S rfl) ?_; clear S a; intro a S
    refine qt_y S rfl rfl rfl (fun w M => y_indexR (e := 36) (sz := 24) S (by kernel_rfl) rfl ((M.outAt 2 rfl).2.1.1) rfl (by first | omega | exact ⟨Int.natCast_nonneg _, Int.ofNat_lt.2 hnl⟩)) ?_; clear S a; intro a S
    try simp only [Int.toNat_natCast, Nat.mul_one, Nat.zero_add] at S
    refine qt_y S rfl rfl rfl (fun w M => y_fieldAddr (k := 0) S (by kernel_rfl) rfl) ?_; clear S a; intro a S
    refine qt_y S rfl rfl rfl (fun w M => y_load S (by kernel_rfl) rfl ((M.outAt 2 rfl).2.1.1.at_.row (i := n) hr rfl 0 (show 0 < 24 by decide))) ?_; clear S a; intro a S
    refine qt_y S rfl rfl rfl (fun w M => y_int S rfl rfl rfl) ?_; clear S a; intro a S
    refine qt_y S rfl rfl rfl (fun w M => y_fieldAddr (k := 3) S (by kernel_rfl) rfl) ?_; clear S a; intro a S
    refine qt_y S rfl rfl rfl (fun w M => y_load S (by kernel_rfl) rfl (M.cell 0 rfl rfl)) ?_; clear S a; intro a S
    refine qt_y S rfl rfl rfl (fun w M => y_int S rfl rfl rfl) ?_; clear S a; intro a S
    refine qt_y S rfl rfl rfl (fun w M => y_neqBool (by kernel_rfl) S rfl rfl) ?_; clear S a; intro a S
    refine qt_y S rfl rfl rfl (fun w M => y_pickF S rfl rfl) ?_; clear S a; intro a S
    refine qt_y S rfl rfl rfl (fun w M => y_move S rfl) ?_; clear S a; intro a S
    refine st_if (t := 156) S rfl ?_ ?_
    · clear S; intro h156 S
      exfalso; rw [ht3] at h156
      rcases hp13 with g | g <;> simp [g] at h156
    clear S; intro h156 S
    refine qt_y S rfl rfl rfl (fun w M => y_fieldAddr (k := 0) S (by kernel_rfl) rfl) ?_; clear S a; intro a S
    refine qt_y S rfl rfl rfl (fun w M => y_load S (by kernel_rfl) rfl (M.cell 1 rfl rfl)) ?_; clear S a; intro a S
    refine qt_y S rfl rfl rfl (fun w M => y_move S rfl) ?_; clear S a; intro a S
    refine qt_y S rfl rfl rfl (fun w M => y_indexR (e := 36) (sz := 24) S (by kernel_rfl) rfl ((M.outAt 2 rfl).2.1.1) rfl (by first | omega | exact ⟨Int.natCast_nonneg _, Int.ofNat_lt.2 hnl⟩)) ?_; clear S a; intro a S
    try simp only [Int.toNat_natCast, Nat.mul_one, Nat.zero_add] at S
    refine qt_y S rfl rfl rfl (fun w M => y_fieldAddr (k := 20) S (by kernel_rfl) rfl) ?_; clear S a; intro a S
    refine qt_y S rfl rfl rfl (fun w M => y_load S (by kernel_rfl) rfl ((M.outAt 2 rfl).2.1.1.at_.row (i := n) hr rfl 20 (show 20 < 24 by decide))) ?_; clear S a; intro a S
    refine qt_y S rfl rfl rfl (fun w M => y_fieldAddr (k := 3) S (by kernel_rfl) rfl) ?_; clear S a; intro a S
    refine qt_y S rfl rfl rfl (fun w M => y_load S (by kernel_rfl) rfl (M.cell 0 rfl rfl)) ?_; clear S a; intro a S
    refine qt_y S rfl rfl rfl (fun w M => y_int S rfl rfl rfl) ?_; clear S a; intro a S
    refine qt_y S rfl rfl rfl (fun w M => y_neqBool (by kernel_rfl) S rfl rfl) ?_; clear S a; intro a S
    refine qt_y S rfl rfl rfl (fun w M => y_pickF S rfl rfl) ?_; clear S a; intro a S
    refine wpQuiet_nil ?_; clear M; intro w21 M
    replace S := S.sub [(4, _), (9, _), (11, _), (12, _), (69, _), (70, _), (71, _), (76, _), (13, _), (116, _), (167, _)] rfl
    refine then_normal ?_
    refine st_if (t := 167) S rfl ?_ ?_
    · clear S; intro h167 S
      exfalso; rw [ht4] at h167
      rcases hp13 with g | g <;> simp [g] at h167
    clear S; intro h167 S
    refine st_condF S rfl ?_
    refine wp_skip ?_
    refine nxF ?_
    refine st_go [1] S rfl (by kernel_rfl) ?_; clear S a; intro a S
    (first | refine st_y S rfl rfl rfl (y_addN S rfl rfl (by omega)) ?_ | refine st_y S rfl rfl rfl (y_int S rfl rfl rfl) ?_); clear S a; intro a S
    refine st_go [1] S rfl (by kernel_rfl) ?_; clear S a; intro a S
    refine wpList_nil ?_
    refine block_normal ?_
    refine nxF ?_
    refine st_go [1] S rfl (by kernel_rfl) ?_; clear S a; intro a S
    (first | refine st_y S rfl rfl rfl (y_addN S rfl rfl (by omega)) ?_ | refine st_y S rfl rfl rfl (y_int S rfl rfl rfl) ?_); clear S a; intro a S
    refine st_go [1] S rfl (by kernel_rfl) ?_; clear S a; intro a S
    refine nxC ?_
    first
      | (refine ⟨4 - (k + 1), by omega, k + 1, n + 1, lo, hi, by omega, rfl, by rw [bitsK_succ, if_pos hbit, hn, List.length_append]; rfl, ?_, M⟩
         rw [show ((k + 1 + 1 : Nat) : Int) = ((k + 1 : Nat) : Int) + 1 by omega, show ((n + 1 : Nat) : Int) = (n : Int) + 1 by omega]; exact S.sub _ rfl)
      | (have hbit : ¬ bitK (tickB q.1) (k + 1) = true := by
           unfold tickB
           by_cases g1 : q.1.phase = 1
           · rw [if_pos g1, bit_iff hs31 hy31 (by omega)]
             rintro ⟨a, b⟩
             first | exact a h91 | exact h98 b | omega
           · rw [if_neg g1]
             by_cases g3 : q.1.phase = 3
             · rw [if_pos g3, bit_iff hs31 ha31 (by omega)]
               rintro ⟨a, b⟩
               first | exact a h109 | exact h116 b | omega
             · rw [if_neg g3]; exact bit0 _
         refine ⟨4 - (k + 1), by omega, k + 1, n, lo, hi, by omega, rfl, by rw [bitsK_succ, if_neg hbit, hn, List.append_nil], ?_, M⟩
         rw [show ((k + 1 + 1 : Nat) : Int) = ((k + 1 : Nat) : Int) + 1 by omega]; exact S.sub _ rfl)
  clear S; intro h84 S
  refine st_run [0, 0, 0, 0, 0, 1, 1, 0, 0, 0, 0, 0, 1, 1, 4, 1, 1, 1] S M rfl (by kernel_rfl) ?_; clear S a; intro a S
  refine st_fi (t := 102) S rfl ?_ ?_
  · clear S; intro h102 S
    refine st_go [0, 0, 0, 0, 0, 1, 1, 0, 0, 0, 0, 0, 1, 1] S rfl (by kernel_rfl) ?_; clear S a; intro a S
    replace S := S.sub [(4, _), (9, _), (11, _), (12, _), (69, _), (70, _), (71, _), (76, _), (13, _), (116, _)] rfl
    refine nxC ?_
    refine st_condF S rfl ?_
    refine wp_skip ?_
    refine block_normal ?_
    refine nxF ?_
    refine st_go [1] S rfl (by kernel_rfl) ?_; clear S a; intro a S
    (first | refine st_y S rfl rfl rfl (y_addN S rfl rfl (by omega)) ?_ | refine st_y S rfl rfl rfl (y_int S rfl rfl rfl) ?_); clear S a; intro a S
    refine st_go [1] S rfl (by kernel_rfl) ?_; clear S a; intro a S
    refine nxC ?_
    first
      | (refine ⟨4 - (k + 1), by omega, k + 1, n + 1, lo, hi, by omega, rfl, by rw [bitsK_succ, if_pos hbit, hn, List.length_append]; rfl, ?_, M⟩
         rw [show ((k + 1 + 1 : Nat) : Int) = ((k + 1 : Nat) : Int) + 1 by omega, show ((n + 1 : Nat) : Int) = (n : Int) + 1 by omega]; exact S.sub _ rfl)
      | (have hbit : ¬ bitK (tickB q.1) (k + 1) = true := by
           unfold tickB
           by_cases g1 : q.1.phase = 1
           · rw [if_pos g1, bit_iff hs31 hy31 (by omega)]
             rintro ⟨a, b⟩
             first | exact a h91 | exact h98 b | omega
           · rw [if_neg g1]
             by_cases g3 : q.1.phase = 3
             · rw [if_pos g3, bit_iff hs31 ha31 (by omega)]
               rintro ⟨a, b⟩
               first | exact a h109 | exact h116 b | omega
             · rw [if_neg g3]; exact bit0 _
         refine ⟨4 - (k + 1), by omega, k + 1, n, lo, hi, by omega, rfl, by rw [bitsK_succ, if_neg hbit, hn, List.append_nil], ?_, M⟩
         rw [show ((k + 1 + 1 : Nat) : Int) = ((k + 1 : Nat) : Int) + 1 by omega]; exact S.sub _ rfl)
  clear S; intro h102 S
  refine st_run [5, 1, 1] S M rfl (by kernel_rfl) ?_; clear S a; intro a S
  refine st_y S rfl rfl rfl (y_int S rfl rfl rfl) ?_; clear S a; intro a S
  refine st_go [1, 1, 1] S rfl (by kernel_rfl) ?_; clear S a; intro a S
  refine st_fi (t := 109) S rfl ?_ ?_
  · clear S; intro h109 S
    refine st_go [0, 0, 0, 0, 0, 1, 1] S rfl (by kernel_rfl) ?_; clear S a; intro a S
    replace S := S.sub [(4, _), (9, _), (11, _), (12, _), (69, _), (70, _), (71, _), (76, _), (13, _), (116, _)] rfl
    refine nxC ?_
    refine st_condF S rfl ?_
    refine wp_skip ?_
    refine block_normal ?_
    refine nxF ?_
    refine st_go [1] S rfl (by kernel_rfl) ?_; clear S a; intro a S
    (first | refine st_y S rfl rfl rfl (y_addN S rfl rfl (by omega)) ?_ | refine st_y S rfl rfl rfl (y_int S rfl rfl rfl) ?_); clear S a; intro a S
    refine st_go [1] S rfl (by kernel_rfl) ?_; clear S a; intro a S
    refine nxC ?_
    first
      | (refine ⟨4 - (k + 1), by omega, k + 1, n + 1, lo, hi, by omega, rfl, by rw [bitsK_succ, if_pos hbit, hn, List.length_append]; rfl, ?_, M⟩
         rw [show ((k + 1 + 1 : Nat) : Int) = ((k + 1 : Nat) : Int) + 1 by omega, show ((n + 1 : Nat) : Int) = (n : Int) + 1 by omega]; exact S.sub _ rfl)
      | (have hbit : ¬ bitK (tickB q.1) (k + 1) = true := by
           unfold tickB
           by_cases g1 : q.1.phase = 1
           · rw [if_pos g1, bit_iff hs31 hy31 (by omega)]
             rintro ⟨a, b⟩
             first | exact a h91 | exact h98 b | omega
           · rw [if_neg g1]
             by_cases g3 : q.1.phase = 3
             · rw [if_pos g3, bit_iff hs31 ha31 (by omega)]
               rintro ⟨a, b⟩
               first | exact a h109 | exact h116 b | omega
             · rw [if_neg g3]; exact bit0 _
         refine ⟨4 - (k + 1), by omega, k + 1, n, lo, hi, by omega, rfl, by rw [bitsK_succ, if_neg hbit, hn, List.append_nil], ?_, M⟩
         rw [show ((k + 1 + 1 : Nat) : Int) = ((k + 1 : Nat) : Int) + 1 by omega]; exact S.sub _ rfl)
  clear S; intro h109 S
  refine st_run [7, 1, 1] S M rfl (by kernel_rfl) ?_; clear S a; intro a S
  refine st_y S rfl rfl rfl (y_int S rfl rfl rfl) ?_; clear S a; intro a S
  refine st_go [1, 1, 1] S rfl (by kernel_rfl) ?_; clear S a; intro a S
  replace S := S.sub [(4, _), (9, _), (11, _), (12, _), (69, _), (70, _), (71, _), (76, _), (13, _), (116, _)] rfl
  refine nxC ?_
  refine st_fi (t := 116) S rfl ?_ ?_
  · clear S; intro h116 S
    refine st_condF S rfl ?_
    refine wp_skip ?_
    refine block_normal ?_
    refine nxF ?_
    refine st_go [1] S rfl (by kernel_rfl) ?_; clear S a; intro a S
    (first | refine st_y S rfl rfl rfl (y_addN S rfl rfl (by omega)) ?_ | refine st_y S rfl rfl rfl (y_int S rfl rfl rfl) ?_); clear S a; intro a S
    refine st_go [1] S rfl (by kernel_rfl) ?_; clear S a; intro a S
    refine nxC ?_
    first
      | (refine ⟨4 - (k + 1), by omega, k + 1, n + 1, lo, hi, by omega, rfl, by rw [bitsK_succ, if_pos hbit, hn, List.length_append]; rfl, ?_, M⟩
         rw [show ((k + 1 + 1 : Nat) : Int) = ((k + 1 : Nat) : Int) + 1 by omega, show ((n + 1 : Nat) : Int) = (n : Int) + 1 by omega]; exact S.sub _ rfl)
      | (have hbit : ¬ bitK (tickB q.1) (k + 1) = true := by
           unfold tickB
           by_cases g1 : q.1.phase = 1
           · rw [if_pos g1, bit_iff hs31 hy31 (by omega)]
             rintro ⟨a, b⟩
             first | exact a h91 | exact h98 b | omega
           · rw [if_neg g1]
             by_cases g3 : q.1.phase = 3
             · rw [if_pos g3, bit_iff hs31 ha31 (by omega)]
               rintro ⟨a, b⟩
               first | exact a h109 | exact h116 b | omega
             · rw [if_neg g3]; exact bit0 _
         refine ⟨4 - (k + 1), by omega, k + 1, n, lo, hi, by omega, rfl, by rw [bitsK_succ, if_neg hbit, hn, List.append_nil], ?_, M⟩
         rw [show ((k + 1 + 1 : Nat) : Int) = ((k + 1 : Nat) : Int) + 1 by omega]; exact S.sub _ rfl)
  clear S; intro h116 S
  refine st_condT S rfl ?_
  refine wp_seq ?_
  refine wp_seq ?_
  have hbit : bitK (tickB q.1) (k + 1) = true := by
    unfold tickB
    first
      | (rw [if_pos h84]; exact (bit_iff hs31 hy31 (by omega)).2 ⟨h91, h98⟩)
      | (rw [if_neg (by omega), if_pos h102]; exact (bit_iff hs31 ha31 (by omega)).2 ⟨h109, h116⟩)
  have hp13 : q.1.phase = 1 ∨ q.1.phase = 3 := by omega
  have hget := tick_get hq (show k < 4 by omega) hbit
  rw [← hn] at hget
  have hnl := (List.getElem?_eq_some_iff.1 hget).1
  obtain ⟨ht1, ht2, ht3, ht4⟩ := tickF_is q (k + 1)
  obtain ⟨a1, b1, hr, -⟩ := (M.outAt 2 rfl).2.1.sl hget
  generalize tickF q (k + 1) = x at *
  refine wp_quiet M (by kernel_rfl) (by kernel_rfl) ?_
  refine qt_y S rfl rfl rfl (fun w M => y_move S rfl) ?_; clear S a; intro a S
  refine qt_y S rfl rfl rfl (fun w M => y_fieldAddr (k := 0) S (by kernel_rfl) rfl) ?_; clear S a; intro a S
  refine qt_y S rfl rfl rfl (fun w M => y_load S (by kernel_rfl) rfl (M.cell 1 rfl rfl)) ?_; clear S a; intro a S
  refine qt_y S rfl rfl rfl (fun w M => y_lenS (E := 36) S rfl (by kernel_rfl)) ?_; clear S a; intro a S
  refine qt_y S rfl rfl rfl (fun w M => y_int S rfl rfl rfl) ?_; clear S a; intro a S
  refine qt_y S rfl rfl rfl (fun w M => y_move S rfl) ?_; clear S a; intro a S
  refine st_if (t := 122) S rfl ?_ ?_
  · clear S; intro h122 S
    exfalso; omega
  clear S; intro h122 S
  refine qt_y S rfl rfl rfl (fun w M => y_fieldAddr (k := 0) S (by kernel_rfl) rfl) ?_; clear S a; intro a S
  refine qt_y S rfl rfl rfl (fun w M => y_load S (by kernel_rfl) rfl (M.cell 1 rfl rfl)) ?_; clear S a; intro a S
  refine qt_y S rfl rfl rfl (fun w M => y_move S rfl) ?_; clear S a; intro a S
  refine qt_y S rfl rfl rfl (fun w M => y_indexR (e := 36) (sz := 24) S (by kernel_rfl) rfl ((M.outAt 2 rfl).2.1.1) rfl (by first | omega | exact ⟨Int.natCast_nonneg _, Int.ofNat_lt.2 hnl⟩)) ?_; clear S a; intro a S
  try simp only [Int.toNat_natCast, Nat.mul_one, Nat.zero_add] at S
  refine qt_y S rfl rfl rfl (fun w M => y_fieldAddr (k := 2) S (by kernel_rfl) rfl) ?_; clear S a; intro a S
  refine qt_y S rfl rfl rfl (fun w M => y_load S (by kernel_rfl) rfl ((M.outAt 2 rfl).2.1.1.at_.row (i := n) hr rfl 2 (show 2 < 24 by decide))) ?_; clear S a; intro a S
  refine qt_y S rfl rfl rfl (fun w M => y_move S rfl) ?_; clear S a; intro a S
  refine qt_y S rfl rfl rfl (fun w M => y_int S rfl rfl rfl) ?_; clear S a; intro a S
  refine qt_y S rfl rfl rfl (fun w M => y_pickF S rfl rfl) ?_; clear S a; intro a S
  refine qt_y S rfl rfl rfl (fun w M => y_move S rfl) ?_; clear S a; intro a S
  refine st_if (t := 132) S rfl ?_ ?_
  · clear S; intro h132 S
    exact absurd ht1 h132
  clear S; intro h132 S
  refine qt_y S rfl rfl rfl (fun w M => y_fieldAddr (k := 0) S (by kernel_rfl) rfl) ?_; clear S a; intro a S
  refine qt_y S rfl rfl rfl (fun w M => y_load S (by kernel_rfl) rfl (M.cell 1 rfl rfl)) ?_; clear S a; intro a S
  refine qt_y S rfl rfl rfl (fun w M => y_move S rfl) ?_; clear S a; intro a S
  refine qt_y S rfl rfl rfl (fun w M => y_indexR (e := 36) (sz := 24) S (by kernel_rfl) rfl ((M.outAt 2 rfl).2.1.1) rfl (by first | omega | exact ⟨Int.natCast_nonneg _, Int.ofNat_lt.2 hnl⟩)) ?_; clear S a; intro a S
  try simp only [Int.toNat_natCast, Nat.mul_one, Nat.zero_add] at S
  refine qt_y S rfl rfl rfl (fun w M => y_fieldAddr (k := 5) S (by kernel_rfl) rfl) ?_; clear S a; intro a S
  refine qt_y S rfl rfl rfl (fun w M => y_loadAgg S (by kernel_rfl) rfl rfl (show CellsAt _ _ _ [.int .i64 x.1.name.stamp, .int .i64 x.1.name.inc, .int .i64 x.1.name.try_] from ((M.outAt 2 rfl).2.1.1.at_.row (i := n) hr rfl).part 5 3)) ?_; clear S a; intro a S
  refine qt_y S rfl rfl rfl (fun w M => y_fieldAddr (k := 0) S (by kernel_rfl) rfl) ?_; clear S a; intro a S
  refine qt_y S rfl rfl rfl (fun w M => y_loadAgg (cs := [_, _, _]) S (by kernel_rfl) rfl rfl (M.cellsAt (k := 3) 0 rfl rfl)) ?_; clear S a; intro a S
  refine qt_y S rfl rfl rfl (fun w M => y_neqG (by kernel_rfl) S rfl rfl (fun w => equalNm 9998 x.1.name q.1.name w)) ?_; clear S a; intro a S
  refine qt_y S rfl rfl rfl (fun w M => y_pickF S rfl rfl) ?_; clear S a; intro a S
  refine qt_y S rfl rfl rfl (fun w M => y_move S rfl) ?_; clear S a; intro a S
  refine st_if (t := 143) S rfl ?_ ?_
  · clear S; intro h143 S
    exfalso; rw [ht2, Nm.eqb_iff.2 rfl] at h143; cases h143
  clear S; intro h143 S
  refine qt_y S rfl rfl rfl (fun w M => y_fieldAddr (k := 0) S (by kernel_rfl) rfl) ?_; clear S a; intro a S
  refine qt_y S rfl rfl rfl (fun w M => y_load S (by kernel_rfl) rfl (M.cell 1 rfl rfl)) ?_; clear S a; intro a S
  refine qt_y S rfl rfl rfl (fun w M => y_move S rfl) ?_; clear S a; intro a S
  refine qt_y S rfl rfl rfl (fun w M => y_indexR (e := 36) (sz := 24) S (by kernel_rfl) rfl ((M.outAt 2 rfl).2.1.1) rfl (by first | omega | exact ⟨Int.natCast_nonneg _, Int.ofNat_lt.2 hnl⟩)) ?_; clear S a; intro a S
  try simp only [Int.toNat_natCast, Nat.mul_one, Nat.zero_add] at S
  refine qt_y S rfl rfl rfl (fun w M => y_fieldAddr (k := 0) S (by kernel_rfl) rfl) ?_; clear S a; intro a S
  refine qt_y S rfl rfl rfl (fun w M => y_load S (by kernel_rfl) rfl ((M.outAt 2 rfl).2.1.1.at_.row (i := n) hr rfl 0 (show 0 < 24 by decide))) ?_; clear S a; intro a S
  refine qt_y S rfl rfl rfl (fun w M => y_int S rfl rfl rfl) ?_; clear S a; intro a S
  refine qt_y S rfl rfl rfl (fun w M => y_fieldAddr (k := 3) S (by kernel_rfl) rfl) ?_; clear S a; intro a S
  refine qt_y S rfl rfl rfl (fun w M => y_load S (by kernel_rfl) rfl (M.cell 0 rfl rfl)) ?_; clear S a; intro a S
  refine qt_y S rfl rfl rfl (fun w M => y_int S rfl rfl rfl) ?_; clear S a; intro a S
  refine qt_y S rfl rfl rfl (fun w M => y_neqBool (by kernel_rfl) S rfl rfl) ?_; clear S a; intro a S
  refine qt_y S rfl rfl rfl (fun w M => y_pickF S rfl rfl) ?_; clear S a; intro a S
  refine qt_y S rfl rfl rfl (fun w M => y_move S rfl) ?_; clear S a; intro a S
  refine st_if (t := 156) S rfl ?_ ?_
  · clear S; intro h156 S
    exfalso; rw [ht3] at h156
    rcases hp13 with g | g <;> simp [g] at h156
  clear S; intro h156 S
  refine qt_y S rfl rfl rfl (fun w M => y_fieldAddr (k := 0) S (by kernel_rfl) rfl) ?_; clear S a; intro a S
  refine qt_y S rfl rfl rfl (fun w M => y_load S (by kernel_rfl) rfl (M.cell 1 rfl rfl)) ?_; clear S a; intro a S
  refine qt_y S rfl rfl rfl (fun w M => y_move S rfl) ?_; clear S a; intro a S
  refine qt_y S rfl rfl rfl (fun w M => y_indexR (e := 36) (sz := 24) S (by kernel_rfl) rfl ((M.outAt 2 rfl).2.1.1) rfl (by first | omega | exact ⟨Int.natCast_nonneg _, Int.ofNat_lt.2 hnl⟩)) ?_; clear S a; intro a S
  try simp only [Int.toNat_natCast, Nat.mul_one, Nat.zero_add] at S
  refine qt_y S rfl rfl rfl (fun w M => y_fieldAddr (k := 20) S (by kernel_rfl) rfl) ?_; clear S a; intro a S
  refine qt_y S rfl rfl rfl (fun w M => y_load S (by kernel_rfl) rfl ((M.outAt 2 rfl).2.1.1.at_.row (i := n) hr rfl 20 (show 20 < 24 by decide))) ?_; clear S a; intro a S
  refine qt_y S rfl rfl rfl (fun w M => y_fieldAddr (k := 3) S (by kernel_rfl) rfl) ?_; clear S a; intro a S
  refine qt_y S rfl rfl rfl (fun w M => y_load S (by kernel_rfl) rfl (M.cell 0 rfl rfl)) ?_; clear S a; intro a S
  refine qt_y S rfl rfl rfl (fun w M => y_int S rfl rfl rfl) ?_; clear S a; intro a S
  refine qt_y S rfl rfl rfl (fun w M => y_neqBool (by kernel_rfl) S rfl rfl) ?_; clear S a; intro a S
  refine qt_y S rfl rfl rfl (fun w M => y_pickF S rfl rfl) ?_; clear S a; intro a S
  refine wpQuiet_nil ?_; clear M; intro w22 M
  replace S := S.sub [(4, _), (9, _), (11, _), (12, _), (69, _), (70, _), (71, _), (76, _), (13, _), (116, _), (167, _)] rfl
  refine then_normal ?_
  refine st_if (t := 167) S rfl ?_ ?_
  · clear S; intro h167 S
    exfalso; rw [ht4] at h167
    rcases hp13 with g | g <;> simp [g] at h167
  clear S; intro h167 S
  refine st_condF S rfl ?_
  refine wp_skip ?_
  refine nxF ?_
  refine st_go [1] S rfl (by kernel_rfl) ?_; clear S a; intro a S
  (first | refine st_y S rfl rfl rfl (y_addN S rfl rfl (by omega)) ?_ | refine st_y S rfl rfl rfl (y_int S rfl rfl rfl) ?_); clear S a; intro a S
  refine st_go [1] S rfl (by kernel_rfl) ?_; clear S a; intro a S
  refine wpList_nil ?_
  refine block_normal ?_
  refine nxF ?_
  refine st_go [1] S rfl (by kernel_rfl) ?_; clear S a; intro a S
  (first | refine st_y S rfl rfl rfl (y_addN S rfl rfl (by omega)) ?_ | refine st_y S rfl rfl rfl (y_int S rfl rfl rfl) ?_); clear S a; intro a S
  refine st_go [1] S rfl (by kernel_rfl) ?_; clear S a; intro a S
  refine nxC ?_
  first
    | (refine ⟨4 - (k + 1), by omega, k + 1, n + 1, lo, hi, by omega, rfl, by rw [bitsK_succ, if_pos hbit, hn, List.length_append]; rfl, ?_, M⟩
       rw [show ((k + 1 + 1 : Nat) : Int) = ((k + 1 : Nat) : Int) + 1 by omega, show ((n + 1 : Nat) : Int) = (n : Int) + 1 by omega]; exact S.sub _ rfl)
    | (have hbit : ¬ bitK (tickB q.1) (k + 1) = true := by
         unfold tickB
         by_cases g1 : q.1.phase = 1
         · rw [if_pos g1, bit_iff hs31 hy31 (by omega)]
           rintro ⟨a, b⟩
           first | exact a h91 | exact h98 b | omega
         · rw [if_neg g1]
           by_cases g3 : q.1.phase = 3
           · rw [if_pos g3, bit_iff hs31 ha31 (by omega)]
             rintro ⟨a, b⟩
             first | exact a h109 | exact h116 b | omega
           · rw [if_neg g3]; exact bit0 _
       refine ⟨4 - (k + 1), by omega, k + 1, n, lo, hi, by omega, rfl, by rw [bitsK_succ, if_neg hbit, hn, List.append_nil], ?_, M⟩
       rw [show ((k + 1 + 1 : Nat) : Int) = ((k + 1 : Nat) : Int) + 1 by omega]; exact S.sub _ rfl)

end Go.Proofs.Ytidpeojkkfmgeaa
