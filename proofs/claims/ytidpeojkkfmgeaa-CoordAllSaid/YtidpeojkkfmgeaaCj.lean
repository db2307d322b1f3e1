/-
  Package coord: Tick, Commit of one that drives nothing.
-/
import Derived.Test.YtidpeojkkfmgeaaCi
namespace Go.Proofs.Ytidpeojkkfmgeaa
open Go.RowKit Go.Sort

/-- what a tick says of one -/
def tickM (q : Dr × List Wr) : Mls :=
  if q.1.phase = 1 then (bitsK (andNotV q.1.shards q.1.yes) 4).map (prepM q.1 q.2) else if q.1.phase = 3 then (bitsK (andNotV q.1.shards q.1.acks) 4).map (decM q.1.name true) else []
theorem tickM_len (q : Dr × List Wr) : (tickM q).length ≤ 4 := by
  unfold tickM
  split
  · rw [List.length_map]; exact bits_small _
  · split
    · rw [List.length_map]; exact bits_small _
    · simp
theorem ticks_len : ∀ (l : Dl), (l.flatMap tickM).length ≤ 4 * l.length
  | [] => by simp
  | q :: l => by
    have := ticks_len l
    have := tickM_len q
    rw [List.flatMap_cons, List.length_append, List.length_cons]; omega
theorem take_flat {ds : Dl} {k : Nat} {q : Dr × List Wr} (hq : ds[k]? = some q) : (ds.take (k + 1)).flatMap tickM = (ds.take k).flatMap tickM ++ tickM q := by rw [take_snoc hq, List.flatMap_append]; simp
set_option maxHeartbeats 2000000 in
theorem tick_any (va : Option Addr) (vc : Nat) (cs : List Value) (ds : Dl) (w : World) (hv : RowC drS cs 0 w.heap.size w (.slice va ds.length vc) ds) (hb : ∀ q ∈ ds, q.1.shards ≤ 9223372036854775807) :
    Calls Try.prog 17 #[.agg #[.slice va ds.length vc]] w fun e w' => ∃ er r, ResP w e w' er r ∧ ((er = 0 ∧ machB ds = true ∧ r = (ds, ds.flatMap tickM, [], [])) ∨ (er ≠ 0 ∧ ¬ machB ds = true)) := by
  obtain ⟨E, hE, hE0⟩ := machE ds
  have M := Mem.start w
  refine calls_enter Try.func17 rfl 57 rfl rfl ?_; intro a S
  refine nxD ?_
  refine st_box S M rfl rfl rfl #[_] rfl ?_; clear S M a; intro a w1 bC S M hB
  refine st_alloc S M rfl rfl #[.slice none 0 0] (by kernel_rfl) ?_; clear S M a; intro a w2 bR S M hB
  refine st_alloc S M rfl rfl #[.slice none 0 0, .slice none 0 0, .slice none 0 0] (by kernel_rfl) ?_; clear S M a; intro a w3 bT S M hB
  refine st_go [1] S rfl (by kernel_rfl) ?_; clear S a; intro a S
  refine nxC ?_
  refine wp_seq ?_
  refine nxD ?_
  refine st_y S rfl rfl rfl (y_loadAgg (cs := [_]) S (by kernel_rfl) rfl rfl (M.cellsAt (k := 1) 2 rfl rfl)) ?_; clear S a; intro a S
  refine st_call (xs := [(Operand.tmp 8)]) S (enters_of Try.func7 (by decide) rfl) rfl rfl rfl (checkE_any va vc cs ds hE _ (M.rowsW hv) hb) ?_
  rintro _ w4 ⟨rfl, hK⟩; refine ⟨_, rfl, ?_⟩; clear S a; intro a S; replace M := M.grow hK
  refine st_go [1] S rfl (by kernel_rfl) ?_; clear S a; intro a S
  refine nxC ?_
  refine st_if (t := 10) S rfl ?_ ?_
  · clear S; intro h10 S
    refine st_condT S rfl ?_
    refine nxD ?_
    refine st_y S rfl rfl rfl (y_build (ps := []) (pl := [(0, 1)]) (z := [.slice none 0 0]) (cs := [_]) S (by kernel_rfl) rfl (rfl)) ?_; clear S a; intro a S
    refine st_y S rfl rfl rfl (y_build (ps := []) (pl := [(0, 1), (1, 1), (2, 1)]) (z := [.slice none 0 0, .slice none 0 0, .slice none 0 0]) (cs := [_, _, _]) S (by kernel_rfl) rfl (rfl)) ?_; clear S a; intro a S
    refine st_store (sz := 1) (us := [_]) S M 1 rfl (by kernel_rfl) rfl rfl rfl rfl rfl rfl (by first | decide | (simp; done) | (simp; omega)) ?_; clear M; intro w5 M
    simp only [putL, List.set_cons_zero, List.set_cons_succ, Nat.reduceAdd] at M
    refine st_store (sz := 3) (us := [_, _, _]) S M 0 rfl (by kernel_rfl) rfl rfl rfl rfl rfl rfl (by first | decide | (simp; done) | (simp; omega)) ?_; clear M; intro w6 M
    simp only [putL, List.set_cons_zero, List.set_cons_succ, Nat.reduceAdd] at M
    refine st_go [1] S rfl (by kernel_rfl) ?_; clear S a; intro a S
    refine nxC ?_
    refine wp_ret ?_
    refine then_ret ?_
    refine end_three S rfl (res_agg (cs := [_]) (by kernel_rfl) rfl rfl (M.cellsAt (k := 1) 1 rfl rfl)) (res_agg (cs := [_, _, _]) (by kernel_rfl) rfl rfl (M.cellsAt (k := 3) 0 rfl rfl)) (res_tmp rfl) ?_
    refine ⟨2, _, res_nil M.below, .inr ⟨by omega, ?_⟩⟩
    rcases hE0 with ⟨h, -⟩ | ⟨-, h⟩
    · exfalso; omega
    · exact h
  clear S; intro h10 S
  refine st_condF S rfl ?_
  refine wp_skip ?_
  refine then_normal ?_
  refine wp_seq ?_
  have hmac : machB ds = true := by
    rcases hE0 with ⟨-, h⟩ | ⟨h, -⟩
    · exact h
    · exfalso; omega
  obtain ⟨hl8, hx8⟩ := mach_short hmac
  have hdr := (machB_iff.1 hmac).2.1
  have hfl := ticks_len ds
  refine wp_region_lit ?_
  refine st_y S rfl rfl rfl (y_loadAgg (cs := [_]) S (by kernel_rfl) rfl rfl (M.cellsAt (k := 1) 2 rfl rfl)) ?_; clear S a; intro a S
  refine st_call (xs := [(Operand.tmp 13)]) S (enters_of Try.func25 (by decide) rfl) rfl rfl rfl (begin_any va vc cs ds _ (M.rowsW hv) (by omega) hx8) ?_
  rintro _ w7 ⟨bB, es, rfl, W1⟩; refine ⟨_, rfl, ?_⟩; clear S a; intro a S; replace W1 := W1.beh M; clear M; have W2 := W1
  obtain ⟨la, ln, lc, llo, lhi, lcs, ma, mc, mlo, mhi, mcs, ka, kc, klo, khi, kcs, ea, ec, elo, ehi, ecs, hln, M, hD, hM, hK0, hEn⟩ := W2
  subst hln
  refine st_go [1] S rfl (by kernel_rfl) ?_; clear S a; intro a S
  refine nxC ?_
  refine wp_seq ?_
  refine wp_seq ?_
  skip
  refine wp_region_lit ?_
  refine st_run [1, 1, 1, 1, 1] S M rfl (by kernel_rfl) ?_; clear S a; intro a S
  refine st_y S rfl rfl rfl (y_lenS (E := 59) S rfl (by kernel_rfl)) ?_; clear S a; intro a S
  refine st_go [1] S rfl (by kernel_rfl) ?_; clear S a; intro a S
  refine nxC ?_
  refine wp_block ?_
  refine wp_loop_g (fun m a w' => ∃ (k : Nat) (es' : List Ent), k ≤ ds.length ∧ m = ds.length - k ∧ Sees 57 a [(2, .pointer (some ⟨bR, 0, none⟩)), (3, .pointer (some ⟨bT, 0, none⟩)), (5, .pointer (some ⟨bB, 0, none⟩)), (19, .slice la ds.length lc), (20, .int .i64 (ds.length : Int)), (21, .int .i64 (k : Int))] ∧ MacF la ds.length lc llo lhi lcs w w' [.blk bT #[.slice none 0 0, .slice none 0 0, .slice none 0 0] 41, .blk bR #[.slice none 0 0] 24, .blk bC #[.slice va ds.length vc] 24] bB ds ((ds.take k).flatMap tickM) [] [] es') (ds.length) ?_ ?_
  · skip
    exact ⟨0, es, Nat.zero_le _, rfl, S.sub _ rfl, ma, mc, mlo, mhi, mcs, ka, kc, klo, khi, kcs, ea, ec, elo, ehi, ecs, rfl, M, hD, hM, hK0, hEn⟩
  clear S M a; intro m a wl
  clear hD hM hK0 hEn
  rintro ⟨k, es', hk, rfl, S, W1⟩
  have W2 := W1
  obtain ⟨ma, mc, mlo, mhi, mcs, ka, kc, klo, khi, kcs, ea, ec, elo, ehi, ecs, -, M, hD, hM, hK0, hEn⟩ := W2
  have htk : ((ds.take k).flatMap tickM).length ≤ 90000 := by have := ticks_len (ds.take k); rw [List.length_take] at this; omega
  refine nxD ?_
  refine st_go [1] S rfl (by kernel_rfl) ?_; clear S a; intro a S
  refine nxC ?_
  refine wp_seq ?_
  refine st_fi (t := 22) S rfl ?_ ?_
  · clear S; intro h22 S
    refine st_condF S rfl ?_
    refine wp_exit ?_
    refine then_exit ?_
    refine then_exit ?_
    refine block_hit ?_
    refine then_normal ?_
    refine wp_seq ?_
    obtain rfl : k = ds.length := by omega
    rw [List.take_length] at *
    refine wp_regionKC (C := fun W => Blk W bB #[.slice la ds.length lc, .slice ma (ds.flatMap tickM).length mc, .slice ka ([] : Kl).length kc, .slice ea ([] : El).length ec] 71) [8, 9] #[false, false, false, false, false, false, false, false, false, false, false] rfl M (by kernel_rfl) ?_; clear M; intro w12 M; have hC := M.blk 0 rfl
    refine kc_readC (listed' := #[true, false, false, false, false, false, false, false, false, false, false]) 0 S rfl rfl rfl rfl (by kernel_rfl) rfl (fun _ d _ _ _ h => by cases d <;> exact h) hC (fun w _ => y_move S rfl) ?_; clear S a; intro a S
    refine kc_readC (listed' := #[true, true, false, false, false, false, false, false, false, false, false]) 1 S rfl rfl rfl rfl (by kernel_rfl) rfl (fun _ d _ _ _ h => by cases d <;> exact h) hC (fun w _ => y_nilCheck S rfl) ?_; clear S a; intro a S
    refine kc_readC (listed' := #[true, true, true, false, false, false, false, false, false, false, false]) 2 S rfl rfl rfl rfl (by kernel_rfl) rfl (fun _ d _ _ _ h => by cases d <;> exact h) hC (fun w _ => y_fieldAddr (k := 0) S (by kernel_rfl) rfl) ?_; clear S a; intro a S
    refine kc_readC (listed' := #[true, true, true, true, false, false, false, false, false, false, false]) 3 S rfl rfl rfl rfl (by kernel_rfl) rfl (fun _ d _ _ _ h => by cases d <;> exact h) hC (fun w hC => y_loadAgg (cs := [_]) S (by kernel_rfl) rfl rfl (Blk.cellsAt (o := 0) (k := 1) hC rfl)) ?_; clear S a; intro a S
    refine kc_readC (listed' := #[true, true, true, true, true, false, false, false, false, false, false]) 4 S rfl rfl rfl rfl (by kernel_rfl) rfl (fun _ d _ _ _ h => by cases d <;> exact h) hC (fun w _ => y_move S rfl) ?_; clear S a; intro a S
    refine kc_readC (listed' := #[true, true, true, true, true, true, false, false, false, false, false]) 5 S rfl rfl rfl rfl (by kernel_rfl) rfl (fun _ d _ _ _ h => by cases d <;> exact h) hC (fun w _ => y_nilCheck S rfl) ?_; clear S a; intro a S
    refine kc_readC (listed' := #[true, true, true, true, true, true, true, false, false, false, false]) 6 S rfl rfl rfl rfl (by kernel_rfl) rfl (fun _ d _ _ _ h => by cases d <;> exact h) hC (fun w _ => y_fieldAddr (k := 1) S (by kernel_rfl) rfl) ?_; clear S a; intro a S
    refine kc_readC (listed' := #[true, true, true, true, true, true, true, true, false, false, false]) 7 S rfl rfl rfl rfl (by kernel_rfl) rfl (fun _ d _ _ _ h => by cases d <;> exact h) hC (fun w hC => y_loadAgg (cs := [_, _, _]) S (by kernel_rfl) rfl rfl (Blk.cellsAt (o := 1) (k := 3) hC rfl)) ?_; clear S a; intro a S
    refine kc_one (listed' := #[true, true, true, true, true, true, true, true, true, false, false]) 8 rfl (by kernel_rfl) rfl ?_
    refine st_store (sz := 1) (us := [_]) S M 6 rfl (by kernel_rfl) rfl rfl rfl rfl rfl rfl (by first | decide | (simp; done) | (simp; omega)) ?_; clear M; intro w13 M
    simp only [putL, List.set_cons_zero, List.set_cons_succ, Nat.reduceAdd] at M
    replace hC := M.blk 0 rfl
    refine wpList_nil ?_; refine then_normal ?_; refine ⟨fun h => absurd h (by decide), hC, ?_⟩
    refine kc_one (listed' := #[true, true, true, true, true, true, true, true, true, true, false]) 9 rfl (by kernel_rfl) rfl ?_
    refine st_store (sz := 3) (us := [_, _, _]) S M 5 rfl (by kernel_rfl) rfl rfl rfl rfl rfl rfl (by first | decide | (simp; done) | (simp; omega)) ?_; clear M; intro w14 M
    simp only [putL, List.set_cons_zero, List.set_cons_succ, Nat.reduceAdd] at M
    replace hC := M.blk 0 rfl
    refine wpList_nil ?_; refine then_normal ?_; refine ⟨fun h => absurd h (by decide), hC, ?_⟩
    refine kc_readC (listed' := #[true, true, true, true, true, true, true, true, true, true, true]) 10 S rfl rfl rfl rfl (by kernel_rfl) rfl (fun _ d _ _ _ h => by cases d <;> exact h) hC (fun w _ => y_assign S rfl) ?_; clear S a; intro a S
    refine kc_end (by kernel_rfl) ?_
    refine then_normal ?_
    refine wp_ret ?_
    refine end_three S rfl (res_agg (cs := [_]) (by kernel_rfl) rfl rfl (M.cellsAt (k := 1) 6 rfl rfl)) (res_agg (cs := [_, _, _]) (by kernel_rfl) rfl rfl (M.cellsAt (k := 3) 5 rfl rfl)) (res_tmp rfl) ?_
    exact ⟨0, (ds, ds.flatMap tickM, [], []), ⟨_, _, _, _, rfl, M.below, out_of M (List.mem_of_getElem? (show _[1]? = _ from rfl)) (List.mem_of_getElem? (show _[2]? = _ from rfl)) (List.mem_of_getElem? (show _[3]? = _ from rfl)) (List.mem_of_getElem? (show _[4]? = _ from rfl)) (fun e he => by simp [he]) hD hM hK0 hEn (by unfold maxLen; omega) (by unfold maxLen; omega) (by unfold maxLen; simp) (by unfold maxLen; simp)⟩, .inl ⟨rfl, hmac, rfl⟩⟩
  clear S; intro h22 S
  refine st_condT S rfl ?_
  refine wp_skip ?_
  refine then_normal ?_
  refine wp_seq ?_
  refine wp_block ?_
  refine wp_seq ?_
  have hk' : k < ds.length := by omega
  obtain ⟨q, hq⟩ : ∃ q, ds[k]? = some q := ⟨_, List.getElem?_eq_getElem hk'⟩
  obtain ⟨dl, hrow0, hdw⟩ := hD.at hq
  obtain ⟨da, dc, rfl, -⟩ := hdw.form
  have hrow : (lcs.drop (k * 10)).take 10 = (q.1.cells (.slice da q.2.length dc)).toList := hrow0
  have hcs : q.1.cs < 8 := by
    have := (drOk_iff.1 (hdr q (List.mem_of_getElem? hq))).2.2.2.2.2.2.2.1
    unfold changesB at this
    split at this
    · omega
    · simp at this; omega
  refine wp_region_lit ?_
  refine st_y S rfl rfl rfl (y_indexR (e := 59) (sz := 10) S (by kernel_rfl) rfl ((M.readRow 1 rfl (by unfold maxLen; omega))) rfl (by first | omega | (simp; done) | (simp; omega))) ?_; clear S a; intro a S
  try simp only [Int.toNat_natCast, Nat.mul_one, Nat.zero_add] at S
  refine st_y S rfl rfl rfl (y_loadAgg S (by kernel_rfl) rfl rfl ((M.readRow 1 rfl (by unfold maxLen; omega)).at_.row (i := k) hrow rfl)) ?_; clear S a; intro a S
  refine st_alloc S M rfl rfl #[.int .i64 0, .int .i64 0, .int .i64 0, .int .i8 0, .int .i64 0, .int .i64 0, .int .i64 0, .int .i64 0, .int .i64 0, .slice none 0 0] (by kernel_rfl) ?_; clear S M a; intro a w8 bD S M hB
  refine st_store (sz := 10) (us := [_, _, _, _, _, _, _, _, _, _]) S M 0 rfl (by kernel_rfl) rfl rfl rfl rfl rfl rfl (by first | decide | (simp; done) | (simp; omega)) ?_; clear M; intro w9 M
  simp only [putL, List.set_cons_zero, List.set_cons_succ, Nat.reduceAdd] at M
  refine nxA ?_
  refine st_run [4, 1] S M rfl (by kernel_rfl) ?_; clear S a; intro a S
  refine nxC ?_
  refine wp_block ?_
  refine nxD ?_
  refine st_go [1, 1] S rfl (by kernel_rfl) ?_; clear S a; intro a S
  refine nxC ?_
  refine st_if (t := 27) S rfl ?_ ?_
  · clear S; intro h27 S
    refine st_condT S rfl ?_
    refine wp_region_lit ?_
    refine st_go [1] S rfl (by kernel_rfl) ?_; clear S a; intro a S
    refine st_y S rfl rfl rfl (y_loadAgg (cs := [_, _, _, _, _, _, _, _, _, _]) S (by kernel_rfl) rfl rfl (M.cellsAt (k := 10) 0 rfl rfl)) ?_; clear S a; intro a S
    refine st_run [5, 1, 6, 1] S M rfl (by kernel_rfl) ?_; clear S a; intro a S
    refine st_y S rfl rfl rfl (y_andNot S rfl rfl) ?_; clear S a; intro a S
    refine st_call (xs := [(Operand.tmp 29), (Operand.tmp 30), (Operand.tmp 35)]) S (enters_of Try.func42 (by decide) rfl) rfl rfl rfl (preparesF_any (H := .blk bD (q.1.cells (.slice da q.2.length dc)) 59 :: [.blk bT #[.slice none 0 0, .slice none 0 0, .slice none 0 0] 41, .blk bR #[.slice none 0 0] 24, .blk bC #[.slice va ds.length vc] 24]) ⟨ma, mc, mlo, mhi, mcs, ka, kc, klo, khi, kcs, ea, ec, elo, ehi, ecs, rfl, M.perm perm5, hD, hM, hK0, hEn⟩ q.1 _ q.2 (andNotV q.1.shards q.1.yes) htk hdw hcs) ?_
    rintro _ w10 ⟨rfl, es2, -, W4⟩; refine ⟨_, rfl, ?_⟩; clear S a; intro a S
    refine wpList_nil ?_
    refine block_normal ?_
    refine block_normal ?_
    refine nxF ?_
    (first | refine st_y S rfl rfl rfl (y_addN S rfl rfl (by omega)) ?_ | refine st_y S rfl rfl rfl (y_int S rfl rfl rfl) ?_); clear S a; intro a S
    refine st_go [1] S rfl (by kernel_rfl) ?_; clear S a; intro a S
    replace S := S.sub [(2, _), (3, _), (5, _), (19, _), (20, _), (22, _), (7, _), (26, _), (27, _), (21, _)] rfl
    refine nxC ?_
    have hts := take_flat hq
    have ht1 : q.1.phase = 1 → tickM q = (bitsK (andNotV q.1.shards q.1.yes) 4).map (prepM q.1 q.2) := fun h => by unfold tickM; rw [if_pos h]
    have ht3 : q.1.phase = 3 → tickM q = (bitsK (andNotV q.1.shards q.1.acks) 4).map (decM q.1.name true) := fun h => by unfold tickM; rw [if_neg (by omega), if_pos h]
    have ht0 : q.1.phase ≠ 1 → q.1.phase ≠ 3 → tickM q = [] := fun h1 h3 => by unfold tickM; rw [if_neg h1, if_neg h3]
    first
      | exact ⟨ds.length - (k + 1), by omega, k + 1, es2, by omega, rfl, S.sub _ rfl, by rw [hts, ht1 (by omega)]; exact W4.less (.cons _ (List.Sublist.refl _))⟩
      | exact ⟨ds.length - (k + 1), by omega, k + 1, es', by omega, rfl, S.sub _ rfl, by rw [hts, ht3 (by omega)]; exact W4.less (.cons _ (List.Sublist.refl _))⟩
      | exact ⟨ds.length - (k + 1), by omega, k + 1, es', by omega, rfl, S.sub _ rfl, by rw [hts, ht0 (by omega) (by omega), List.append_nil]; exact MacF.less (H := .blk bD (q.1.cells (.slice da q.2.length dc)) 59 :: [.blk bT #[.slice none 0 0, .slice none 0 0, .slice none 0 0] 41, .blk bR #[.slice none 0 0] 24, .blk bC #[.slice va ds.length vc] 24]) ⟨ma, mc, mlo, mhi, mcs, ka, kc, klo, khi, kcs, ea, ec, elo, ehi, ecs, rfl, M.perm perm5, hD, hM, hK0, hEn⟩ (.cons _ (List.Sublist.refl _))⟩
  clear S; intro h27 S
  refine st_condF S rfl ?_
  refine nxD ?_
  refine st_go [1, 1] S rfl (by kernel_rfl) ?_; clear S a; intro a S
  refine nxC ?_
  refine st_fi (t := 37) S rfl ?_ ?_
  · clear S; intro h37 S
    refine st_condF S rfl ?_
    refine wp_skip ?_
    refine block_normal ?_
    refine block_normal ?_
    refine nxF ?_
    (first | refine st_y S rfl rfl rfl (y_addN S rfl rfl (by omega)) ?_ | refine st_y S rfl rfl rfl (y_int S rfl rfl rfl) ?_); clear S a; intro a S
    refine st_go [1] S rfl (by kernel_rfl) ?_; clear S a; intro a S
    refine nxC ?_
    have hts := take_flat hq
    have ht1 : q.1.phase = 1 → tickM q = (bitsK (andNotV q.1.shards q.1.yes) 4).map (prepM q.1 q.2) := fun h => by unfold tickM; rw [if_pos h]
    have ht3 : q.1.phase = 3 → tickM q = (bitsK (andNotV q.1.shards q.1.acks) 4).map (decM q.1.name true) := fun h => by unfold tickM; rw [if_neg (by omega), if_pos h]
    have ht0 : q.1.phase ≠ 1 → q.1.phase ≠ 3 → tickM q = [] := fun h1 h3 => by unfold tickM; rw [if_neg h1, if_neg h3]
    first
      | exact ⟨ds.length - (k + 1), by omega, k + 1, es2, by omega, rfl, S.sub _ rfl, by rw [hts, ht1 (by omega)]; exact W4.less (.cons _ (List.Sublist.refl _))⟩
      | exact ⟨ds.length - (k + 1), by omega, k + 1, es', by omega, rfl, S.sub _ rfl, by rw [hts, ht3 (by omega)]; exact W4.less (.cons _ (List.Sublist.refl _))⟩
      | exact ⟨ds.length - (k + 1), by omega, k + 1, es', by omega, rfl, S.sub _ rfl, by rw [hts, ht0 (by omega) (by omega), List.append_nil]; exact MacF.less (H := .blk bD (q.1.cells (.slice da q.2.length dc)) 59 :: [.blk bT #[.slice none 0 0, .slice none 0 0, .slice none 0 0] 41, .blk bR #[.slice none 0 0] 24, .blk bC #[.slice va ds.length vc] 24]) ⟨ma, mc, mlo, mhi, mcs, ka, kc, klo, khi, kcs, ea, ec, elo, ehi, ecs, rfl, M.perm perm5, hD, hM, hK0, hEn⟩ (.cons _ (List.Sublist.refl _))⟩
  clear S; intro h37 S
  refine st_condT S rfl ?_
  refine wp_region_lit ?_
  refine st_go [1, 1] S rfl (by kernel_rfl) ?_; clear S a; intro a S
  refine st_y S rfl rfl rfl (y_loadAgg (cs := [_, _, _]) S (by kernel_rfl) rfl rfl (M.cellsAt (k := 3) 0 rfl rfl)) ?_; clear S a; intro a S
  refine st_run [5, 1, 7, 1] S M rfl (by kernel_rfl) ?_; clear S a; intro a S
  refine st_y S rfl rfl rfl (y_andNot S rfl rfl) ?_; clear S a; intro a S
  refine st_call (xs := [(Operand.tmp 39), (Operand.tmp 41), (Operand.tmp 46), (Operand.const (Value.bool true))]) S (enters_of Try.func45 (by decide) rfl) rfl rfl rfl (decidesF_any (H := .blk bD (q.1.cells (.slice da q.2.length dc)) 59 :: [.blk bT #[.slice none 0 0, .slice none 0 0, .slice none 0 0] 41, .blk bR #[.slice none 0 0] 24, .blk bC #[.slice va ds.length vc] 24]) ⟨ma, mc, mlo, mhi, mcs, ka, kc, klo, khi, kcs, ea, ec, elo, ehi, ecs, rfl, M.perm perm5, hD, hM, hK0, hEn⟩ q.1.name (andNotV q.1.shards q.1.acks) true htk) ?_
  rintro _ w11 ⟨rfl, W4⟩; refine ⟨_, rfl, ?_⟩; clear S a; intro a S
  replace S := S.sub [(2, _), (3, _), (5, _), (19, _), (20, _), (21, _), (22, _), (7, _), (26, _), (27, _), (37, _)] rfl
  refine wpList_nil ?_
  refine block_normal ?_
  refine block_normal ?_
  refine nxF ?_
  (first | refine st_y S rfl rfl rfl (y_addN S rfl rfl (by omega)) ?_ | refine st_y S rfl rfl rfl (y_int S rfl rfl rfl) ?_); clear S a; intro a S
  refine st_go [1] S rfl (by kernel_rfl) ?_; clear S a; intro a S
  refine nxC ?_
  have hts := take_flat hq
  have ht1 : q.1.phase = 1 → tickM q = (bitsK (andNotV q.1.shards q.1.yes) 4).map (prepM q.1 q.2) := fun h => by unfold tickM; rw [if_pos h]
  have ht3 : q.1.phase = 3 → tickM q = (bitsK (andNotV q.1.shards q.1.acks) 4).map (decM q.1.name true) := fun h => by unfold tickM; rw [if_neg (by omega), if_pos h]
  have ht0 : q.1.phase ≠ 1 → q.1.phase ≠ 3 → tickM q = [] := fun h1 h3 => by unfold tickM; rw [if_neg h1, if_neg h3]
  first
    | exact ⟨ds.length - (k + 1), by omega, k + 1, es2, by omega, rfl, S.sub _ rfl, by rw [hts, ht1 (by omega)]; exact W4.less (.cons _ (List.Sublist.refl _))⟩
    | exact ⟨ds.length - (k + 1), by omega, k + 1, es', by omega, rfl, S.sub _ rfl, by rw [hts, ht3 (by omega)]; exact W4.less (.cons _ (List.Sublist.refl _))⟩
    | exact ⟨ds.length - (k + 1), by omega, k + 1, es', by omega, rfl, S.sub _ rfl, by rw [hts, ht0 (by omega) (by omega), List.append_nil]; exact MacF.less (H := .blk bD (q.1.cells (.slice da q.2.length dc)) 59 :: [.blk bT #[.slice none 0 0, .slice none 0 0, .slice none 0 0] 41, .blk bR #[.slice none 0 0] 24, .blk bC #[.slice va ds.length vc] 24]) ⟨ma, mc, mlo, mhi, mcs, ka, kc, klo, khi, kcs, ea, ec, elo, ehi, ecs, rfl, M.perm perm5, hD, hM, hK0, hEn⟩ (.cons _ (List.Sublist.refl _))⟩

end Go.Proofs.Ytidpeojkkfmgeaa
