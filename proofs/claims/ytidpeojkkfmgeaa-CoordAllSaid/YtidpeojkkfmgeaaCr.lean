/-
  law21: CoordAll.
-/
import Derived.Test.YtidpeojkkfmgeaaCq
namespace Go.Proofs.Ytidpeojkkfmgeaa
open Go.RowKit Go.Sort

/-- one of the shards 1 to 4, of any number -/
theorem shard_of (z : Int) : ∃ k : Nat, (1 : Int) + ((z.tmod 4 + 4) % 4) = (k : Int) ∧ 1 ≤ k ∧ k ≤ 4 := by
  have h1 : -4 < z.tmod 4 ∧ z.tmod 4 < 4 := ⟨Int.lt_tmod_of_pos z (by decide), Int.tmod_lt_of_pos z (by decide)⟩
  have h3 := Int.emod_nonneg (z.tmod 4 + 4) (show (4 : Int) ≠ 0 by decide)
  have h4 := Int.emod_lt_of_pos (z.tmod 4 + 4) (show (0 : Int) < 4 by decide)
  refine ⟨(1 + (z.tmod 4 + 4) % 4).toNat, by omega, by omega, by omega⟩
theorem tmod_bd (z : Int) : -4 < z.tmod 4 ∧ z.tmod 4 < 4 := ⟨Int.lt_tmod_of_pos z (by decide), Int.tmod_lt_of_pos z (by decide)⟩
theorem tmod_bd2 (z : Int) (h : 0 ≤ z) : 0 ≤ z.tmod 4 ∧ z.tmod 4 < 4 := ⟨Int.tmod_nonneg 4 h, Int.tmod_lt_of_pos z (by decide)⟩
theorem shl4 {k : Nat} (h : 1 ≤ k ∧ k ≤ 4) : -9223372036854775808 ≤ 1 * (2 : Int) ^ k ∧ 1 * (2 : Int) ^ k ≤ 9223372036854775807 := by
  have : k = 1 ∨ k = 2 ∨ k = 3 ∨ k = 4 := by omega
  rcases this with rfl | rfl | rfl | rfl <;> decide
theorem bool_ne {a b : Bool} (h : a = b) : (a != b) = true → False := by subst h; simp

set_option maxHeartbeats 4000000 in
theorem all21_any (n : Int) (va vb : Option Addr) (vc vd : Nat) (zs ys : List Int) (w : World) (hn : n ≤ 9223372036854775807) (hv : Rd 0 w.heap.size w 1 (.slice va zs.length vc) zs.length (icells zs)) (hu : Rd 0 w.heap.size w 1 (.slice vb ys.length vd) ys.length (icells ys)) :
    Calls Try.prog 4 #[.int .i64 n, .slice va zs.length vc, .slice vb ys.length vd] w fun e w' => e = .returned (.bool true) ∧ Below w.heap.size w w' := by
  have M := Mem.start w
  refine calls_enter Try.func4 rfl 182 rfl rfl ?_; intro a S
  refine nxD ?_
  refine st_go [1] S rfl (by kernel_rfl) ?_; clear S a; intro a S
  refine nxC ?_
  refine wp_seq ?_
  refine nxD ?_
  refine st_go [1] S rfl (by kernel_rfl) ?_; clear S a; intro a S
  refine st_y S rfl rfl rfl (y_lenS (E := 3) S rfl (by kernel_rfl)) ?_; clear S a; intro a S
  refine st_go [1, 1] S rfl (by kernel_rfl) ?_; clear S a; intro a S
  refine st_if (t := 29) S rfl ?_ ?_
  · clear S; intro h29 S
    refine st_go [0, 0, 0, 1] S rfl (by kernel_rfl) ?_; clear S a; intro a S
    refine nxC ?_
    refine st_condT S rfl ?_
    refine nxD ?_
    refine st_call (xs := []) S (enters_of Try.func8 (by decide) rfl) rfl rfl rfl (wakes21_any _) ?_
    rintro _ w1 ⟨rfl, hK⟩; refine ⟨_, rfl, ?_⟩; clear S a; intro a S; replace M := M.grow hK
    refine st_go [1] S rfl (by kernel_rfl) ?_; clear S a; intro a S
    refine nxC ?_
    refine wp_ret ?_
    refine then_ret ?_
    refine end_one S rfl (res_tmp rfl) ?_
    exact ⟨rfl, M.below⟩
  clear S; intro h29 S
  refine st_go [1] S rfl (by kernel_rfl) ?_; clear S a; intro a S
  refine st_y S rfl rfl rfl (y_lenS (E := 3) S rfl (by kernel_rfl)) ?_; clear S a; intro a S
  refine st_go [1, 1] S rfl (by kernel_rfl) ?_; clear S a; intro a S
  refine nxC ?_
  refine st_if (t := 33) S rfl ?_ ?_
  · clear S; intro h33 S
    refine st_condT S rfl ?_
    refine nxD ?_
    refine st_call (xs := []) S (enters_of Try.func8 (by decide) rfl) rfl rfl rfl (wakes21_any _) ?_
    rintro _ w2 ⟨rfl, hK⟩; refine ⟨_, rfl, ?_⟩; clear S a; intro a S; replace M := M.grow hK
    refine st_go [1] S rfl (by kernel_rfl) ?_; clear S a; intro a S
    refine nxC ?_
    refine wp_ret ?_
    refine then_ret ?_
    refine end_one S rfl (res_tmp rfl) ?_
    exact ⟨rfl, M.below⟩
  clear S; intro h33 S
  refine st_condF S rfl ?_
  refine wp_skip ?_
  refine nxE ?_
  refine st_y S rfl rfl rfl (y_build (ps := []) (pl := [(0, 1)]) (z := [.slice none 0 0]) (cs := [_]) S (by kernel_rfl) rfl (rfl)) ?_; clear S a; intro a S
  refine st_call (xs := [(Operand.const (Value.int IntKind.i64 1))]) S (enters_of Try.func14 (by decide) rfl) rfl rfl rfl (name21_any 1 _) ?_
  rintro _ w3 ⟨rfl, hK⟩; refine ⟨_, rfl, ?_⟩; clear S a; intro a S; replace M := M.grow hK
  refine st_go [1] S rfl (by kernel_rfl) ?_; clear S a; intro a S
  refine st_y S rfl rfl rfl (y_build (ps := [(0, (Operand.const (Value.int IntKind.i64 (-1))))]) (pl := [(0, 1), (1, 1)]) (z := [.int .i64 0, .int .i64 0]) (cs := [_, _]) S (by kernel_rfl) rfl (rfl)) ?_; clear S a; intro a S
  refine st_call (xs := [(Operand.tmp 36), (Operand.tmp 37), (Operand.tmp 38), (Operand.tmp 39), (Operand.const (Value.slice none 0 0))]) S (enters_of Try.func13 (by decide) rfl) rfl rfl rfl (commit0_any nm1 n _ hn) ?_
  rintro _ w4 ⟨er, r, hR, hc⟩
  obtain ⟨cv, mv, kv, ev, rfl, hK, hO⟩ := hR
  obtain ⟨la, lc, ma, mc, ka, kc, ea, ec, rfl, rfl, rfl, rfl⟩ := hO.form
  obtain ⟨c1, c2, c3, c4, hO⟩ := hO.cells
  refine ⟨_, rfl, ?_⟩; clear S a; intro a S; replace M := M.out hK hO
  refine st_go [1, 1, 1, 1] S rfl (by kernel_rfl) ?_; clear S a; intro a S
  refine st_alloc S M rfl rfl #[.slice none 0 0] (by kernel_rfl) ?_; clear S M a; intro a w5 bC S M hB
  refine st_alloc S M rfl rfl #[.slice none 0 0, .slice none 0 0, .slice none 0 0] (by kernel_rfl) ?_; clear S M a; intro a w6 bT S M hB
  refine st_store (sz := 1) (us := [_]) S M 1 rfl (by kernel_rfl) rfl rfl rfl rfl rfl rfl (by first | decide | (simp; done) | (simp; omega)) ?_; clear M; intro w7 M
  simp only [putL, List.set_cons_zero, List.set_cons_succ, Nat.reduceAdd] at M
  refine st_store (sz := 3) (us := [_, _, _]) S M 0 rfl (by kernel_rfl) rfl rfl rfl rfl rfl rfl (by first | decide | (simp; done) | (simp; omega)) ?_; clear M; intro w8 M
  simp only [putL, List.set_cons_zero, List.set_cons_succ, Nat.reduceAdd] at M
  refine st_go [1] S rfl (by kernel_rfl) ?_; clear S a; intro a S
  replace S := S.sub [(0, _), (1, _), (2, _), (6, _), (33, _), (7, _), (9, _)] rfl
  refine nxC ?_
  refine wp_seq ?_
  refine nxD ?_
  refine st_go [1, 1] S rfl (by kernel_rfl) ?_; clear S a; intro a S
  refine nxC ?_
  refine st_if (t := 45) S rfl ?_ ?_
  · clear S; intro h45 S
    refine st_condT S rfl ?_
    refine nxD ?_
    refine st_go [1, 1, 1] S rfl (by kernel_rfl) ?_; clear S a; intro a S
    refine st_fi (t := 48) S rfl ?_ ?_
    · clear S; intro h48 S
      exfalso
      rcases hc with ⟨h, -⟩ | ⟨h, -⟩ <;> omega
    clear S; intro h48 S
    refine st_call (xs := []) S (enters_of Try.func8 (by decide) rfl) rfl rfl rfl (wakes21_any _) ?_
    rintro _ w9 ⟨rfl, hK⟩; refine ⟨_, rfl, ?_⟩; clear S a; intro a S; replace M := M.grow hK
    refine st_go [1, 1] S rfl (by kernel_rfl) ?_; clear S a; intro a S
    refine nxC ?_
    refine wp_ret ?_
    refine then_ret ?_
    refine end_one S rfl (res_tmp rfl) ?_
    exact ⟨rfl, M.below⟩
  clear S; intro h45 S
  refine st_condF S rfl ?_
  refine wp_skip ?_
  refine then_normal ?_
  refine wp_seq ?_
  obtain ⟨hsh, rfl⟩ : shardsB n = true ∧ r = comR nm1 n := by
    rcases hc with ⟨-, -, h1, h2⟩ | ⟨h, -⟩
    · exact ⟨h1, h2⟩
    · exfalso; omega
  have hn31 : 0 < n ∧ n ≤ 31 := by unfold shardsB at hsh; simp at hsh; omega
  rw [com_stA hn31.1] at M
  refine wp_region_lit ?_
  refine st_go [1] S rfl (by kernel_rfl) ?_; clear S a; intro a S
  refine nxC ?_
  refine wp_seq ?_
  refine nxD ?_
  refine st_go [1] S rfl (by kernel_rfl) ?_; clear S a; intro a S
  refine st_y S rfl rfl rfl (y_lenS (E := 3) S rfl (by kernel_rfl)) ?_; clear S a; intro a S
  refine st_go [1] S rfl (by kernel_rfl) ?_; clear S a; intro a S
  refine nxC ?_
  refine wp_block ?_
  refine wp_loop_g (fun m a w' => ∃ (i : Nat) (s : Int) (la ma ka ea : Option Addr) (lc mn mc kn kc en ec lo hi : Nat) (c1 c2 c3 c4 : List Value) (ml : Mls) (kl : Kl) (el : El), i ≤ zs.length ∧ m = zs.length - i ∧ Within n s ∧ Sees 182 a [(0, .int .i64 n), (2, .slice vb ys.length vd), (7, .pointer (some ⟨bC, 0, none⟩)), (10, .int .i64 s), (51, .slice va zs.length vc), (52, .int .i64 (zs.length : Int)), (53, .int .i64 (i : Int))] ∧ Mem w w' [.blk bC #[.slice la 1 lc] 24, outE c1 c2 c3 c4 lo hi (.slice la 1 lc) (.slice ma mn mc) (.slice ka kn kc) (.slice ea en ec) (stA n s, ml, kl, el)]) (zs.length) ?_ ?_
  · skip
    replace M := M.drop 0
    simp only [List.eraseIdx_cons_succ, List.eraseIdx_cons_zero] at M
    exact ⟨0, 0, la, ma, ka, ea, lc, _, mc, _, kc, _, ec, _, _, c1, c2, c3, c4, _, _, _, Nat.zero_le _, rfl, ⟨by omega, andNot0 n⟩, S.sub _ rfl, M⟩
  clear S M a; intro m a wl
  rintro ⟨i, s, la, ma, ka, ea, lc, mn, mc, kn, kc, en, ec, lo, hi, c1, c2, c3, c4, ml, kl, el, hi', rfl, hs, S, M⟩
  refine nxD ?_
  refine st_go [1] S rfl (by kernel_rfl) ?_; clear S a; intro a S
  refine nxC ?_
  refine wp_seq ?_
  refine st_if (t := 54) S rfl ?_ ?_
  · clear S; intro h54 S
    refine st_condT S rfl ?_
    refine wp_skip ?_
    refine then_normal ?_
    refine wp_seq ?_
    refine wp_block ?_
    refine wp_seq ?_
    obtain ⟨z, hz⟩ : ∃ z, zs[i]? = some z := ⟨_, List.getElem?_eq_getElem (by omega)⟩
    refine wp_region_lit ?_
    refine st_y S rfl rfl rfl (y_indexR (e := 3) (sz := 1) S (by kernel_rfl) rfl ((M.arg hv)) rfl (by first | omega | (simp; done) | (simp; omega))) ?_; clear S a; intro a S
    try simp only [Int.toNat_natCast, Nat.mul_one, Nat.zero_add] at S
    refine st_y S rfl rfl rfl (y_load S (by kernel_rfl) rfl ((M.arg hv).icell (i := i) hz)) ?_; clear S a; intro a S
    refine st_go [1] S rfl (by kernel_rfl) ?_; clear S a; intro a S
    refine nxC ?_
    refine wp_seq ?_
    have hz1 := tmod_bd z
    have hz2 := tmod_bd2 (z.tmod 4 + 4) (by omega)
    obtain ⟨k, hke, hk⟩ := shard_of z
    refine wp_region_lit ?_
    refine st_go [1] S rfl (by kernel_rfl) ?_; clear S a; intro a S
    (first | refine st_y S rfl rfl rfl (y_remN S rfl rfl (by omega)) ?_ | refine st_y S rfl rfl rfl (y_remZ S rfl rfl (by omega)) ?_); clear S a; intro a S
    (first | refine st_y S rfl rfl rfl (y_addN S rfl rfl (by omega)) ?_ | refine st_y S rfl rfl rfl (y_int S rfl rfl rfl) ?_); clear S a; intro a S
    (first | refine st_y S rfl rfl rfl (y_remN S rfl rfl (by omega)) ?_ | refine st_y S rfl rfl rfl (y_remZ S rfl rfl (by omega)) ?_); clear S a; intro a S
    (first | refine st_y S rfl rfl rfl (y_addN S rfl rfl (by omega)) ?_ | refine st_y S rfl rfl rfl (y_int S rfl rfl rfl) ?_); clear S a; intro a S
    refine st_go [1] S rfl (by kernel_rfl) ?_; clear S a; intro a S
    refine nxC ?_
    refine wp_cut (fun a w' => ∃ (bD bT : Nat) (la2 ma2 ka2 ea2 : Option Addr) (lc2 mc2 kc2 ec2 lo2 hi2 : Nat) (d1 d2 d3 d4 : List Value) (kl2 : Kl), ((nxt n s k = n ∧ s ≠ n → kl2.length = 1) ∧ (¬ (nxt n s k = n ∧ s ≠ n) → kl2.length = 0)) ∧ Sees 182 a [(0, .int .i64 n), (2, .slice vb ys.length vd), (7, .pointer (some ⟨bC, 0, none⟩)), (10, .int .i64 s), (13, .int .i64 (k : Int)), (14, .pointer (some ⟨bD, 0, none⟩)), (15, .pointer (some ⟨bT, 0, none⟩)), (16, .int .i64 0), (51, .slice va zs.length vc), (52, .int .i64 (zs.length : Int)), (53, .int .i64 (i : Int))] ∧ Mem w w' [.blk bT #[.slice ma2 0 mc2, .slice ka2 kl2.length kc2, .slice ea2 0 ec2] 41, .blk bD #[.slice la2 1 lc2] 24, .blk bC #[.slice la 1 lc] 24, outE d1 d2 d3 d4 lo2 hi2 (.slice la2 1 lc2) (.slice ma2 0 mc2) (.slice ka2 kl2.length kc2) (.slice ea2 0 ec2) (stA n (nxt n s k), [], kl2, [])]) ?_ ?_
    · skip
      rw [hke] at S
      refine wp_regionK [10, 11] #[false, false, false, false, false, false, false, false, false, false, false, false, false] rfl M (by kernel_rfl) ?_; clear M; intro w10 M
      refine k_read (listed' := #[true, false, false, false, false, false, false, false, false, false, false, false, false]) 0 S rfl rfl rfl rfl (by kernel_rfl) rfl (fun _ d _ _ _ h => by cases d <;> exact h) (fun w hW => have M := M.grow hW; y_loadAgg (cs := [_]) S (by kernel_rfl) rfl rfl (M.cellsAt (k := 1) 0 rfl rfl)) ?_; clear S a; intro a S
      refine k_pure (listed' := #[true, true, false, false, false, false, false, false, false, false, false, false, false]) 1 S rfl rfl rfl rfl (by kernel_rfl) rfl (fun _ d _ _ _ h => by cases d <;> exact h) (fun w => y_move S rfl) ?_; clear S a; intro a S
      refine k_three (l1 := #[true, true, true, false, false, false, false, false, false, false, false, false, false]) (l2 := #[true, true, false, false, false, false, false, false, true, false, false, false, false]) (l3 := #[true, true, false, false, false, false, false, false, false, true, false, false, false]) 2 8 9 rfl rfl rfl (by kernel_rfl) rfl rfl rfl ?_ ?_ ?_
      · skip
        refine st_call (xs := [(Operand.tmp 64), (Operand.const (Value.bool true))]) S (enters_of Try.func15 (by decide) rfl) rfl rfl rfl (vote_any (k : Int) true _) ?_
        rintro _ w11 ⟨rfl, hK⟩; refine ⟨_, rfl, ?_⟩; clear S a; intro a S; replace M := M.grow hK
        refine wpList_nil ?_; refine then_normal ?_; refine ⟨fun _ => hK, ?_⟩
        refine k_three (l1 := #[true, true, true, true, false, false, false, false, false, false, false, false, false]) (l2 := #[true, true, true, false, false, false, false, false, true, false, false, false, false]) (l3 := #[true, true, true, false, false, false, false, false, false, true, false, false, false]) 3 8 9 rfl rfl rfl (by kernel_rfl) rfl rfl rfl ?_ ?_ ?_
        · skip
          refine st_call (xs := [(Operand.tmp 63), (Operand.tmp 65)]) S (enters_of Try.func9 (by decide) rfl) rfl rfl rfl (hearC_any la lc c1 (stA n s) (voteM (k : Int) true) _ [] _ (M.outAt 1 rfl).1 (fun q hq => by simp [stA] at hq; subst hq; show n ≤ _; omega) (Rd.nil _ _ _ _)) ?_
          rintro _ w12 ⟨er2, r2, hR, hc2⟩
          obtain ⟨rfl, hr2⟩ : er2 = 0 ∧ HearP (stA n s) (voteM (k : Int) true) r2 := by
            rcases hc2 with ⟨h1, -, -, h2⟩ | ⟨-, h, -⟩
            · exact ⟨h1, h2⟩
            · exact absurd ⟨mach_stA hsh hs, (name_may hk).1⟩ h
          obtain ⟨kl2, rfl, hkl⟩ := vote_hear ⟨by omega, hn31.2⟩ hs hk hr2
          obtain ⟨cv2, mv2, kv2, ev2, rfl, hK, hO2⟩ := hR
          obtain ⟨la2, lc2, ma2, mc2, ka2, kc2, ea2, ec2, rfl, rfl, rfl, rfl⟩ := hO2.form
          obtain ⟨d1, d2, d3, d4, hO2⟩ := hO2.cells
          refine ⟨_, rfl, ?_⟩; clear S a hr2 hc2; intro a S; replace M := M.out hK hO2
          refine wpList_nil ?_; refine then_normal ?_; refine ⟨fun _ => hK, ?_⟩
          refine k_pure (listed' := #[true, true, true, true, true, false, false, false, false, false, false, false, false]) 4 S rfl rfl rfl rfl (by kernel_rfl) rfl (fun _ d _ _ _ h => by cases d <;> exact h) (fun w => y_move S rfl) ?_; clear S a; intro a S
          refine k_pure (listed' := #[true, true, true, true, true, true, false, false, false, false, false, false, false]) 5 S rfl rfl rfl rfl (by kernel_rfl) rfl (fun _ d _ _ _ h => by cases d <;> exact h) (fun w => y_extract S rfl rfl) ?_; clear S a; intro a S
          refine k_pure (listed' := #[true, true, true, true, true, true, true, false, false, false, false, false, false]) 6 S rfl rfl rfl rfl (by kernel_rfl) rfl (fun _ d _ _ _ h => by cases d <;> exact h) (fun w => y_extract S rfl rfl) ?_; clear S a; intro a S
          refine k_pure (listed' := #[true, true, true, true, true, true, true, true, false, false, false, false, false]) 7 S rfl rfl rfl rfl (by kernel_rfl) rfl (fun _ d _ _ _ h => by cases d <;> exact h) (fun w => y_extract S rfl rfl) ?_; clear S a; intro a S
          refine k_two (l1 := #[true, true, true, true, true, true, true, true, true, false, false, false, false]) (l2 := #[true, true, true, true, true, true, true, true, false, true, false, false, false]) 8 9 rfl rfl (by kernel_rfl) rfl rfl ?_ ?_
          · skip
            refine st_alloc S M rfl rfl #[.slice none 0 0] (by kernel_rfl) ?_; clear S M a; intro a w13 bD S M hB
            refine wpList_nil ?_; refine then_normal ?_; refine ⟨fun _ => hB, ?_⟩
            refine k_one (listed' := #[true, true, true, true, true, true, true, true, true, true, false, false, false]) 9 rfl (by kernel_rfl) rfl ?_
            refine st_alloc S M rfl rfl #[.slice none 0 0, .slice none 0 0, .slice none 0 0] (by kernel_rfl) ?_; clear S M a; intro a w14 bT S M hB
            refine wpList_nil ?_; refine then_normal ?_; refine ⟨fun _ => hB, ?_⟩
            refine k_one (listed' := #[true, true, true, true, true, true, true, true, true, true, true, false, false]) 10 rfl (by kernel_rfl) rfl ?_
            refine st_store (sz := 1) (us := [_]) S M 1 rfl (by kernel_rfl) rfl rfl rfl rfl rfl rfl (by first | decide | (simp; done) | (simp; omega)) ?_; clear M; intro w15 M
            simp only [putL, List.set_cons_zero, List.set_cons_succ, Nat.reduceAdd] at M
            refine wpList_nil ?_; refine then_normal ?_; refine ⟨fun h => absurd h (by decide), ?_⟩
            refine k_one (listed' := #[true, true, true, true, true, true, true, true, true, true, true, true, false]) 11 rfl (by kernel_rfl) rfl ?_
            refine st_store (sz := 3) (us := [_, _, _]) S M 0 rfl (by kernel_rfl) rfl rfl rfl rfl rfl rfl (by first | decide | (simp; done) | (simp; omega)) ?_; clear M; intro w16 M
            simp only [putL, List.set_cons_zero, List.set_cons_succ, Nat.reduceAdd] at M
            refine wpList_nil ?_; refine then_normal ?_; refine ⟨fun h => absurd h (by decide), ?_⟩
            refine k_pure (listed' := #[true, true, true, true, true, true, true, true, true, true, true, true, true]) 12 S rfl rfl rfl rfl (by kernel_rfl) rfl (fun _ d _ _ _ h => by cases d <;> exact h) (fun w => y_assign S rfl) ?_; clear S a; intro a S
            refine k_end (by kernel_rfl) ?_
            replace S := S.sub [(0, _), (2, _), (7, _), (10, _), (51, _), (52, _), (53, _), (54, _), (12, _), (13, _), (14, _), (15, _), (16, _)] rfl
            refine then_normal ?_
            replace M := M.drop 4
            simp only [List.eraseIdx_cons_succ, List.eraseIdx_cons_zero] at M
            replace M := M.front 2 rfl
            simp only [List.eraseIdx_cons_succ, List.eraseIdx_cons_zero] at M
            replace M := M.front 3 rfl
            simp only [List.eraseIdx_cons_succ, List.eraseIdx_cons_zero] at M
            replace M := M.front 3 rfl
            simp only [List.eraseIdx_cons_succ, List.eraseIdx_cons_zero] at M
            replace M := M.front 3 rfl
            simp only [List.eraseIdx_cons_succ, List.eraseIdx_cons_zero] at M
            exact ⟨bD, bT, la2, ma2, ka2, ea2, lc2, mc2, kc2, ec2, _, _, d1, d2, d3, d4, kl2, hkl, S.sub _ rfl, M⟩
          · skip
            refine st_alloc S M rfl rfl #[.slice none 0 0, .slice none 0 0, .slice none 0 0] (by kernel_rfl) ?_; clear S M a; intro a w17 bT S M hB
            refine wpList_nil ?_; refine then_normal ?_; refine ⟨fun _ => hB, ?_⟩
            refine k_one (listed' := #[true, true, true, true, true, true, true, true, true, true, false, false, false]) 8 rfl (by kernel_rfl) rfl ?_
            refine st_alloc S M rfl rfl #[.slice none 0 0] (by kernel_rfl) ?_; clear S M a; intro a w18 bD S M hB
            refine wpList_nil ?_; refine then_normal ?_; refine ⟨fun _ => hB, ?_⟩
            refine k_one (listed' := #[true, true, true, true, true, true, true, true, true, true, true, false, false]) 10 rfl (by kernel_rfl) rfl ?_
            refine st_store (sz := 1) (us := [_]) S M 0 rfl (by kernel_rfl) rfl rfl rfl rfl rfl rfl (by first | decide | (simp; done) | (simp; omega)) ?_; clear M; intro w19 M
            simp only [putL, List.set_cons_zero, List.set_cons_succ, Nat.reduceAdd] at M
            refine wpList_nil ?_; refine then_normal ?_; refine ⟨fun h => absurd h (by decide), ?_⟩
            refine k_one (listed' := #[true, true, true, true, true, true, true, true, true, true, true, true, false]) 11 rfl (by kernel_rfl) rfl ?_
            refine st_store (sz := 3) (us := [_, _, _]) S M 1 rfl (by kernel_rfl) rfl rfl rfl rfl rfl rfl (by first | decide | (simp; done) | (simp; omega)) ?_; clear M; intro w20 M
            simp only [putL, List.set_cons_zero, List.set_cons_succ, Nat.reduceAdd] at M
            refine wpList_nil ?_; refine then_normal ?_; refine ⟨fun h => absurd h (by decide), ?_⟩
            refine k_pure (listed' := #[true, true, true, true, true, true, true, true, true, true, true, true, true]) 12 S rfl rfl rfl rfl (by kernel_rfl) rfl (fun _ d _ _ _ h => by cases d <;> exact h) (fun w => y_assign S rfl) ?_; clear S a; intro a S
            refine k_end (by kernel_rfl) ?_
            replace S := S.sub [(0, _), (2, _), (7, _), (10, _), (51, _), (52, _), (53, _), (54, _), (12, _), (13, _), (15, _), (14, _), (16, _)] rfl
            refine then_normal ?_
            replace M := M.drop 4
            simp only [List.eraseIdx_cons_succ, List.eraseIdx_cons_zero] at M
            replace M := M.front 2 rfl
            simp only [List.eraseIdx_cons_succ, List.eraseIdx_cons_zero] at M
            replace M := M.front 3 rfl
            simp only [List.eraseIdx_cons_succ, List.eraseIdx_cons_zero] at M
            replace M := M.front 2 rfl
            simp only [List.eraseIdx_cons_succ, List.eraseIdx_cons_zero] at M
            replace M := M.front 3 rfl
            simp only [List.eraseIdx_cons_succ, List.eraseIdx_cons_zero] at M
            exact ⟨bD, bT, la2, ma2, ka2, ea2, lc2, mc2, kc2, ec2, _, _, d1, d2, d3, d4, kl2, hkl, S.sub _ rfl, M⟩
        · skip
          refine st_alloc S M rfl rfl #[.slice none 0 0] (by kernel_rfl) ?_; clear S M a; intro a w21 bD S M hB
          refine wpList_nil ?_; refine then_normal ?_; refine ⟨fun _ => hB, ?_⟩
          refine k_two (l1 := #[true, true, true, true, false, false, false, false, true, false, false, false, false]) (l2 := #[true, true, true, false, false, false, false, false, true, true, false, false, false]) 3 9 rfl rfl (by kernel_rfl) rfl rfl ?_ ?_
          · skip
            refine st_call (xs := [(Operand.tmp 63), (Operand.tmp 65)]) S (enters_of Try.func9 (by decide) rfl) rfl rfl rfl (hearC_any la lc c1 (stA n s) (voteM (k : Int) true) _ [] _ (M.outAt 2 rfl).1 (fun q hq => by simp [stA] at hq; subst hq; show n ≤ _; omega) (Rd.nil _ _ _ _)) ?_
            rintro _ w22 ⟨er2, r2, hR, hc2⟩
            obtain ⟨rfl, hr2⟩ : er2 = 0 ∧ HearP (stA n s) (voteM (k : Int) true) r2 := by
              rcases hc2 with ⟨h1, -, -, h2⟩ | ⟨-, h, -⟩
              · exact ⟨h1, h2⟩
              · exact absurd ⟨mach_stA hsh hs, (name_may hk).1⟩ h
            obtain ⟨kl2, rfl, hkl⟩ := vote_hear ⟨by omega, hn31.2⟩ hs hk hr2
            obtain ⟨cv2, mv2, kv2, ev2, rfl, hK, hO2⟩ := hR
            obtain ⟨la2, lc2, ma2, mc2, ka2, kc2, ea2, ec2, rfl, rfl, rfl, rfl⟩ := hO2.form
            obtain ⟨d1, d2, d3, d4, hO2⟩ := hO2.cells
            refine ⟨_, rfl, ?_⟩; clear S a hr2 hc2; intro a S; replace M := M.out hK hO2
            refine wpList_nil ?_; refine then_normal ?_; refine ⟨fun _ => hK, ?_⟩
            refine k_pure (listed' := #[true, true, true, true, true, false, false, false, true, false, false, false, false]) 4 S rfl rfl rfl rfl (by kernel_rfl) rfl (fun _ d _ _ _ h => by cases d <;> exact h) (fun w => y_move S rfl) ?_; clear S a; intro a S
            refine k_pure (listed' := #[true, true, true, true, true, true, false, false, true, false, false, false, false]) 5 S rfl rfl rfl rfl (by kernel_rfl) rfl (fun _ d _ _ _ h => by cases d <;> exact h) (fun w => y_extract S rfl rfl) ?_; clear S a; intro a S
            refine k_pure (listed' := #[true, true, true, true, true, true, true, false, true, false, false, false, false]) 6 S rfl rfl rfl rfl (by kernel_rfl) rfl (fun _ d _ _ _ h => by cases d <;> exact h) (fun w => y_extract S rfl rfl) ?_; clear S a; intro a S
            refine k_pure (listed' := #[true, true, true, true, true, true, true, true, true, false, false, false, false]) 7 S rfl rfl rfl rfl (by kernel_rfl) rfl (fun _ d _ _ _ h => by cases d <;> exact h) (fun w => y_extract S rfl rfl) ?_; clear S a; intro a S
            refine k_one (listed' := #[true, true, true, true, true, true, true, true, true, true, false, false, false]) 9 rfl (by kernel_rfl) rfl ?_
            refine st_alloc S M rfl rfl #[.slice none 0 0, .slice none 0 0, .slice none 0 0] (by kernel_rfl) ?_; clear S M a; intro a w23 bT S M hB
            refine wpList_nil ?_; refine then_normal ?_; refine ⟨fun _ => hB, ?_⟩
            refine k_one (listed' := #[true, true, true, true, true, true, true, true, true, true, true, false, false]) 10 rfl (by kernel_rfl) rfl ?_
            refine st_store (sz := 1) (us := [_]) S M 2 rfl (by kernel_rfl) rfl rfl rfl rfl rfl rfl (by first | decide | (simp; done) | (simp; omega)) ?_; clear M; intro w24 M
            simp only [putL, List.set_cons_zero, List.set_cons_succ, Nat.reduceAdd] at M
            refine wpList_nil ?_; refine then_normal ?_; refine ⟨fun h => absurd h (by decide), ?_⟩
            refine k_one (listed' := #[true, true, true, true, true, true, true, true, true, true, true, true, false]) 11 rfl (by kernel_rfl) rfl ?_
            refine st_store (sz := 3) (us := [_, _, _]) S M 0 rfl (by kernel_rfl) rfl rfl rfl rfl rfl rfl (by first | decide | (simp; done) | (simp; omega)) ?_; clear M; intro w25 M
            simp only [putL, List.set_cons_zero, List.set_cons_succ, Nat.reduceAdd] at M
            refine wpList_nil ?_; refine then_normal ?_; refine ⟨fun h => absurd h (by decide), ?_⟩
            refine k_pure (listed' := #[true, true, true, true, true, true, true, true, true, true, true, true, true]) 12 S rfl rfl rfl rfl (by kernel_rfl) rfl (fun _ d _ _ _ h => by cases d <;> exact h) (fun w => y_assign S rfl) ?_; clear S a; intro a S
            refine k_end (by kernel_rfl) ?_
            replace S := S.sub [(0, _), (2, _), (7, _), (10, _), (51, _), (52, _), (53, _), (54, _), (12, _), (13, _), (14, _), (15, _), (16, _)] rfl
            refine then_normal ?_
            replace M := M.drop 4
            simp only [List.eraseIdx_cons_succ, List.eraseIdx_cons_zero] at M
            replace M := M.front 1 rfl
            simp only [List.eraseIdx_cons_succ, List.eraseIdx_cons_zero] at M
            replace M := M.front 3 rfl
            simp only [List.eraseIdx_cons_succ, List.eraseIdx_cons_zero] at M
            replace M := M.front 3 rfl
            simp only [List.eraseIdx_cons_succ, List.eraseIdx_cons_zero] at M
            replace M := M.front 3 rfl
            simp only [List.eraseIdx_cons_succ, List.eraseIdx_cons_zero] at M
            exact ⟨bD, bT, la2, ma2, ka2, ea2, lc2, mc2, kc2, ec2, _, _, d1, d2, d3, d4, kl2, hkl, S.sub _ rfl, M⟩
          · skip
            refine st_alloc S M rfl rfl #[.slice none 0 0, .slice none 0 0, .slice none 0 0] (by kernel_rfl) ?_; clear S M a; intro a w26 bT S M hB
            refine wpList_nil ?_; refine then_normal ?_; refine ⟨fun _ => hB, ?_⟩
            refine k_one (listed' := #[true, true, true, true, false, false, false, false, true, true, false, false, false]) 3 rfl (by kernel_rfl) rfl ?_
            refine st_call (xs := [(Operand.tmp 63), (Operand.tmp 65)]) S (enters_of Try.func9 (by decide) rfl) rfl rfl rfl (hearC_any la lc c1 (stA n s) (voteM (k : Int) true) _ [] _ (M.outAt 3 rfl).1 (fun q hq => by simp [stA] at hq; subst hq; show n ≤ _; omega) (Rd.nil _ _ _ _)) ?_
            rintro _ w27 ⟨er2, r2, hR, hc2⟩
            obtain ⟨rfl, hr2⟩ : er2 = 0 ∧ HearP (stA n s) (voteM (k : Int) true) r2 := by
              rcases hc2 with ⟨h1, -, -, h2⟩ | ⟨-, h, -⟩
              · exact ⟨h1, h2⟩
              · exact absurd ⟨mach_stA hsh hs, (name_may hk).1⟩ h
            obtain ⟨kl2, rfl, hkl⟩ := vote_hear ⟨by omega, hn31.2⟩ hs hk hr2
            obtain ⟨cv2, mv2, kv2, ev2, rfl, hK, hO2⟩ := hR
            obtain ⟨la2, lc2, ma2, mc2, ka2, kc2, ea2, ec2, rfl, rfl, rfl, rfl⟩ := hO2.form
            obtain ⟨d1, d2, d3, d4, hO2⟩ := hO2.cells
            refine ⟨_, rfl, ?_⟩; clear S a hr2 hc2; intro a S; replace M := M.out hK hO2
            refine wpList_nil ?_; refine then_normal ?_; refine ⟨fun _ => hK, ?_⟩
            refine k_pure (listed' := #[true, true, true, true, true, false, false, false, true, true, false, false, false]) 4 S rfl rfl rfl rfl (by kernel_rfl) rfl (fun _ d _ _ _ h => by cases d <;> exact h) (fun w => y_move S rfl) ?_; clear S a; intro a S
            refine k_pure (listed' := #[true, true, true, true, true, true, false, false, true, true, false, false, false]) 5 S rfl rfl rfl rfl (by kernel_rfl) rfl (fun _ d _ _ _ h => by cases d <;> exact h) (fun w => y_extract S rfl rfl) ?_; clear S a; intro a S
            refine k_pure (listed' := #[true, true, true, true, true, true, true, false, true, true, false, false, false]) 6 S rfl rfl rfl rfl (by kernel_rfl) rfl (fun _ d _ _ _ h => by cases d <;> exact h) (fun w => y_extract S rfl rfl) ?_; clear S a; intro a S
            refine k_pure (listed' := #[true, true, true, true, true, true, true, true, true, true, false, false, false]) 7 S rfl rfl rfl rfl (by kernel_rfl) rfl (fun _ d _ _ _ h => by cases d <;> exact h) (fun w => y_extract S rfl rfl) ?_; clear S a; intro a S
            refine k_one (listed' := #[true, true, true, true, true, true, true, true, true, true, true, false, false]) 10 rfl (by kernel_rfl) rfl ?_
            refine st_store (sz := 1) (us := [_]) S M 2 rfl (by kernel_rfl) rfl rfl rfl rfl rfl rfl (by first | decide | (simp; done) | (simp; omega)) ?_; clear M; intro w28 M
            simp only [putL, List.set_cons_zero, List.set_cons_succ, Nat.reduceAdd] at M
            refine wpList_nil ?_; refine then_normal ?_; refine ⟨fun h => absurd h (by decide), ?_⟩
            refine k_one (listed' := #[true, true, true, true, true, true, true, true, true, true, true, true, false]) 11 rfl (by kernel_rfl) rfl ?_
            refine st_store (sz := 3) (us := [_, _, _]) S M 1 rfl (by kernel_rfl) rfl rfl rfl rfl rfl rfl (by first | decide | (simp; done) | (simp; omega)) ?_; clear M; intro w29 M
            simp only [putL, List.set_cons_zero, List.set_cons_succ, Nat.reduceAdd] at M
            refine wpList_nil ?_; refine then_normal ?_; refine ⟨fun h => absurd h (by decide), ?_⟩
            refine k_pure (listed' := #[true, true, true, true, true, true, true, true, true, true, true, true, true]) 12 S rfl rfl rfl rfl (by kernel_rfl) rfl (fun _ d _ _ _ h => by cases d <;> exact h) (fun w => y_assign S rfl) ?_; clear S a; intro a S
            refine k_end (by kernel_rfl) ?_
            replace S := S.sub [(0, _), (2, _), (7, _), (10, _), (51, _), (52, _), (53, _), (54, _), (12, _), (13, _), (14, _), (15, _), (16, _)] rfl
            refine then_normal ?_
            replace M := M.drop 4
            simp only [List.eraseIdx_cons_succ, List.eraseIdx_cons_zero] at M
            replace M := M.front 3 rfl
            simp only [List.eraseIdx_cons_succ, List.eraseIdx_cons_zero] at M
            replace M := M.front 3 rfl
            simp only [List.eraseIdx_cons_succ, List.eraseIdx_cons_zero] at M
            replace M := M.front 3 rfl
            simp only [List.eraseIdx_cons_succ, List.eraseIdx_cons_zero] at M
            exact ⟨bD, bT, la2, ma2, ka2, ea2, lc2, mc2, kc2, ec2, _, _, d1, d2, d3, d4, kl2, hkl, S.sub _ rfl, M⟩
        · skip
          refine st_alloc S M rfl rfl #[.slice none 0 0, .slice none 0 0, .slice none 0 0] (by kernel_rfl) ?_; clear S M a; intro a w30 bT S M hB
          refine wpList_nil ?_; refine then_normal ?_; refine ⟨fun _ => hB, ?_⟩
          refine k_two (l1 := #[true, true, true, true, false, false, false, false, false, true, false, false, false]) (l2 := #[true, true, true, false, false, false, false, false, true, true, false, false, false]) 3 8 rfl rfl (by kernel_rfl) rfl rfl ?_ ?_
          · skip
            refine st_call (xs := [(Operand.tmp 63), (Operand.tmp 65)]) S (enters_of Try.func9 (by decide) rfl) rfl rfl rfl (hearC_any la lc c1 (stA n s) (voteM (k : Int) true) _ [] _ (M.outAt 2 rfl).1 (fun q hq => by simp [stA] at hq; subst hq; show n ≤ _; omega) (Rd.nil _ _ _ _)) ?_
            rintro _ w31 ⟨er2, r2, hR, hc2⟩
            obtain ⟨rfl, hr2⟩ : er2 = 0 ∧ HearP (stA n s) (voteM (k : Int) true) r2 := by
              rcases hc2 with ⟨h1, -, -, h2⟩ | ⟨-, h, -⟩
              · exact ⟨h1, h2⟩
              · exact absurd ⟨mach_stA hsh hs, (name_may hk).1⟩ h
            obtain ⟨kl2, rfl, hkl⟩ := vote_hear ⟨by omega, hn31.2⟩ hs hk hr2
            obtain ⟨cv2, mv2, kv2, ev2, rfl, hK, hO2⟩ := hR
            obtain ⟨la2, lc2, ma2, mc2, ka2, kc2, ea2, ec2, rfl, rfl, rfl, rfl⟩ := hO2.form
            obtain ⟨d1, d2, d3, d4, hO2⟩ := hO2.cells
            refine ⟨_, rfl, ?_⟩; clear S a hr2 hc2; intro a S; replace M := M.out hK hO2
            refine wpList_nil ?_; refine then_normal ?_; refine ⟨fun _ => hK, ?_⟩
            refine k_pure (listed' := #[true, true, true, true, true, false, false, false, false, true, false, false, false]) 4 S rfl rfl rfl rfl (by kernel_rfl) rfl (fun _ d _ _ _ h => by cases d <;> exact h) (fun w => y_move S rfl) ?_; clear S a; intro a S
            refine k_pure (listed' := #[true, true, true, true, true, true, false, false, false, true, false, false, false]) 5 S rfl rfl rfl rfl (by kernel_rfl) rfl (fun _ d _ _ _ h => by cases d <;> exact h) (fun w => y_extract S rfl rfl) ?_; clear S a; intro a S
            refine k_pure (listed' := #[true, true, true, true, true, true, true, false, false, true, false, false, false]) 6 S rfl rfl rfl rfl (by kernel_rfl) rfl (fun _ d _ _ _ h => by cases d <;> exact h) (fun w => y_extract S rfl rfl) ?_; clear S a; intro a S
            refine k_pure (listed' := #[true, true, true, true, true, true, true, true, false, true, false, false, false]) 7 S rfl rfl rfl rfl (by kernel_rfl) rfl (fun _ d _ _ _ h => by cases d <;> exact h) (fun w => y_extract S rfl rfl) ?_; clear S a; intro a S
            refine k_one (listed' := #[true, true, true, true, true, true, true, true, true, true, false, false, false]) 8 rfl (by kernel_rfl) rfl ?_
            refine st_alloc S M rfl rfl #[.slice none 0 0] (by kernel_rfl) ?_; clear S M a; intro a w32 bD S M hB
            refine wpList_nil ?_; refine then_normal ?_; refine ⟨fun _ => hB, ?_⟩
            refine k_one (listed' := #[true, true, true, true, true, true, true, true, true, true, true, false, false]) 10 rfl (by kernel_rfl) rfl ?_
            refine st_store (sz := 1) (us := [_]) S M 0 rfl (by kernel_rfl) rfl rfl rfl rfl rfl rfl (by first | decide | (simp; done) | (simp; omega)) ?_; clear M; intro w33 M
            simp only [putL, List.set_cons_zero, List.set_cons_succ, Nat.reduceAdd] at M
            refine wpList_nil ?_; refine then_normal ?_; refine ⟨fun h => absurd h (by decide), ?_⟩
            refine k_one (listed' := #[true, true, true, true, true, true, true, true, true, true, true, true, false]) 11 rfl (by kernel_rfl) rfl ?_
            refine st_store (sz := 3) (us := [_, _, _]) S M 2 rfl (by kernel_rfl) rfl rfl rfl rfl rfl rfl (by first | decide | (simp; done) | (simp; omega)) ?_; clear M; intro w34 M
            simp only [putL, List.set_cons_zero, List.set_cons_succ, Nat.reduceAdd] at M
            refine wpList_nil ?_; refine then_normal ?_; refine ⟨fun h => absurd h (by decide), ?_⟩
            refine k_pure (listed' := #[true, true, true, true, true, true, true, true, true, true, true, true, true]) 12 S rfl rfl rfl rfl (by kernel_rfl) rfl (fun _ d _ _ _ h => by cases d <;> exact h) (fun w => y_assign S rfl) ?_; clear S a; intro a S
            refine k_end (by kernel_rfl) ?_
            replace S := S.sub [(0, _), (2, _), (7, _), (10, _), (51, _), (52, _), (53, _), (54, _), (12, _), (13, _), (15, _), (14, _), (16, _)] rfl
            refine then_normal ?_
            replace M := M.drop 4
            simp only [List.eraseIdx_cons_succ, List.eraseIdx_cons_zero] at M
            replace M := M.front 1 rfl
            simp only [List.eraseIdx_cons_succ, List.eraseIdx_cons_zero] at M
            replace M := M.front 3 rfl
            simp only [List.eraseIdx_cons_succ, List.eraseIdx_cons_zero] at M
            replace M := M.front 2 rfl
            simp only [List.eraseIdx_cons_succ, List.eraseIdx_cons_zero] at M
            replace M := M.front 3 rfl
            simp only [List.eraseIdx_cons_succ, List.eraseIdx_cons_zero] at M
            exact ⟨bD, bT, la2, ma2, ka2, ea2, lc2, mc2, kc2, ec2, _, _, d1, d2, d3, d4, kl2, hkl, S.sub _ rfl, M⟩
          · skip
            refine st_alloc S M rfl rfl #[.slice none 0 0] (by kernel_rfl) ?_; clear S M a; intro a w35 bD S M hB
            refine wpList_nil ?_; refine then_normal ?_; refine ⟨fun _ => hB, ?_⟩
            refine k_one (listed' := #[true, true, true, true, false, false, false, false, true, true, false, false, false]) 3 rfl (by kernel_rfl) rfl ?_
            refine st_call (xs := [(Operand.tmp 63), (Operand.tmp 65)]) S (enters_of Try.func9 (by decide) rfl) rfl rfl rfl (hearC_any la lc c1 (stA n s) (voteM (k : Int) true) _ [] _ (M.outAt 3 rfl).1 (fun q hq => by simp [stA] at hq; subst hq; show n ≤ _; omega) (Rd.nil _ _ _ _)) ?_
            rintro _ w36 ⟨er2, r2, hR, hc2⟩
            obtain ⟨rfl, hr2⟩ : er2 = 0 ∧ HearP (stA n s) (voteM (k : Int) true) r2 := by
              rcases hc2 with ⟨h1, -, -, h2⟩ | ⟨-, h, -⟩
              · exact ⟨h1, h2⟩
              · exact absurd ⟨mach_stA hsh hs, (name_may hk).1⟩ h
            obtain ⟨kl2, rfl, hkl⟩ := vote_hear ⟨by omega, hn31.2⟩ hs hk hr2
            obtain ⟨cv2, mv2, kv2, ev2, rfl, hK, hO2⟩ := hR
            obtain ⟨la2, lc2, ma2, mc2, ka2, kc2, ea2, ec2, rfl, rfl, rfl, rfl⟩ := hO2.form
            obtain ⟨d1, d2, d3, d4, hO2⟩ := hO2.cells
            refine ⟨_, rfl, ?_⟩; clear S a hr2 hc2; intro a S; replace M := M.out hK hO2
            refine wpList_nil ?_; refine then_normal ?_; refine ⟨fun _ => hK, ?_⟩
            refine k_pure (listed' := #[true, true, true, true, true, false, false, false, true, true, false, false, false]) 4 S rfl rfl rfl rfl (by kernel_rfl) rfl (fun _ d _ _ _ h => by cases d <;> exact h) (fun w => y_move S rfl) ?_; clear S a; intro a S
            refine k_pure (listed' := #[true, true, true, true, true, true, false, false, true, true, false, false, false]) 5 S rfl rfl rfl rfl (by kernel_rfl) rfl (fun _ d _ _ _ h => by cases d <;> exact h) (fun w => y_extract S rfl rfl) ?_; clear S a; intro a S
            refine k_pure (listed' := #[true, true, true, true, true, true, true, false, true, true, false, false, false]) 6 S rfl rfl rfl rfl (by kernel_rfl) rfl (fun _ d _ _ _ h => by cases d <;> exact h) (fun w => y_extract S rfl rfl) ?_; clear S a; intro a S
            refine k_pure (listed' := #[true, true, true, true, true, true, true, true, true, true, false, false, false]) 7 S rfl rfl rfl rfl (by kernel_rfl) rfl (fun _ d _ _ _ h => by cases d <;> exact h) (fun w => y_extract S rfl rfl) ?_; clear S a; intro a S
            refine k_one (listed' := #[true, true, true, true, true, true, true, true, true, true, true, false, false]) 10 rfl (by kernel_rfl) rfl ?_
            refine st_store (sz := 1) (us := [_]) S M 1 rfl (by kernel_rfl) rfl rfl rfl rfl rfl rfl (by first | decide | (simp; done) | (simp; omega)) ?_; clear M; intro w37 M
            simp only [putL, List.set_cons_zero, List.set_cons_succ, Nat.reduceAdd] at M
            refine wpList_nil ?_; refine then_normal ?_; refine ⟨fun h => absurd h (by decide), ?_⟩
            refine k_one (listed' := #[true, true, true, true, true, true, true, true, true, true, true, true, false]) 11 rfl (by kernel_rfl) rfl ?_
            refine st_store (sz := 3) (us := [_, _, _]) S M 2 rfl (by kernel_rfl) rfl rfl rfl rfl rfl rfl (by first | decide | (simp; done) | (simp; omega)) ?_; clear M; intro w38 M
            simp only [putL, List.set_cons_zero, List.set_cons_succ, Nat.reduceAdd] at M
            refine wpList_nil ?_; refine then_normal ?_; refine ⟨fun h => absurd h (by decide), ?_⟩
            refine k_pure (listed' := #[true, true, true, true, true, true, true, true, true, true, true, true, true]) 12 S rfl rfl rfl rfl (by kernel_rfl) rfl (fun _ d _ _ _ h => by cases d <;> exact h) (fun w => y_assign S rfl) ?_; clear S a; intro a S
            refine k_end (by kernel_rfl) ?_
            replace S := S.sub [(0, _), (2, _), (7, _), (10, _), (51, _), (52, _), (53, _), (54, _), (12, _), (13, _), (15, _), (14, _), (16, _)] rfl
            refine then_normal ?_
            replace M := M.drop 4
            simp only [List.eraseIdx_cons_succ, List.eraseIdx_cons_zero] at M
            replace M := M.front 3 rfl
            simp only [List.eraseIdx_cons_succ, List.eraseIdx_cons_zero] at M
            replace M := M.front 2 rfl
            simp only [List.eraseIdx_cons_succ, List.eraseIdx_cons_zero] at M
            replace M := M.front 3 rfl
            simp only [List.eraseIdx_cons_succ, List.eraseIdx_cons_zero] at M
            exact ⟨bD, bT, la2, ma2, ka2, ea2, lc2, mc2, kc2, ec2, _, _, d1, d2, d3, d4, kl2, hkl, S.sub _ rfl, M⟩
      · skip
        refine st_alloc S M rfl rfl #[.slice none 0 0] (by kernel_rfl) ?_; clear S M a; intro a w39 bD S M hB
        refine wpList_nil ?_; refine then_normal ?_; refine ⟨fun _ => hB, ?_⟩
        refine k_two (l1 := #[true, true, true, false, false, false, false, false, true, false, false, false, false]) (l2 := #[true, true, false, false, false, false, false, false, true, true, false, false, false]) 2 9 rfl rfl (by kernel_rfl) rfl rfl ?_ ?_
        · skip
          refine st_call (xs := [(Operand.tmp 64), (Operand.const (Value.bool true))]) S (enters_of Try.func15 (by decide) rfl) rfl rfl rfl (vote_any (k : Int) true _) ?_
          rintro _ w40 ⟨rfl, hK⟩; refine ⟨_, rfl, ?_⟩; clear S a; intro a S; replace M := M.grow hK
          refine wpList_nil ?_; refine then_normal ?_; refine ⟨fun _ => hK, ?_⟩
          refine k_two (l1 := #[true, true, true, true, false, false, false, false, true, false, false, false, false]) (l2 := #[true, true, true, false, false, false, false, false, true, true, false, false, false]) 3 9 rfl rfl (by kernel_rfl) rfl rfl ?_ ?_
          · skip
            refine st_call (xs := [(Operand.tmp 63), (Operand.tmp 65)]) S (enters_of Try.func9 (by decide) rfl) rfl rfl rfl (hearC_any la lc c1 (stA n s) (voteM (k : Int) true) _ [] _ (M.outAt 2 rfl).1 (fun q hq => by simp [stA] at hq; subst hq; show n ≤ _; omega) (Rd.nil _ _ _ _)) ?_
            rintro _ w41 ⟨er2, r2, hR, hc2⟩
            obtain ⟨rfl, hr2⟩ : er2 = 0 ∧ HearP (stA n s) (voteM (k : Int) true) r2 := by
              rcases hc2 with ⟨h1, -, -, h2⟩ | ⟨-, h, -⟩
              · exact ⟨h1, h2⟩
              · exact absurd ⟨mach_stA hsh hs, (name_may hk).1⟩ h
            obtain ⟨kl2, rfl, hkl⟩ := vote_hear ⟨by omega, hn31.2⟩ hs hk hr2
            obtain ⟨cv2, mv2, kv2, ev2, rfl, hK, hO2⟩ := hR
            obtain ⟨la2, lc2, ma2, mc2, ka2, kc2, ea2, ec2, rfl, rfl, rfl, rfl⟩ := hO2.form
            obtain ⟨d1, d2, d3, d4, hO2⟩ := hO2.cells
            refine ⟨_, rfl, ?_⟩; clear S a hr2 hc2; intro a S; replace M := M.out hK hO2
            refine wpList_nil ?_; refine then_normal ?_; refine ⟨fun _ => hK, ?_⟩
            refine k_pure (listed' := #[true, true, true, true, true, false, false, false, true, false, false, false, false]) 4 S rfl rfl rfl rfl (by kernel_rfl) rfl (fun _ d _ _ _ h => by cases d <;> exact h) (fun w => y_move S rfl) ?_; clear S a; intro a S
            refine k_pure (listed' := #[true, true, true, true, true, true, false, false, true, false, false, false, false]) 5 S rfl rfl rfl rfl (by kernel_rfl) rfl (fun _ d _ _ _ h => by cases d <;> exact h) (fun w => y_extract S rfl rfl) ?_; clear S a; intro a S
            refine k_pure (listed' := #[true, true, true, true, true, true, true, false, true, false, false, false, false]) 6 S rfl rfl rfl rfl (by kernel_rfl) rfl (fun _ d _ _ _ h => by cases d <;> exact h) (fun w => y_extract S rfl rfl) ?_; clear S a; intro a S
            refine k_pure (listed' := #[true, true, true, true, true, true, true, true, true, false, false, false, false]) 7 S rfl rfl rfl rfl (by kernel_rfl) rfl (fun _ d _ _ _ h => by cases d <;> exact h) (fun w => y_extract S rfl rfl) ?_; clear S a; intro a S
            refine k_one (listed' := #[true, true, true, true, true, true, true, true, true, true, false, false, false]) 9 rfl (by kernel_rfl) rfl ?_
            refine st_alloc S M rfl rfl #[.slice none 0 0, .slice none 0 0, .slice none 0 0] (by kernel_rfl) ?_; clear S M a; intro a w42 bT S M hB
            refine wpList_nil ?_; refine then_normal ?_; refine ⟨fun _ => hB, ?_⟩
            refine k_one (listed' := #[true, true, true, true, true, true, true, true, true, true, true, false, false]) 10 rfl (by kernel_rfl) rfl ?_
            refine st_store (sz := 1) (us := [_]) S M 2 rfl (by kernel_rfl) rfl rfl rfl rfl rfl rfl (by first | decide | (simp; done) | (simp; omega)) ?_; clear M; intro w43 M
            simp only [putL, List.set_cons_zero, List.set_cons_succ, Nat.reduceAdd] at M
            refine wpList_nil ?_; refine then_normal ?_; refine ⟨fun h => absurd h (by decide), ?_⟩
            refine k_one (listed' := #[true, true, true, true, true, true, true, true, true, true, true, true, false]) 11 rfl (by kernel_rfl) rfl ?_
            refine st_store (sz := 3) (us := [_, _, _]) S M 0 rfl (by kernel_rfl) rfl rfl rfl rfl rfl rfl (by first | decide | (simp; done) | (simp; omega)) ?_; clear M; intro w44 M
            simp only [putL, List.set_cons_zero, List.set_cons_succ, Nat.reduceAdd] at M
            refine wpList_nil ?_; refine then_normal ?_; refine ⟨fun h => absurd h (by decide), ?_⟩
            refine k_pure (listed' := #[true, true, true, true, true, true, true, true, true, true, true, true, true]) 12 S rfl rfl rfl rfl (by kernel_rfl) rfl (fun _ d _ _ _ h => by cases d <;> exact h) (fun w => y_assign S rfl) ?_; clear S a; intro a S
            refine k_end (by kernel_rfl) ?_
            replace S := S.sub [(0, _), (2, _), (7, _), (10, _), (51, _), (52, _), (53, _), (54, _), (12, _), (13, _), (14, _), (15, _), (16, _)] rfl
            refine then_normal ?_
            replace M := M.drop 4
            simp only [List.eraseIdx_cons_succ, List.eraseIdx_cons_zero] at M
            replace M := M.front 1 rfl
            simp only [List.eraseIdx_cons_succ, List.eraseIdx_cons_zero] at M
            replace M := M.front 3 rfl
            simp only [List.eraseIdx_cons_succ, List.eraseIdx_cons_zero] at M
            replace M := M.front 3 rfl
            simp only [List.eraseIdx_cons_succ, List.eraseIdx_cons_zero] at M
            replace M := M.front 3 rfl
            simp only [List.eraseIdx_cons_succ, List.eraseIdx_cons_zero] at M
            exact ⟨bD, bT, la2, ma2, ka2, ea2, lc2, mc2, kc2, ec2, _, _, d1, d2, d3, d4, kl2, hkl, S.sub _ rfl, M⟩
          · skip
            refine st_alloc S M rfl rfl #[.slice none 0 0, .slice none 0 0, .slice none 0 0] (by kernel_rfl) ?_; clear S M a; intro a w45 bT S M hB
            refine wpList_nil ?_; refine then_normal ?_; refine ⟨fun _ => hB, ?_⟩
            refine k_one (listed' := #[true, true, true, true, false, false, false, false, true, true, false, false, false]) 3 rfl (by kernel_rfl) rfl ?_
            refine st_call (xs := [(Operand.tmp 63), (Operand.tmp 65)]) S (enters_of Try.func9 (by decide) rfl) rfl rfl rfl (hearC_any la lc c1 (stA n s) (voteM (k : Int) true) _ [] _ (M.outAt 3 rfl).1 (fun q hq => by simp [stA] at hq; subst hq; show n ≤ _; omega) (Rd.nil _ _ _ _)) ?_
            rintro _ w46 ⟨er2, r2, hR, hc2⟩
            obtain ⟨rfl, hr2⟩ : er2 = 0 ∧ HearP (stA n s) (voteM (k : Int) true) r2 := by
              rcases hc2 with ⟨h1, -, -, h2⟩ | ⟨-, h, -⟩
              · exact ⟨h1, h2⟩
              · exact absurd ⟨mach_stA hsh hs, (name_may hk).1⟩ h
            obtain ⟨kl2, rfl, hkl⟩ := vote_hear ⟨by omega, hn31.2⟩ hs hk hr2
            obtain ⟨cv2, mv2, kv2, ev2, rfl, hK, hO2⟩ := hR
            obtain ⟨la2, lc2, ma2, mc2, ka2, kc2, ea2, ec2, rfl, rfl, rfl, rfl⟩ := hO2.form
            obtain ⟨d1, d2, d3, d4, hO2⟩ := hO2.cells
            refine ⟨_, rfl, ?_⟩; clear S a hr2 hc2; intro a S; replace M := M.out hK hO2
            refine wpList_nil ?_; refine then_normal ?_; refine ⟨fun _ => hK, ?_⟩
            refine k_pure (listed' := #[true, true, true, true, true, false, false, false, true, true, false, false, false]) 4 S rfl rfl rfl rfl (by kernel_rfl) rfl (fun _ d _ _ _ h => by cases d <;> exact h) (fun w => y_move S rfl) ?_; clear S a; intro a S
            refine k_pure (listed' := #[true, true, true, true, true, true, false, false, true, true, false, false, false]) 5 S rfl rfl rfl rfl (by kernel_rfl) rfl (fun _ d _ _ _ h => by cases d <;> exact h) (fun w => y_extract S rfl rfl) ?_; clear S a; intro a S
            refine k_pure (listed' := #[true, true, true, true, true, true, true, false, true, true, false, false, false]) 6 S rfl rfl rfl rfl (by kernel_rfl) rfl (fun _ d _ _ _ h => by cases d <;> exact h) (fun w => y_extract S rfl rfl) ?_; clear S a; intro a S
            refine k_pure (listed' := #[true, true, true, true, true, true, true, true, true, true, false, false, false]) 7 S rfl rfl rfl rfl (by kernel_rfl) rfl (fun _ d _ _ _ h => by cases d <;> exact h) (fun w => y_extract S rfl rfl) ?_; clear S a; intro a S
            refine k_one (listed' := #[true, true, true, true, true, true, true, true, true, true, true, false, false]) 10 rfl (by kernel_rfl) rfl ?_
            refine st_store (sz := 1) (us := [_]) S M 2 rfl (by kernel_rfl) rfl rfl rfl rfl rfl rfl (by first | decide | (simp; done) | (simp; omega)) ?_; clear M; intro w47 M
            simp only [putL, List.set_cons_zero, List.set_cons_succ, Nat.reduceAdd] at M
            refine wpList_nil ?_; refine then_normal ?_; refine ⟨fun h => absurd h (by decide), ?_⟩
            refine k_one (listed' := #[true, true, true, true, true, true, true, true, true, true, true, true, false]) 11 rfl (by kernel_rfl) rfl ?_
            refine st_store (sz := 3) (us := [_, _, _]) S M 1 rfl (by kernel_rfl) rfl rfl rfl rfl rfl rfl (by first | decide | (simp; done) | (simp; omega)) ?_; clear M; intro w48 M
            simp only [putL, List.set_cons_zero, List.set_cons_succ, Nat.reduceAdd] at M
            refine wpList_nil ?_; refine then_normal ?_; refine ⟨fun h => absurd h (by decide), ?_⟩
            refine k_pure (listed' := #[true, true, true, true, true, true, true, true, true, true, true, true, true]) 12 S rfl rfl rfl rfl (by kernel_rfl) rfl (fun _ d _ _ _ h => by cases d <;> exact h) (fun w => y_assign S rfl) ?_; clear S a; intro a S
            refine k_end (by kernel_rfl) ?_
            replace S := S.sub [(0, _), (2, _), (7, _), (10, _), (51, _), (52, _), (53, _), (54, _), (12, _), (13, _), (14, _), (15, _), (16, _)] rfl
            refine then_normal ?_
            replace M := M.drop 4
            simp only [List.eraseIdx_cons_succ, List.eraseIdx_cons_zero] at M
            replace M := M.front 3 rfl
            simp only [List.eraseIdx_cons_succ, List.eraseIdx_cons_zero] at M
            replace M := M.front 3 rfl
            simp only [List.eraseIdx_cons_succ, List.eraseIdx_cons_zero] at M
            replace M := M.front 3 rfl
            simp only [List.eraseIdx_cons_succ, List.eraseIdx_cons_zero] at M
            exact ⟨bD, bT, la2, ma2, ka2, ea2, lc2, mc2, kc2, ec2, _, _, d1, d2, d3, d4, kl2, hkl, S.sub _ rfl, M⟩
        · skip
          refine st_alloc S M rfl rfl #[.slice none 0 0, .slice none 0 0, .slice none 0 0] (by kernel_rfl) ?_; clear S M a; intro a w49 bT S M hB
          refine wpList_nil ?_; refine then_normal ?_; refine ⟨fun _ => hB, ?_⟩
          refine k_one (listed' := #[true, true, true, false, false, false, false, false, true, true, false, false, false]) 2 rfl (by kernel_rfl) rfl ?_
          refine st_call (xs := [(Operand.tmp 64), (Operand.const (Value.bool true))]) S (enters_of Try.func15 (by decide) rfl) rfl rfl rfl (vote_any (k : Int) true _) ?_
          rintro _ w50 ⟨rfl, hK⟩; refine ⟨_, rfl, ?_⟩; clear S a; intro a S; replace M := M.grow hK
          refine wpList_nil ?_; refine then_normal ?_; refine ⟨fun _ => hK, ?_⟩
          refine k_one (listed' := #[true, true, true, true, false, false, false, false, true, true, false, false, false]) 3 rfl (by kernel_rfl) rfl ?_
          refine st_call (xs := [(Operand.tmp 63), (Operand.tmp 65)]) S (enters_of Try.func9 (by decide) rfl) rfl rfl rfl (hearC_any la lc c1 (stA n s) (voteM (k : Int) true) _ [] _ (M.outAt 3 rfl).1 (fun q hq => by simp [stA] at hq; subst hq; show n ≤ _; omega) (Rd.nil _ _ _ _)) ?_
          rintro _ w51 ⟨er2, r2, hR, hc2⟩
          obtain ⟨rfl, hr2⟩ : er2 = 0 ∧ HearP (stA n s) (voteM (k : Int) true) r2 := by
            rcases hc2 with ⟨h1, -, -, h2⟩ | ⟨-, h, -⟩
            · exact ⟨h1, h2⟩
            · exact absurd ⟨mach_stA hsh hs, (name_may hk).1⟩ h
          obtain ⟨kl2, rfl, hkl⟩ := vote_hear ⟨by omega, hn31.2⟩ hs hk hr2
          obtain ⟨cv2, mv2, kv2, ev2, rfl, hK, hO2⟩ := hR
          obtain ⟨la2, lc2, ma2, mc2, ka2, kc2, ea2, ec2, rfl, rfl, rfl, rfl⟩ := hO2.form
          obtain ⟨d1, d2, d3, d4, hO2⟩ := hO2.cells
          refine ⟨_, rfl, ?_⟩; clear S a hr2 hc2; intro a S; replace M := M.out hK hO2
          refine wpList_nil ?_; refine then_normal ?_; refine ⟨fun _ => hK, ?_⟩
          refine k_pure (listed' := #[true, true, true, true, true, false, false, false, true, true, false, false, false]) 4 S rfl rfl rfl rfl (by kernel_rfl) rfl (fun _ d _ _ _ h => by cases d <;> exact h) (fun w => y_move S rfl) ?_; clear S a; intro a S
          refine k_pure (listed' := #[true, true, true, true, true, true, false, false, true, true, false, false, false]) 5 S rfl rfl rfl rfl (by kernel_rfl) rfl (fun _ d _ _ _ h => by cases d <;> exact h) (fun w => y_extract S rfl rfl) ?_; clear S a; intro a S
          refine k_pure (listed' := #[true, true, true, true, true, true, true, false, true, true, false, false, false]) 6 S rfl rfl rfl rfl (by kernel_rfl) rfl (fun _ d _ _ _ h => by cases d <;> exact h) (fun w => y_extract S rfl rfl) ?_; clear S a; intro a S
          refine k_pure (listed' := #[true, true, true, true, true, true, true, true, true, true, false, false, false]) 7 S rfl rfl rfl rfl (by kernel_rfl) rfl (fun _ d _ _ _ h => by cases d <;> exact h) (fun w => y_extract S rfl rfl) ?_; clear S a; intro a S
          refine k_one (listed' := #[true, true, true, true, true, true, true, true, true, true, true, false, false]) 10 rfl (by kernel_rfl) rfl ?_
          refine st_store (sz := 1) (us := [_]) S M 2 rfl (by kernel_rfl) rfl rfl rfl rfl rfl rfl (by first | decide | (simp; done) | (simp; omega)) ?_; clear M; intro w52 M
          simp only [putL, List.set_cons_zero, List.set_cons_succ, Nat.reduceAdd] at M
          refine wpList_nil ?_; refine then_normal ?_; refine ⟨fun h => absurd h (by decide), ?_⟩
          refine k_one (listed' := #[true, true, true, true, true, true, true, true, true, true, true, true, false]) 11 rfl (by kernel_rfl) rfl ?_
          refine st_store (sz := 3) (us := [_, _, _]) S M 1 rfl (by kernel_rfl) rfl rfl rfl rfl rfl rfl (by first | decide | (simp; done) | (simp; omega)) ?_; clear M; intro w53 M
          simp only [putL, List.set_cons_zero, List.set_cons_succ, Nat.reduceAdd] at M
          refine wpList_nil ?_; refine then_normal ?_; refine ⟨fun h => absurd h (by decide), ?_⟩
          refine k_pure (listed' := #[true, true, true, true, true, true, true, true, true, true, true, true, true]) 12 S rfl rfl rfl rfl (by kernel_rfl) rfl (fun _ d _ _ _ h => by cases d <;> exact h) (fun w => y_assign S rfl) ?_; clear S a; intro a S
          refine k_end (by kernel_rfl) ?_
          replace S := S.sub [(0, _), (2, _), (7, _), (10, _), (51, _), (52, _), (53, _), (54, _), (12, _), (13, _), (14, _), (15, _), (16, _)] rfl
          refine then_normal ?_
          replace M := M.drop 4
          simp only [List.eraseIdx_cons_succ, List.eraseIdx_cons_zero] at M
          replace M := M.front 3 rfl
          simp only [List.eraseIdx_cons_succ, List.eraseIdx_cons_zero] at M
          replace M := M.front 3 rfl
          simp only [List.eraseIdx_cons_succ, List.eraseIdx_cons_zero] at M
          replace M := M.front 3 rfl
          simp only [List.eraseIdx_cons_succ, List.eraseIdx_cons_zero] at M
          exact ⟨bD, bT, la2, ma2, ka2, ea2, lc2, mc2, kc2, ec2, _, _, d1, d2, d3, d4, kl2, hkl, S.sub _ rfl, M⟩
      · skip
        refine st_alloc S M rfl rfl #[.slice none 0 0, .slice none 0 0, .slice none 0 0] (by kernel_rfl) ?_; clear S M a; intro a w54 bT S M hB
        refine wpList_nil ?_; refine then_normal ?_; refine ⟨fun _ => hB, ?_⟩
        refine k_two (l1 := #[true, true, true, false, false, false, false, false, false, true, false, false, false]) (l2 := #[true, true, false, false, false, false, false, false, true, true, false, false, false]) 2 8 rfl rfl (by kernel_rfl) rfl rfl ?_ ?_
        · skip
          refine st_call (xs := [(Operand.tmp 64), (Operand.const (Value.bool true))]) S (enters_of Try.func15 (by decide) rfl) rfl rfl rfl (vote_any (k : Int) true _) ?_
          rintro _ w55 ⟨rfl, hK⟩; refine ⟨_, rfl, ?_⟩; clear S a; intro a S; replace M := M.grow hK
          refine wpList_nil ?_; refine then_normal ?_; refine ⟨fun _ => hK, ?_⟩
          refine k_two (l1 := #[true, true, true, true, false, false, false, false, false, true, false, false, false]) (l2 := #[true, true, true, false, false, false, false, false, true, true, false, false, false]) 3 8 rfl rfl (by kernel_rfl) rfl rfl ?_ ?_
          · skip
            refine st_call (xs := [(Operand.tmp 63), (Operand.tmp 65)]) S (enters_of Try.func9 (by decide) rfl) rfl rfl rfl (hearC_any la lc c1 (stA n s) (voteM (k : Int) true) _ [] _ (M.outAt 2 rfl).1 (fun q hq => by simp [stA] at hq; subst hq; show n ≤ _; omega) (Rd.nil _ _ _ _)) ?_
            rintro _ w56 ⟨er2, r2, hR, hc2⟩
            obtain ⟨rfl, hr2⟩ : er2 = 0 ∧ HearP (stA n s) (voteM (k : Int) true) r2 := by
              rcases hc2 with ⟨h1, -, -, h2⟩ | ⟨-, h, -⟩
              · exact ⟨h1, h2⟩
              · exact absurd ⟨mach_stA hsh hs, (name_may hk).1⟩ h
            obtain ⟨kl2, rfl, hkl⟩ := vote_hear ⟨by omega, hn31.2⟩ hs hk hr2
            obtain ⟨cv2, mv2, kv2, ev2, rfl, hK, hO2⟩ := hR
            obtain ⟨la2, lc2, ma2, mc2, ka2, kc2, ea2, ec2, rfl, rfl, rfl, rfl⟩ := hO2.form
            obtain ⟨d1, d2, d3, d4, hO2⟩ := hO2.cells
            refine ⟨_, rfl, ?_⟩; clear S a hr2 hc2; intro a S; replace M := M.out hK hO2
            refine wpList_nil ?_; refine then_normal ?_; refine ⟨fun _ => hK, ?_⟩
            refine k_pure (listed' := #[true, true, true, true, true, false, false, false, false, true, false, false, false]) 4 S rfl rfl rfl rfl (by kernel_rfl) rfl (fun _ d _ _ _ h => by cases d <;> exact h) (fun w => y_move S rfl) ?_; clear S a; intro a S
            refine k_pure (listed' := #[true, true, true, true, true, true, false, false, false, true, false, false, false]) 5 S rfl rfl rfl rfl (by kernel_rfl) rfl (fun _ d _ _ _ h => by cases d <;> exact h) (fun w => y_extract S rfl rfl) ?_; clear S a; intro a S
            refine k_pure (listed' := #[true, true, true, true, true, true, true, false, false, true, false, false, false]) 6 S rfl rfl rfl rfl (by kernel_rfl) rfl (fun _ d _ _ _ h => by cases d <;> exact h) (fun w => y_extract S rfl rfl) ?_; clear S a; intro a S
            refine k_pure (listed' := #[true, true, true, true, true, true, true, true, false, true, false, false, false]) 7 S rfl rfl rfl rfl (by kernel_rfl) rfl (fun _ d _ _ _ h => by cases d <;> exact h) (fun w => y_extract S rfl rfl) ?_; clear S a; intro a S
            refine k_one (listed' := #[true, true, true, true, true, true, true, true, true, true, false, false, false]) 8 rfl (by kernel_rfl) rfl ?_
            refine st_alloc S M rfl rfl #[.slice none 0 0] (by kernel_rfl) ?_; clear S M a; intro a w57 bD S M hB
            refine wpList_nil ?_; refine then_normal ?_; refine ⟨fun _ => hB, ?_⟩
            refine k_one (listed' := #[true, true, true, true, true, true, true, true, true, true, true, false, false]) 10 rfl (by kernel_rfl) rfl ?_
            refine st_store (sz := 1) (us := [_]) S M 0 rfl (by kernel_rfl) rfl rfl rfl rfl rfl rfl (by first | decide | (simp; done) | (simp; omega)) ?_; clear M; intro w58 M
            simp only [putL, List.set_cons_zero, List.set_cons_succ, Nat.reduceAdd] at M
            refine wpList_nil ?_; refine then_normal ?_; refine ⟨fun h => absurd h (by decide), ?_⟩
            refine k_one (listed' := #[true, true, true, true, true, true, true, true, true, true, true, true, false]) 11 rfl (by kernel_rfl) rfl ?_
            refine st_store (sz := 3) (us := [_, _, _]) S M 2 rfl (by kernel_rfl) rfl rfl rfl rfl rfl rfl (by first | decide | (simp; done) | (simp; omega)) ?_; clear M; intro w59 M
            simp only [putL, List.set_cons_zero, List.set_cons_succ, Nat.reduceAdd] at M
            refine wpList_nil ?_; refine then_normal ?_; refine ⟨fun h => absurd h (by decide), ?_⟩
            refine k_pure (listed' := #[true, true, true, true, true, true, true, true, true, true, true, true, true]) 12 S rfl rfl rfl rfl (by kernel_rfl) rfl (fun _ d _ _ _ h => by cases d <;> exact h) (fun w => y_assign S rfl) ?_; clear S a; intro a S
            refine k_end (by kernel_rfl) ?_
            replace S := S.sub [(0, _), (2, _), (7, _), (10, _), (51, _), (52, _), (53, _), (54, _), (12, _), (13, _), (15, _), (14, _), (16, _)] rfl
            refine then_normal ?_
            replace M := M.drop 4
            simp only [List.eraseIdx_cons_succ, List.eraseIdx_cons_zero] at M
            replace M := M.front 1 rfl
            simp only [List.eraseIdx_cons_succ, List.eraseIdx_cons_zero] at M
            replace M := M.front 3 rfl
            simp only [List.eraseIdx_cons_succ, List.eraseIdx_cons_zero] at M
            replace M := M.front 2 rfl
            simp only [List.eraseIdx_cons_succ, List.eraseIdx_cons_zero] at M
            replace M := M.front 3 rfl
            simp only [List.eraseIdx_cons_succ, List.eraseIdx_cons_zero] at M
            exact ⟨bD, bT, la2, ma2, ka2, ea2, lc2, mc2, kc2, ec2, _, _, d1, d2, d3, d4, kl2, hkl, S.sub _ rfl, M⟩
          · skip
            refine st_alloc S M rfl rfl #[.slice none 0 0] (by kernel_rfl) ?_; clear S M a; intro a w60 bD S M hB
            refine wpList_nil ?_; refine then_normal ?_; refine ⟨fun _ => hB, ?_⟩
            refine k_one (listed' := #[true, true, true, true, false, false, false, false, true, true, false, false, false]) 3 rfl (by kernel_rfl) rfl ?_
            refine st_call (xs := [(Operand.tmp 63), (Operand.tmp 65)]) S (enters_of Try.func9 (by decide) rfl) rfl rfl rfl (hearC_any la lc c1 (stA n s) (voteM (k : Int) true) _ [] _ (M.outAt 3 rfl).1 (fun q hq => by simp [stA] at hq; subst hq; show n ≤ _; omega) (Rd.nil _ _ _ _)) ?_
            rintro _ w61 ⟨er2, r2, hR, hc2⟩
            obtain ⟨rfl, hr2⟩ : er2 = 0 ∧ HearP (stA n s) (voteM (k : Int) true) r2 := by
              rcases hc2 with ⟨h1, -, -, h2⟩ | ⟨-, h, -⟩
              · exact ⟨h1, h2⟩
              · exact absurd ⟨mach_stA hsh hs, (name_may hk).1⟩ h
            obtain ⟨kl2, rfl, hkl⟩ := vote_hear ⟨by omega, hn31.2⟩ hs hk hr2
            obtain ⟨cv2, mv2, kv2, ev2, rfl, hK, hO2⟩ := hR
            obtain ⟨la2, lc2, ma2, mc2, ka2, kc2, ea2, ec2, rfl, rfl, rfl, rfl⟩ := hO2.form
            obtain ⟨d1, d2, d3, d4, hO2⟩ := hO2.cells
            refine ⟨_, rfl, ?_⟩; clear S a hr2 hc2; intro a S; replace M := M.out hK hO2
            refine wpList_nil ?_; refine then_normal ?_; refine ⟨fun _ => hK, ?_⟩
            refine k_pure (listed' := #[true, true, true, true, true, false, false, false, true, true, false, false, false]) 4 S rfl rfl rfl rfl (by kernel_rfl) rfl (fun _ d _ _ _ h => by cases d <;> exact h) (fun w => y_move S rfl) ?_; clear S a; intro a S
            refine k_pure (listed' := #[true, true, true, true, true, true, false, false, true, true, false, false, false]) 5 S rfl rfl rfl rfl (by kernel_rfl) rfl (fun _ d _ _ _ h => by cases d <;> exact h) (fun w => y_extract S rfl rfl) ?_; clear S a; intro a S
            refine k_pure (listed' := #[true, true, true, true, true, true, true, false, true, true, false, false, false]) 6 S rfl rfl rfl rfl (by kernel_rfl) rfl (fun _ d _ _ _ h => by cases d <;> exact h) (fun w => y_extract S rfl rfl) ?_; clear S a; intro a S
            refine k_pure (listed' := #[true, true, true, true, true, true, true, true, true, true, false, false, false]) 7 S rfl rfl rfl rfl (by kernel_rfl) rfl (fun _ d _ _ _ h => by cases d <;> exact h) (fun w => y_extract S rfl rfl) ?_; clear S a; intro a S
            refine k_one (listed' := #[true, true, true, true, true, true, true, true, true, true, true, false, false]) 10 rfl (by kernel_rfl) rfl ?_
            refine st_store (sz := 1) (us := [_]) S M 1 rfl (by kernel_rfl) rfl rfl rfl rfl rfl rfl (by first | decide | (simp; done) | (simp; omega)) ?_; clear M; intro w62 M
            simp only [putL, List.set_cons_zero, List.set_cons_succ, Nat.reduceAdd] at M
            refine wpList_nil ?_; refine then_normal ?_; refine ⟨fun h => absurd h (by decide), ?_⟩
            refine k_one (listed' := #[true, true, true, true, true, true, true, true, true, true, true, true, false]) 11 rfl (by kernel_rfl) rfl ?_
            refine st_store (sz := 3) (us := [_, _, _]) S M 2 rfl (by kernel_rfl) rfl rfl rfl rfl rfl rfl (by first | decide | (simp; done) | (simp; omega)) ?_; clear M; intro w63 M
            simp only [putL, List.set_cons_zero, List.set_cons_succ, Nat.reduceAdd] at M
            refine wpList_nil ?_; refine then_normal ?_; refine ⟨fun h => absurd h (by decide), ?_⟩
            refine k_pure (listed' := #[true, true, true, true, true, true, true, true, true, true, true, true, true]) 12 S rfl rfl rfl rfl (by kernel_rfl) rfl (fun _ d _ _ _ h => by cases d <;> exact h) (fun w => y_assign S rfl) ?_; clear S a; intro a S
            refine k_end (by kernel_rfl) ?_
            replace S := S.sub [(0, _), (2, _), (7, _), (10, _), (51, _), (52, _), (53, _), (54, _), (12, _), (13, _), (15, _), (14, _), (16, _)] rfl
            refine then_normal ?_
            replace M := M.drop 4
            simp only [List.eraseIdx_cons_succ, List.eraseIdx_cons_zero] at M
            replace M := M.front 3 rfl
            simp only [List.eraseIdx_cons_succ, List.eraseIdx_cons_zero] at M
            replace M := M.front 2 rfl
            simp only [List.eraseIdx_cons_succ, List.eraseIdx_cons_zero] at M
            replace M := M.front 3 rfl
            simp only [List.eraseIdx_cons_succ, List.eraseIdx_cons_zero] at M
            exact ⟨bD, bT, la2, ma2, ka2, ea2, lc2, mc2, kc2, ec2, _, _, d1, d2, d3, d4, kl2, hkl, S.sub _ rfl, M⟩
        · skip
          refine st_alloc S M rfl rfl #[.slice none 0 0] (by kernel_rfl) ?_; clear S M a; intro a w64 bD S M hB
          refine wpList_nil ?_; refine then_normal ?_; refine ⟨fun _ => hB, ?_⟩
          refine k_one (listed' := #[true, true, true, false, false, false, false, false, true, true, false, false, false]) 2 rfl (by kernel_rfl) rfl ?_
          refine st_call (xs := [(Operand.tmp 64), (Operand.const (Value.bool true))]) S (enters_of Try.func15 (by decide) rfl) rfl rfl rfl (vote_any (k : Int) true _) ?_
          rintro _ w65 ⟨rfl, hK⟩; refine ⟨_, rfl, ?_⟩; clear S a; intro a S; replace M := M.grow hK
          refine wpList_nil ?_; refine then_normal ?_; refine ⟨fun _ => hK, ?_⟩
          refine k_one (listed' := #[true, true, true, true, false, false, false, false, true, true, false, false, false]) 3 rfl (by kernel_rfl) rfl ?_
          refine st_call (xs := [(Operand.tmp 63), (Operand.tmp 65)]) S (enters_of Try.func9 (by decide) rfl) rfl rfl rfl (hearC_any la lc c1 (stA n s) (voteM (k : Int) true) _ [] _ (M.outAt 3 rfl).1 (fun q hq => by simp [stA] at hq; subst hq; show n ≤ _; omega) (Rd.nil _ _ _ _)) ?_
          rintro _ w66 ⟨er2, r2, hR, hc2⟩
          obtain ⟨rfl, hr2⟩ : er2 = 0 ∧ HearP (stA n s) (voteM (k : Int) true) r2 := by
            rcases hc2 with ⟨h1, -, -, h2⟩ | ⟨-, h, -⟩
            · exact ⟨h1, h2⟩
            · exact absurd ⟨mach_stA hsh hs, (name_may hk).1⟩ h
          obtain ⟨kl2, rfl, hkl⟩ := vote_hear ⟨by omega, hn31.2⟩ hs hk hr2
          obtain ⟨cv2, mv2, kv2, ev2, rfl, hK, hO2⟩ := hR
          obtain ⟨la2, lc2, ma2, mc2, ka2, kc2, ea2, ec2, rfl, rfl, rfl, rfl⟩ := hO2.form
          obtain ⟨d1, d2, d3, d4, hO2⟩ := hO2.cells
          refine ⟨_, rfl, ?_⟩; clear S a hr2 hc2; intro a S; replace M := M.out hK hO2
          refine wpList_nil ?_; refine then_normal ?_; refine ⟨fun _ => hK, ?_⟩
          refine k_pure (listed' := #[true, true, true, true, true, false, false, false, true, true, false, false, false]) 4 S rfl rfl rfl rfl (by kernel_rfl) rfl (fun _ d _ _ _ h => by cases d <;> exact h) (fun w => y_move S rfl) ?_; clear S a; intro a S
          refine k_pure (listed' := #[true, true, true, true, true, true, false, false, true, true, false, false, false]) 5 S rfl rfl rfl rfl (by kernel_rfl) rfl (fun _ d _ _ _ h => by cases d <;> exact h) (fun w => y_extract S rfl rfl) ?_; clear S a; intro a S
          refine k_pure (listed' := #[true, true, true, true, true, true, true, false, true, true, false, false, false]) 6 S rfl rfl rfl rfl (by kernel_rfl) rfl (fun _ d _ _ _ h => by cases d <;> exact h) (fun w => y_extract S rfl rfl) ?_; clear S a; intro a S
          refine k_pure (listed' := #[true, true, true, true, true, true, true, true, true, true, false, false, false]) 7 S rfl rfl rfl rfl (by kernel_rfl) rfl (fun _ d _ _ _ h => by cases d <;> exact h) (fun w => y_extract S rfl rfl) ?_; clear S a; intro a S
          refine k_one (listed' := #[true, true, true, true, true, true, true, true, true, true, true, false, false]) 10 rfl (by kernel_rfl) rfl ?_
          refine st_store (sz := 1) (us := [_]) S M 1 rfl (by kernel_rfl) rfl rfl rfl rfl rfl rfl (by first | decide | (simp; done) | (simp; omega)) ?_; clear M; intro w67 M
          simp only [putL, List.set_cons_zero, List.set_cons_succ, Nat.reduceAdd] at M
          refine wpList_nil ?_; refine then_normal ?_; refine ⟨fun h => absurd h (by decide), ?_⟩
          refine k_one (listed' := #[true, true, true, true, true, true, true, true, true, true, true, true, false]) 11 rfl (by kernel_rfl) rfl ?_
          refine st_store (sz := 3) (us := [_, _, _]) S M 2 rfl (by kernel_rfl) rfl rfl rfl rfl rfl rfl (by first | decide | (simp; done) | (simp; omega)) ?_; clear M; intro w68 M
          simp only [putL, List.set_cons_zero, List.set_cons_succ, Nat.reduceAdd] at M
          refine wpList_nil ?_; refine then_normal ?_; refine ⟨fun h => absurd h (by decide), ?_⟩
          refine k_pure (listed' := #[true, true, true, true, true, true, true, true, true, true, true, true, true]) 12 S rfl rfl rfl rfl (by kernel_rfl) rfl (fun _ d _ _ _ h => by cases d <;> exact h) (fun w => y_assign S rfl) ?_; clear S a; intro a S
          refine k_end (by kernel_rfl) ?_
          replace S := S.sub [(0, _), (2, _), (7, _), (10, _), (51, _), (52, _), (53, _), (54, _), (12, _), (13, _), (15, _), (14, _), (16, _)] rfl
          refine then_normal ?_
          replace M := M.drop 4
          simp only [List.eraseIdx_cons_succ, List.eraseIdx_cons_zero] at M
          replace M := M.front 3 rfl
          simp only [List.eraseIdx_cons_succ, List.eraseIdx_cons_zero] at M
          replace M := M.front 2 rfl
          simp only [List.eraseIdx_cons_succ, List.eraseIdx_cons_zero] at M
          replace M := M.front 3 rfl
          simp only [List.eraseIdx_cons_succ, List.eraseIdx_cons_zero] at M
          exact ⟨bD, bT, la2, ma2, ka2, ea2, lc2, mc2, kc2, ec2, _, _, d1, d2, d3, d4, kl2, hkl, S.sub _ rfl, M⟩
    clear S a M; intro a wc
    rintro ⟨bD, bT, la2, ma2, ka2, ea2, lc2, mc2, kc2, ec2, lo2, hi2, d1, d2, d3, d4, kl2, hkl, S, M⟩
    refine wp_seq ?_
    refine nxD ?_
    refine st_go [1, 1] S rfl (by kernel_rfl) ?_; clear S a; intro a S
    refine nxC ?_
    refine st_if (t := 71) S rfl ?_ ?_
    · clear S; intro h71 S
      exact absurd rfl h71
    clear S; intro h71 S
    refine st_condF S rfl ?_
    refine wp_skip ?_
    refine then_normal ?_
    refine wp_seq ?_
    refine nxD ?_
    refine st_go [1, 1] S rfl (by kernel_rfl) ?_; clear S a; intro a S
    (first | refine st_y S rfl rfl rfl (y_shrN S rfl rfl (by omega)) ?_ | refine st_y S rfl rfl rfl (y_shr S rfl rfl (by omega)) ?_); clear S a; intro a S
    refine st_y S rfl rfl rfl (y_int S rfl rfl rfl) ?_; clear S a; intro a S
    refine st_go [1] S rfl (by kernel_rfl) ?_; clear S a; intro a S
    refine nxC ?_
    refine st_tils (t := 76) S rfl ?_ ?_
    · clear S; intro h76 S
      refine st_condF S rfl ?_
      refine wp_seq ?_
      have hbit : ¬ bitK n k = true := by unfold bitK andV; rw [Int.toNat_natCast] at h76; rw [h76]; simp
      have hnx : nxt n s k = s := by unfold nxt; rw [if_neg hbit]
      refine wp_region_lit ?_
      refine st_run [2, 1] S M rfl (by kernel_rfl) ?_; clear S a; intro a S
      refine st_y S rfl rfl rfl (y_lenS (E := 97) S rfl (by kernel_rfl)) ?_; clear S a; intro a S
      refine st_run [1, 1] S M rfl (by kernel_rfl) ?_; clear S a; intro a S
      refine st_y S rfl rfl rfl (y_lenS (E := 36) S rfl (by kernel_rfl)) ?_; clear S a; intro a S
      (first | refine st_y S rfl rfl rfl (y_addN S rfl rfl (by omega)) ?_ | refine st_y S rfl rfl rfl (y_int S rfl rfl rfl) ?_); clear S a; intro a S
      refine st_go [1] S rfl (by kernel_rfl) ?_; clear S a; intro a S
      refine nxC ?_
      refine st_if (t := 102) S rfl ?_ ?_
      · clear S; intro h102 S
        exfalso
        have := hkl.2 (fun h => h.2 (by rw [← hnx]; exact h.1))
        rw [this] at h102; (first | omega | (revert h102; decide))
      clear S; intro h102 S
      refine st_condF S rfl ?_
      refine wp_skip ?_
      refine nxF ?_
      refine st_y S rfl rfl rfl (y_loadAgg (cs := [_]) S (by kernel_rfl) rfl rfl (M.cellsAt (k := 1) 1 rfl rfl)) ?_; clear S a; intro a S
      refine st_store (sz := 1) (us := [_]) S M 2 rfl (by kernel_rfl) rfl rfl rfl rfl rfl rfl (by first | decide | (simp; done) | (simp; omega)) ?_; clear M; intro w71 M
      simp only [putL, List.set_cons_zero, List.set_cons_succ, Nat.reduceAdd] at M
      refine wpList_nil ?_
      refine block_normal ?_
      refine nxF ?_
      (first | refine st_y S rfl rfl rfl (y_addN S rfl rfl (by omega)) ?_ | refine st_y S rfl rfl rfl (y_int S rfl rfl rfl) ?_); clear S a; intro a S
      refine st_go [1] S rfl (by kernel_rfl) ?_; clear S a; intro a S
      replace S := S.sub [(0, _), (2, _), (7, _), (10, _), (13, _), (14, _), (15, _), (16, _), (51, _), (52, _), (71, _), (76, _), (102, _), (53, _)] rfl
      refine nxC ?_
      skip
      replace M := M.drop 0
      simp only [List.eraseIdx_cons_succ, List.eraseIdx_cons_zero] at M
      replace M := M.drop 0
      simp only [List.eraseIdx_cons_succ, List.eraseIdx_cons_zero] at M
      exact ⟨zs.length - (i + 1), by omega, i + 1, nxt n s k, la2, ma2, ka2, ea2, lc2, _, mc2, _, kc2, _, ec2, lo2, hi2, d1, d2, d3, d4, _, _, _, by omega, rfl, (nxt_ok ⟨by omega, hn31.2⟩ hs hk).1, by first | exact S.sub _ rfl | (rw [hnx]; exact S.sub _ rfl), M⟩
    clear S; intro h76 S
    refine st_condT S rfl ?_
    refine wp_seq ?_
    have hbit : bitK n k = true := by unfold bitK andV; rw [Int.toNat_natCast] at h76; exact h76
    have hnx : nxt n s k = orV s (1 * 2 ^ k) := by unfold nxt; rw [if_pos hbit]
    refine wp_region_lit ?_
    refine st_go [1, 1] S rfl (by kernel_rfl) ?_; clear S a; intro a S
    refine nxA ?_
    refine st_go [1, 1] S rfl (by kernel_rfl) ?_; clear S a; intro a S
    (first | refine st_y S rfl rfl rfl (y_shlN S rfl rfl (by omega) (by exact shl4 hk)) ?_ | refine st_y S rfl rfl rfl (y_shl S rfl rfl (by omega)) ?_); clear S a; intro a S
    (first | refine st_y S rfl rfl rfl (y_orN S rfl rfl (by omega) (by omega)) ?_ | refine st_y S rfl rfl rfl (y_int S rfl rfl rfl) ?_); clear S a; intro a S
    refine st_go [1] S rfl (by kernel_rfl) ?_; clear S a; intro a S
    refine nxC ?_
    refine wp_seq ?_
    have hnx2 : (orV s (1 * 2 ^ k)) = IntKind.i64.wrap (BitVec.ofInt IntKind.i64.bits s ||| BitVec.ofInt IntKind.i64.bits (1 * 2 ^ (k : Int).toNat)).toNat := rfl
    rw [← hnx2, ← hnx] at S
    refine wp_region_lit ?_
    refine st_run [2, 1] S M rfl (by kernel_rfl) ?_; clear S a; intro a S
    refine st_y S rfl rfl rfl (y_lenS (E := 97) S rfl (by kernel_rfl)) ?_; clear S a; intro a S
    refine st_go [1, 1, 1, 1, 1] S rfl (by kernel_rfl) ?_; clear S a; intro a S
    refine st_if (t := 89) S rfl ?_ ?_
    · clear S; intro h89 S
      refine st_go [1, 1, 1, 1] S rfl (by kernel_rfl) ?_; clear S a; intro a S
      refine st_y S rfl rfl rfl (y_neqBool (by kernel_rfl) S rfl rfl) ?_; clear S a; intro a S
      replace S := S.sub [(0, _), (2, _), (7, _), (13, _), (14, _), (15, _), (16, _), (51, _), (52, _), (53, _), (71, _), (76, _), (17, _), (10, _), (94, _)] rfl
      refine nxC ?_
      refine st_split (t := 94) S rfl ?_ ?_
      · clear S; intro h94 S
        exfalso
        have hk1 : ((kl2.length : Int) == 1) = decide (nxt n s k = n ∧ s ≠ n) := by
          by_cases g : nxt n s k = n ∧ s ≠ n
          · rw [hkl.1 g, decide_eq_true g]; rfl
          · rw [hkl.2 g, decide_eq_false g]; rfl
        refine bool_ne (hk1.trans ?_) h94
        rw [Bool.eq_iff_iff]
        clear S M
        first
          | (simp only [decide_eq_true_eq, bne_iff_ne, ne_eq]; omega)
          | (simp only [decide_eq_true_eq, Bool.false_eq_true, iff_false]; omega)
      clear S; intro h94 S
      refine st_condF S rfl ?_
      refine wp_skip ?_
      refine nxF ?_
      refine st_y S rfl rfl rfl (y_loadAgg (cs := [_]) S (by kernel_rfl) rfl rfl (M.cellsAt (k := 1) 1 rfl rfl)) ?_; clear S a; intro a S
      refine st_store (sz := 1) (us := [_]) S M 2 rfl (by kernel_rfl) rfl rfl rfl rfl rfl rfl (by first | decide | (simp; done) | (simp; omega)) ?_; clear M; intro w69 M
      simp only [putL, List.set_cons_zero, List.set_cons_succ, Nat.reduceAdd] at M
      refine wpList_nil ?_
      refine block_normal ?_
      refine nxF ?_
      (first | refine st_y S rfl rfl rfl (y_addN S rfl rfl (by omega)) ?_ | refine st_y S rfl rfl rfl (y_int S rfl rfl rfl) ?_); clear S a; intro a S
      refine st_go [1] S rfl (by kernel_rfl) ?_; clear S a; intro a S
      refine nxC ?_
      skip
      replace M := M.drop 0
      simp only [List.eraseIdx_cons_succ, List.eraseIdx_cons_zero] at M
      replace M := M.drop 0
      simp only [List.eraseIdx_cons_succ, List.eraseIdx_cons_zero] at M
      exact ⟨zs.length - (i + 1), by omega, i + 1, nxt n s k, la2, ma2, ka2, ea2, lc2, _, mc2, _, kc2, _, ec2, lo2, hi2, d1, d2, d3, d4, _, _, _, by omega, rfl, (nxt_ok ⟨by omega, hn31.2⟩ hs hk).1, by first | exact S.sub _ rfl | (rw [hnx]; exact S.sub _ rfl), M⟩
    clear S; intro h89 S
    refine st_go [0, 0, 0, 1] S rfl (by kernel_rfl) ?_; clear S a; intro a S
    refine st_y S rfl rfl rfl (y_neqBool (by kernel_rfl) S rfl rfl) ?_; clear S a; intro a S
    replace S := S.sub [(0, _), (2, _), (7, _), (13, _), (14, _), (15, _), (16, _), (51, _), (52, _), (53, _), (71, _), (76, _), (17, _), (10, _), (94, _)] rfl
    refine nxC ?_
    refine st_split (t := 94) S rfl ?_ ?_
    · clear S; intro h94 S
      exfalso
      have hk1 : ((kl2.length : Int) == 1) = decide (nxt n s k = n ∧ s ≠ n) := by
        by_cases g : nxt n s k = n ∧ s ≠ n
        · rw [hkl.1 g, decide_eq_true g]; rfl
        · rw [hkl.2 g, decide_eq_false g]; rfl
      refine bool_ne (hk1.trans ?_) h94
      rw [Bool.eq_iff_iff]
      clear S M
      first
        | (simp only [decide_eq_true_eq, bne_iff_ne, ne_eq]; omega)
        | (simp only [decide_eq_true_eq, Bool.false_eq_true, iff_false]; omega)
    clear S; intro h94 S
    refine st_condF S rfl ?_
    refine wp_skip ?_
    refine nxF ?_
    refine st_y S rfl rfl rfl (y_loadAgg (cs := [_]) S (by kernel_rfl) rfl rfl (M.cellsAt (k := 1) 1 rfl rfl)) ?_; clear S a; intro a S
    refine st_store (sz := 1) (us := [_]) S M 2 rfl (by kernel_rfl) rfl rfl rfl rfl rfl rfl (by first | decide | (simp; done) | (simp; omega)) ?_; clear M; intro w70 M
    simp only [putL, List.set_cons_zero, List.set_cons_succ, Nat.reduceAdd] at M
    refine wpList_nil ?_
    refine block_normal ?_
    refine nxF ?_
    (first | refine st_y S rfl rfl rfl (y_addN S rfl rfl (by omega)) ?_ | refine st_y S rfl rfl rfl (y_int S rfl rfl rfl) ?_); clear S a; intro a S
    refine st_go [1] S rfl (by kernel_rfl) ?_; clear S a; intro a S
    refine nxC ?_
    skip
    replace M := M.drop 0
    simp only [List.eraseIdx_cons_succ, List.eraseIdx_cons_zero] at M
    replace M := M.drop 0
    simp only [List.eraseIdx_cons_succ, List.eraseIdx_cons_zero] at M
    exact ⟨zs.length - (i + 1), by omega, i + 1, nxt n s k, la2, ma2, ka2, ea2, lc2, _, mc2, _, kc2, _, ec2, lo2, hi2, d1, d2, d3, d4, _, _, _, by omega, rfl, (nxt_ok ⟨by omega, hn31.2⟩ hs hk).1, by first | exact S.sub _ rfl | (rw [hnx]; exact S.sub _ rfl), M⟩
  clear S; intro h54 S
  refine st_condF S rfl ?_
  refine wp_exit ?_
  refine then_exit ?_
  refine then_exit ?_
  refine block_hit ?_
  refine then_normal ?_
  refine wp_seq ?_
  refine nxD ?_
  refine st_go [1, 1, 1] S rfl (by kernel_rfl) ?_; clear S a; intro a S
  refine nxC ?_
  refine st_if (t := 107) S rfl ?_ ?_
  · clear S; intro h107 S
    refine st_condT S rfl ?_
    refine wp_seq ?_
    refine wp_quiet M (by kernel_rfl) (by kernel_rfl) ?_
    refine qt_y S rfl rfl rfl (fun w M => y_loadAgg (cs := [_]) S (by kernel_rfl) rfl rfl (M.cellsAt (k := 1) 0 rfl rfl)) ?_; clear S a; intro a S
    refine qt_call (xs := [(Operand.const (Value.int IntKind.i64 1))]) S (enters_of Try.func14 (by decide) rfl) rfl rfl rfl (quiet_of fun w M => name21_any 1 _) ?_; clear S a; intro a S
    refine qt_call (xs := [(Operand.tmp 108), (Operand.tmp 109)]) S (enters_of Try.func12 (by decide) rfl) rfl rfl rfl (quiet_of fun w M => phaseIs_any la lc c1 (stA n s) nm1 _ (M.outAt 1 rfl).1 (fun p hp => (phase_stA hsh hs hp).trans (if_neg h107))) ?_; clear S a; intro a S
    refine qt_y S rfl rfl rfl (fun w M => y_int S rfl rfl rfl) ?_; clear S a; intro a S
    refine qt_y S rfl rfl rfl (fun w M => y_move S rfl) ?_; clear S a; intro a S
    refine st_fi (t := 112) S rfl ?_ ?_
    · clear S; intro h112 S
      exfalso; exact absurd rfl h112
    clear S; intro h112 S
    refine qt_call (xs := []) S (enters_of Try.func8 (by decide) rfl) rfl rfl rfl (quiet_of fun w M => wakes21_any _) ?_; clear S a; intro a S
    refine qt_y S rfl rfl rfl (fun w M => y_pickT S rfl rfl) ?_; clear S a; intro a S
    refine qt_y S rfl rfl rfl (fun w M => y_assign S rfl) ?_; clear S a; intro a S
    refine wpQuiet_nil ?_; clear M; intro w75 M
    refine then_normal ?_
    refine wp_ret ?_
    refine then_ret ?_
    refine end_one S rfl (res_tmp rfl) ?_
    exact ⟨rfl, M.below⟩
  clear S; intro h107 S
  refine st_condF S rfl ?_
  refine wp_skip ?_
  refine then_normal ?_
  refine wp_seq ?_
  obtain rfl : n = s := by omega
  refine wp_regionK [7] #[false, false, false, false, false, false, false, false, false] rfl M (by kernel_rfl) ?_; clear M; intro w76 M
  refine k_read (listed' := #[true, false, false, false, false, false, false, false, false]) 0 S rfl rfl rfl rfl (by kernel_rfl) rfl (fun _ d _ _ _ h => by cases d <;> exact h) (fun w hW => have M := M.grow hW; y_loadAgg (cs := [_]) S (by kernel_rfl) rfl rfl (M.cellsAt (k := 1) 0 rfl rfl)) ?_; clear S a; intro a S
  refine k_one (listed' := #[true, true, false, false, false, false, false, false, false]) 1 rfl (by kernel_rfl) rfl ?_
  refine st_call (xs := [(Operand.const (Value.int IntKind.i64 1))]) S (enters_of Try.func14 (by decide) rfl) rfl rfl rfl (name21_any 1 _) ?_
  rintro _ w77 ⟨rfl, hK⟩; refine ⟨_, rfl, ?_⟩; clear S a; intro a S; replace M := M.grow hK
  refine wpList_nil ?_; refine then_normal ?_; refine ⟨fun _ => hK, ?_⟩
  refine k_one (listed' := #[true, true, true, false, false, false, false, false, false]) 2 rfl (by kernel_rfl) rfl ?_
  refine st_call (xs := [(Operand.tmp 116), (Operand.tmp 117), (Operand.const (Value.bool true))]) S (enters_of Try.func16 (by decide) rfl) rfl rfl rfl (kept_any la lc c1 (stA n n) nm1 _ (M.outAt 1 rfl).1 (fun q hq => by simp [stA] at hq; subst hq; show n ≤ _; omega)) ?_
  rintro _ w78 ⟨er3, r3, hR, hc3⟩
  obtain ⟨rfl, ml3, el3, rfl⟩ : er3 = 0 ∧ ∃ ml el, r3 = (stB n 0, ml, [], el) := by
    rcases hc3 with ⟨h1, -, k3, q3, h2, h3⟩ | ⟨-, h⟩
    · obtain ⟨ml, el, h4⟩ := kept_stA hn31.1 h2
      exact ⟨h1, ml, el, h3.trans h4⟩
    · exact absurd ⟨mach_stA hsh hs, 0, _, in_stA n⟩ h
  obtain ⟨cv3, mv3, kv3, ev3, rfl, hK, hO3⟩ := hR
  obtain ⟨la3, lc3, ma3, mc3, ka3, kc3, ea3, ec3, rfl, rfl, rfl, rfl⟩ := hO3.form
  obtain ⟨f1, f2, f3, f4, hO3⟩ := hO3.cells
  refine ⟨_, rfl, ?_⟩; clear S a hc3; intro a S; replace M := M.out hK hO3
  refine wpList_nil ?_; refine then_normal ?_; refine ⟨fun _ => hK, ?_⟩
  refine k_pure (listed' := #[true, true, true, true, false, false, false, false, false]) 3 S rfl rfl rfl rfl (by kernel_rfl) rfl (fun _ d _ _ _ h => by cases d <;> exact h) (fun w => y_move S rfl) ?_; clear S a; intro a S
  refine k_pure (listed' := #[true, true, true, true, true, false, false, false, false]) 4 S rfl rfl rfl rfl (by kernel_rfl) rfl (fun _ d _ _ _ h => by cases d <;> exact h) (fun w => y_extract S rfl rfl) ?_; clear S a; intro a S
  refine k_pure (listed' := #[true, true, true, true, true, true, false, false, false]) 5 S rfl rfl rfl rfl (by kernel_rfl) rfl (fun _ d _ _ _ h => by cases d <;> exact h) (fun w => y_extract S rfl rfl) ?_; clear S a; intro a S
  refine k_pure (listed' := #[true, true, true, true, true, true, true, false, false]) 6 S rfl rfl rfl rfl (by kernel_rfl) rfl (fun _ d _ _ _ h => by cases d <;> exact h) (fun w => y_extract S rfl rfl) ?_; clear S a; intro a S
  refine k_one (listed' := #[true, true, true, true, true, true, true, true, false]) 7 rfl (by kernel_rfl) rfl ?_
  refine st_store (sz := 1) (us := [_]) S M 1 rfl (by kernel_rfl) rfl rfl rfl rfl rfl rfl (by first | decide | (simp; done) | (simp; omega)) ?_; clear M; intro w79 M
  simp only [putL, List.set_cons_zero, List.set_cons_succ, Nat.reduceAdd] at M
  refine wpList_nil ?_; refine then_normal ?_; refine ⟨fun h => absurd h (by decide), ?_⟩
  refine k_pure (listed' := #[true, true, true, true, true, true, true, true, true]) 8 S rfl rfl rfl rfl (by kernel_rfl) rfl (fun _ d _ _ _ h => by cases d <;> exact h) (fun w => y_assign S rfl) ?_; clear S a; intro a S
  refine k_end (by kernel_rfl) ?_
  refine then_normal ?_
  refine wp_seq ?_
  refine nxD ?_
  refine st_go [1, 1] S rfl (by kernel_rfl) ?_; clear S a; intro a S
  refine nxC ?_
  refine st_if (t := 123) S rfl ?_ ?_
  · clear S; intro h123 S
    exfalso; exact absurd rfl h123
  clear S; intro h123 S
  refine st_condF S rfl ?_
  refine wp_skip ?_
  refine nxE ?_
  refine st_go [1] S rfl (by kernel_rfl) ?_; clear S a; intro a S
  refine nxC ?_
  refine wp_seq ?_
  refine nxD ?_
  refine st_go [1] S rfl (by kernel_rfl) ?_; clear S a; intro a S
  refine st_y S rfl rfl rfl (y_lenS (E := 3) S rfl (by kernel_rfl)) ?_; clear S a; intro a S
  refine st_go [1] S rfl (by kernel_rfl) ?_; clear S a; intro a S
  refine nxC ?_
  refine wp_block ?_
  refine wp_loop_g (fun m a w' => ∃ (i : Nat) (g : Int) (la ma ka ea : Option Addr) (lc mn mc kn kc en ec lo hi : Nat) (c1 c2 c3 c4 : List Value) (ml : Mls) (kl : Kl) (el : El), i ≤ ys.length ∧ m = ys.length - i ∧ Within n g ∧ Sees 182 a [(0, .int .i64 n), (7, .pointer (some ⟨bC, 0, none⟩)), (18, .int .i64 g), (124, .slice vb ys.length vd), (125, .int .i64 (ys.length : Int)), (126, .int .i64 (i : Int))] ∧ Mem w w' [.blk bC #[.slice la (stB n g).length lc] 24, outE c1 c2 c3 c4 lo hi (.slice la (stB n g).length lc) (.slice ma mn mc) (.slice ka kn kc) (.slice ea en ec) (stB n g, ml, kl, el)]) (ys.length) ?_ ?_
  · skip
    replace M := M.drop 2
    simp only [List.eraseIdx_cons_succ, List.eraseIdx_cons_zero] at M
    replace M := M.front 1 rfl
    simp only [List.eraseIdx_cons_succ, List.eraseIdx_cons_zero] at M
    exact ⟨0, 0, la3, ma3, ka3, ea3, lc3, _, mc3, _, kc3, _, ec3, _, _, f1, f2, f3, f4, _, _, _, Nat.zero_le _, rfl, ⟨by omega, andNot0 n⟩, S.sub _ rfl, M⟩
  clear S M a; intro m a wl
  rintro ⟨i, g, la, ma, ka, ea, lc, mn, mc, kn, kc, en, ec, lo, hi, c1, c2, c3, c4, ml, kl, el, hi', rfl, hg, S, M⟩
  refine nxD ?_
  refine st_go [1] S rfl (by kernel_rfl) ?_; clear S a; intro a S
  refine nxC ?_
  refine wp_seq ?_
  refine st_fi (t := 127) S rfl ?_ ?_
  · clear S; intro h127 S
    refine st_condF S rfl ?_
    refine wp_exit ?_
    refine then_exit ?_
    refine then_exit ?_
    refine block_hit ?_
    refine then_normal ?_
    refine wp_seq ?_
    refine wp_quiet M (by kernel_rfl) (by kernel_rfl) ?_
    refine qt_y S rfl rfl rfl (fun w M => y_loadAgg (cs := [_]) S (by kernel_rfl) rfl rfl (M.cellsAt (k := 1) 0 rfl rfl)) ?_; clear S a; intro a S
    refine qt_call (xs := [(Operand.const (Value.int IntKind.i64 1))]) S (enters_of Try.func14 (by decide) rfl) rfl rfl rfl (quiet_of fun w M => name21_any 1 _) ?_; clear S a; intro a S
    refine qt_call (xs := [(Operand.tmp 171), (Operand.tmp 172)]) S (enters_of Try.func12 (by decide) rfl) rfl rfl rfl (quiet_of fun w M => phaseIs_any la lc c1 (stB n g) nm1 _ (M.outAt 1 rfl).1 (fun p hp => phase_stB hsh hg hp)) ?_; clear S a; intro a S
    refine qt_y S rfl rfl rfl (fun w M => y_int S rfl rfl rfl) ?_; clear S a; intro a S
    refine qt_y S rfl rfl rfl (fun w M => y_move S rfl) ?_; clear S a; intro a S
    refine qt_y S rfl rfl rfl (fun w M => y_move S rfl) ?_; clear S a; intro a S
    refine qt_y S rfl rfl rfl (fun w M => y_int S rfl rfl rfl) ?_; clear S a; intro a S
    refine qt_y S rfl rfl rfl (fun w M => y_eqlBool (by kernel_rfl) S rfl rfl) ?_; clear S a; intro a S
    refine qt_y S rfl rfl rfl (fun w M => y_move S rfl) ?_; clear S a; intro a S
    refine st_tils (t := 179) S rfl ?_ ?_
    · clear S; intro h179 S
      exfalso
      by_cases g2 : g = n <;> simp [g2] at h179
    clear S; intro h179 S
    refine qt_call (xs := []) S (enters_of Try.func8 (by decide) rfl) rfl rfl rfl (quiet_of fun w M => wakes21_any _) ?_; clear S a; intro a S
    refine qt_y S rfl rfl rfl (fun w M => y_pickT S rfl rfl) ?_; clear S a; intro a S
    refine qt_y S rfl rfl rfl (fun w M => y_assign S rfl) ?_; clear S a; intro a S
    refine wpQuiet_nil ?_; clear M; intro w146 M
    refine then_normal ?_
    refine wp_ret ?_
    refine end_one S rfl (res_tmp rfl) ?_
    exact ⟨rfl, M.below⟩
  clear S; intro h127 S
  refine st_condT S rfl ?_
  refine wp_skip ?_
  refine then_normal ?_
  refine wp_seq ?_
  refine wp_block ?_
  refine wp_seq ?_
  obtain ⟨z, hz⟩ : ∃ z, ys[i]? = some z := ⟨_, List.getElem?_eq_getElem (by omega)⟩
  refine wp_region_lit ?_
  refine st_y S rfl rfl rfl (y_indexR (e := 3) (sz := 1) S (by kernel_rfl) rfl ((M.arg hu)) rfl (by first | omega | (simp; done) | (simp; omega))) ?_; clear S a; intro a S
  try simp only [Int.toNat_natCast, Nat.mul_one, Nat.zero_add] at S
  refine st_y S rfl rfl rfl (y_load S (by kernel_rfl) rfl ((M.arg hu).icell (i := i) hz)) ?_; clear S a; intro a S
  refine st_go [1] S rfl (by kernel_rfl) ?_; clear S a; intro a S
  refine nxC ?_
  refine wp_seq ?_
  have hz1 := tmod_bd z
  have hz2 := tmod_bd2 (z.tmod 4 + 4) (by omega)
  obtain ⟨k, hke, hk⟩ := shard_of z
  refine wp_region_lit ?_
  refine st_go [1] S rfl (by kernel_rfl) ?_; clear S a; intro a S
  (first | refine st_y S rfl rfl rfl (y_remN S rfl rfl (by omega)) ?_ | refine st_y S rfl rfl rfl (y_remZ S rfl rfl (by omega)) ?_); clear S a; intro a S
  (first | refine st_y S rfl rfl rfl (y_addN S rfl rfl (by omega)) ?_ | refine st_y S rfl rfl rfl (y_int S rfl rfl rfl) ?_); clear S a; intro a S
  (first | refine st_y S rfl rfl rfl (y_remN S rfl rfl (by omega)) ?_ | refine st_y S rfl rfl rfl (y_remZ S rfl rfl (by omega)) ?_); clear S a; intro a S
  (first | refine st_y S rfl rfl rfl (y_addN S rfl rfl (by omega)) ?_ | refine st_y S rfl rfl rfl (y_int S rfl rfl rfl) ?_); clear S a; intro a S
  refine st_go [1] S rfl (by kernel_rfl) ?_; clear S a; intro a S
  refine nxC ?_
  refine wp_cut (fun a w' => ∃ (bD bT : Nat) (la2 ma2 ka2 ea2 : Option Addr) (lc2 mc2 kc2 ec2 lo2 hi2 : Nat) (d1 d2 d3 d4 : List Value) (ml2 : Mls) (kl2 : Kl), ((nxt n g k = n ∧ g ≠ n → kl2.length = 1) ∧ (¬ (nxt n g k = n ∧ g ≠ n) → kl2.length = 0)) ∧ Sees 182 a [(0, .int .i64 n), (7, .pointer (some ⟨bC, 0, none⟩)), (18, .int .i64 g), (21, .int .i64 (k : Int)), (22, .pointer (some ⟨bD, 0, none⟩)), (23, .pointer (some ⟨bT, 0, none⟩)), (24, .int .i64 0), (124, .slice vb ys.length vd), (125, .int .i64 (ys.length : Int)), (126, .int .i64 (i : Int))] ∧ Mem w w' [.blk bT #[.slice ma2 ml2.length mc2, .slice ka2 kl2.length kc2, .slice ea2 0 ec2] 41, .blk bD #[.slice la2 (stB n (nxt n g k)).length lc2] 24, .blk bC #[.slice la (stB n g).length lc] 24, outE d1 d2 d3 d4 lo2 hi2 (.slice la2 (stB n (nxt n g k)).length lc2) (.slice ma2 ml2.length mc2) (.slice ka2 kl2.length kc2) (.slice ea2 0 ec2) (stB n (nxt n g k), ml2, kl2, [])]) ?_ ?_
  · skip
    rw [hke] at S
    refine wp_regionK [11, 12] #[false, false, false, false, false, false, false, false, false, false, false, false, false, false] rfl M (by kernel_rfl) ?_; clear M; intro w80 M
    refine k_read (listed' := #[true, false, false, false, false, false, false, false, false, false, false, false, false, false]) 0 S rfl rfl rfl rfl (by kernel_rfl) rfl (fun _ d _ _ _ h => by cases d <;> exact h) (fun w hW => have M := M.grow hW; y_loadAgg (cs := [_]) S (by kernel_rfl) rfl rfl (M.cellsAt (k := 1) 0 rfl rfl)) ?_; clear S a; intro a S
    refine k_pure (listed' := #[true, true, false, false, false, false, false, false, false, false, false, false, false, false]) 1 S rfl rfl rfl rfl (by kernel_rfl) rfl (fun _ d _ _ _ h => by cases d <;> exact h) (fun w => y_move S rfl) ?_; clear S a; intro a S
    refine k_three (l1 := #[true, true, true, false, false, false, false, false, false, false, false, false, false, false]) (l2 := #[true, true, false, false, false, false, false, false, false, true, false, false, false, false]) (l3 := #[true, true, false, false, false, false, false, false, false, false, true, false, false, false]) 2 9 10 rfl rfl rfl (by kernel_rfl) rfl rfl rfl ?_ ?_ ?_
    · skip
      refine st_call (xs := [(Operand.const (Value.int IntKind.i64 1))]) S (enters_of Try.func14 (by decide) rfl) rfl rfl rfl (name21_any 1 _) ?_
      rintro _ w81 ⟨rfl, hK⟩; refine ⟨_, rfl, ?_⟩; clear S a; intro a S; replace M := M.grow hK
      refine wpList_nil ?_; refine then_normal ?_; refine ⟨fun _ => hK, ?_⟩
      refine k_pure (listed' := #[true, true, true, true, false, false, false, false, false, false, false, false, false, false]) 3 S rfl rfl rfl rfl (by kernel_rfl) rfl (fun _ d _ _ _ h => by cases d <;> exact h) (fun w => y_build (ps := [(0, (Operand.const (Value.int IntKind.i8 7))), (1, (Operand.tmp 137)), (3, (Operand.const (Value.int IntKind.i64 1))), (5, (Operand.tmp 138))]) (pl := [(0, 1), (1, 1), (2, 1), (3, 1), (4, 1), (5, 3), (8, 1), (9, 1), (10, 1), (11, 8), (19, 1), (20, 1), (21, 1), (22, 1), (23, 1)]) (z := [.int .i8 0, .int .i64 0, .int .i64 0, .int .i64 0, .int .i64 0, .int .i64 0, .int .i64 0, .int .i64 0, .int .i64 0, .int .i8 0, .int .i64 0, .int .u8 0, .int .u8 0, .int .u8 0, .int .u8 0, .int .u8 0, .int .u8 0, .int .u8 0, .int .u8 0, .int .i64 0, .bool false, .int .i64 0, .int .i64 0, .slice none 0 0]) (cs := [_, _, _, _, _, _, _, _, _, _, _, _, _, _, _, _, _, _, _, _, _, _, _, _]) S (by kernel_rfl) rfl (rfl)) ?_; clear S a; intro a S
      refine k_three (l1 := #[true, true, true, true, true, false, false, false, false, false, false, false, false, false]) (l2 := #[true, true, true, true, false, false, false, false, false, true, false, false, false, false]) (l3 := #[true, true, true, true, false, false, false, false, false, false, true, false, false, false]) 4 9 10 rfl rfl rfl (by kernel_rfl) rfl rfl rfl ?_ ?_ ?_
      · skip
        refine st_call (xs := [(Operand.tmp 136), (Operand.tmp 139)]) S (enters_of Try.func9 (by decide) rfl) rfl rfl rfl (hearC_any la lc c1 (stB n g) (ackM (k : Int)) _ [] _ (M.outAt 1 rfl).1 (fun q hq => by
unfold stB at hq; split at hq
· cases hq
· simp at hq; subst hq; show n ≤ _; omega) (Rd.nil _ _ _ _)) ?_
        rintro _ w82 ⟨er2, r2, hR, hc2⟩
        obtain ⟨rfl, hr2⟩ : er2 = 0 ∧ HearP (stB n g) (ackM (k : Int)) r2 := by
          rcases hc2 with ⟨h1, -, -, h2⟩ | ⟨-, h, -⟩
          · exact ⟨h1, h2⟩
          · exact absurd ⟨mach_stB hsh hg, (name_may hk).2⟩ h
        obtain ⟨ml2, kl2, rfl, hkl⟩ := ack_hear ⟨by omega, hn31.2⟩ hg hk hr2
        obtain ⟨cv2, mv2, kv2, ev2, rfl, hK, hO2⟩ := hR
        obtain ⟨la2, lc2, ma2, mc2, ka2, kc2, ea2, ec2, rfl, rfl, rfl, rfl⟩ := hO2.form
        obtain ⟨d1, d2, d3, d4, hO2⟩ := hO2.cells
        refine ⟨_, rfl, ?_⟩; clear S a hr2 hc2; intro a S; replace M := M.out hK hO2
        refine wpList_nil ?_; refine then_normal ?_; refine ⟨fun _ => hK, ?_⟩
        refine k_pure (listed' := #[true, true, true, true, true, true, false, false, false, false, false, false, false, false]) 5 S rfl rfl rfl rfl (by kernel_rfl) rfl (fun _ d _ _ _ h => by cases d <;> exact h) (fun w => y_move S rfl) ?_; clear S a; intro a S
        refine k_pure (listed' := #[true, true, true, true, true, true, true, false, false, false, false, false, false, false]) 6 S rfl rfl rfl rfl (by kernel_rfl) rfl (fun _ d _ _ _ h => by cases d <;> exact h) (fun w => y_extract S rfl rfl) ?_; clear S a; intro a S
        refine k_pure (listed' := #[true, true, true, true, true, true, true, true, false, false, false, false, false, false]) 7 S rfl rfl rfl rfl (by kernel_rfl) rfl (fun _ d _ _ _ h => by cases d <;> exact h) (fun w => y_extract S rfl rfl) ?_; clear S a; intro a S
        refine k_pure (listed' := #[true, true, true, true, true, true, true, true, true, false, false, false, false, false]) 8 S rfl rfl rfl rfl (by kernel_rfl) rfl (fun _ d _ _ _ h => by cases d <;> exact h) (fun w => y_extract S rfl rfl) ?_; clear S a; intro a S
        refine k_two (l1 := #[true, true, true, true, true, true, true, true, true, true, false, false, false, false]) (l2 := #[true, true, true, true, true, true, true, true, true, false, true, false, false, false]) 9 10 rfl rfl (by kernel_rfl) rfl rfl ?_ ?_
        · skip
          refine st_alloc S M rfl rfl #[.slice none 0 0] (by kernel_rfl) ?_; clear S M a; intro a w83 bD S M hB
          refine wpList_nil ?_; refine then_normal ?_; refine ⟨fun _ => hB, ?_⟩
          refine k_one (listed' := #[true, true, true, true, true, true, true, true, true, true, true, false, false, false]) 10 rfl (by kernel_rfl) rfl ?_
          refine st_alloc S M rfl rfl #[.slice none 0 0, .slice none 0 0, .slice none 0 0] (by kernel_rfl) ?_; clear S M a; intro a w84 bT S M hB
          refine wpList_nil ?_; refine then_normal ?_; refine ⟨fun _ => hB, ?_⟩
          refine k_one (listed' := #[true, true, true, true, true, true, true, true, true, true, true, true, false, false]) 11 rfl (by kernel_rfl) rfl ?_
          refine st_store (sz := 1) (us := [_]) S M 1 rfl (by kernel_rfl) rfl rfl rfl rfl rfl rfl (by first | decide | (simp; done) | (simp; omega)) ?_; clear M; intro w85 M
          simp only [putL, List.set_cons_zero, List.set_cons_succ, Nat.reduceAdd] at M
          refine wpList_nil ?_; refine then_normal ?_; refine ⟨fun h => absurd h (by decide), ?_⟩
          refine k_one (listed' := #[true, true, true, true, true, true, true, true, true, true, true, true, true, false]) 12 rfl (by kernel_rfl) rfl ?_
          refine st_store (sz := 3) (us := [_, _, _]) S M 0 rfl (by kernel_rfl) rfl rfl rfl rfl rfl rfl (by first | decide | (simp; done) | (simp; omega)) ?_; clear M; intro w86 M
          simp only [putL, List.set_cons_zero, List.set_cons_succ, Nat.reduceAdd] at M
          refine wpList_nil ?_; refine then_normal ?_; refine ⟨fun h => absurd h (by decide), ?_⟩
          refine k_pure (listed' := #[true, true, true, true, true, true, true, true, true, true, true, true, true, true]) 13 S rfl rfl rfl rfl (by kernel_rfl) rfl (fun _ d _ _ _ h => by cases d <;> exact h) (fun w => y_assign S rfl) ?_; clear S a; intro a S
          refine k_end (by kernel_rfl) ?_
          replace S := S.sub [(0, _), (7, _), (18, _), (124, _), (125, _), (126, _), (127, _), (20, _), (21, _), (22, _), (23, _), (24, _)] rfl
          refine then_normal ?_
          replace M := M.drop 4
          simp only [List.eraseIdx_cons_succ, List.eraseIdx_cons_zero] at M
          replace M := M.front 2 rfl
          simp only [List.eraseIdx_cons_succ, List.eraseIdx_cons_zero] at M
          replace M := M.front 3 rfl
          simp only [List.eraseIdx_cons_succ, List.eraseIdx_cons_zero] at M
          replace M := M.front 3 rfl
          simp only [List.eraseIdx_cons_succ, List.eraseIdx_cons_zero] at M
          replace M := M.front 3 rfl
          simp only [List.eraseIdx_cons_succ, List.eraseIdx_cons_zero] at M
          exact ⟨bD, bT, la2, ma2, ka2, ea2, lc2, mc2, kc2, ec2, _, _, d1, d2, d3, d4, ml2, kl2, hkl, S.sub _ rfl, M⟩
        · skip
          refine st_alloc S M rfl rfl #[.slice none 0 0, .slice none 0 0, .slice none 0 0] (by kernel_rfl) ?_; clear S M a; intro a w87 bT S M hB
          refine wpList_nil ?_; refine then_normal ?_; refine ⟨fun _ => hB, ?_⟩
          refine k_one (listed' := #[true, true, true, true, true, true, true, true, true, true, true, false, false, false]) 9 rfl (by kernel_rfl) rfl ?_
          refine st_alloc S M rfl rfl #[.slice none 0 0] (by kernel_rfl) ?_; clear S M a; intro a w88 bD S M hB
          refine wpList_nil ?_; refine then_normal ?_; refine ⟨fun _ => hB, ?_⟩
          refine k_one (listed' := #[true, true, true, true, true, true, true, true, true, true, true, true, false, false]) 11 rfl (by kernel_rfl) rfl ?_
          refine st_store (sz := 1) (us := [_]) S M 0 rfl (by kernel_rfl) rfl rfl rfl rfl rfl rfl (by first | decide | (simp; done) | (simp; omega)) ?_; clear M; intro w89 M
          simp only [putL, List.set_cons_zero, List.set_cons_succ, Nat.reduceAdd] at M
          refine wpList_nil ?_; refine then_normal ?_; refine ⟨fun h => absurd h (by decide), ?_⟩
          refine k_one (listed' := #[true, true, true, true, true, true, true, true, true, true, true, true, true, false]) 12 rfl (by kernel_rfl) rfl ?_
          refine st_store (sz := 3) (us := [_, _, _]) S M 1 rfl (by kernel_rfl) rfl rfl rfl rfl rfl rfl (by first | decide | (simp; done) | (simp; omega)) ?_; clear M; intro w90 M
          simp only [putL, List.set_cons_zero, List.set_cons_succ, Nat.reduceAdd] at M
          refine wpList_nil ?_; refine then_normal ?_; refine ⟨fun h => absurd h (by decide), ?_⟩
          refine k_pure (listed' := #[true, true, true, true, true, true, true, true, true, true, true, true, true, true]) 13 S rfl rfl rfl rfl (by kernel_rfl) rfl (fun _ d _ _ _ h => by cases d <;> exact h) (fun w => y_assign S rfl) ?_; clear S a; intro a S
          refine k_end (by kernel_rfl) ?_
          replace S := S.sub [(0, _), (7, _), (18, _), (124, _), (125, _), (126, _), (127, _), (20, _), (21, _), (23, _), (22, _), (24, _)] rfl
          refine then_normal ?_
          replace M := M.drop 4
          simp only [List.eraseIdx_cons_succ, List.eraseIdx_cons_zero] at M
          replace M := M.front 2 rfl
          simp only [List.eraseIdx_cons_succ, List.eraseIdx_cons_zero] at M
          replace M := M.front 3 rfl
          simp only [List.eraseIdx_cons_succ, List.eraseIdx_cons_zero] at M
          replace M := M.front 2 rfl
          simp only [List.eraseIdx_cons_succ, List.eraseIdx_cons_zero] at M
          replace M := M.front 3 rfl
          simp only [List.eraseIdx_cons_succ, List.eraseIdx_cons_zero] at M
          exact ⟨bD, bT, la2, ma2, ka2, ea2, lc2, mc2, kc2, ec2, _, _, d1, d2, d3, d4, ml2, kl2, hkl, S.sub _ rfl, M⟩
      · skip
        refine st_alloc S M rfl rfl #[.slice none 0 0] (by kernel_rfl) ?_; clear S M a; intro a w91 bD S M hB
        refine wpList_nil ?_; refine then_normal ?_; refine ⟨fun _ => hB, ?_⟩
        refine k_two (l1 := #[true, true, true, true, true, false, false, false, false, true, false, false, false, false]) (l2 := #[true, true, true, true, false, false, false, false, false, true, true, false, false, false]) 4 10 rfl rfl (by kernel_rfl) rfl rfl ?_ ?_
        · skip
          refine st_call (xs := [(Operand.tmp 136), (Operand.tmp 139)]) S (enters_of Try.func9 (by decide) rfl) rfl rfl rfl (hearC_any la lc c1 (stB n g) (ackM (k : Int)) _ [] _ (M.outAt 2 rfl).1 (fun q hq => by
unfold stB at hq; split at hq
· cases hq
· simp at hq; subst hq; show n ≤ _; omega) (Rd.nil _ _ _ _)) ?_
          rintro _ w92 ⟨er2, r2, hR, hc2⟩
          obtain ⟨rfl, hr2⟩ : er2 = 0 ∧ HearP (stB n g) (ackM (k : Int)) r2 := by
            rcases hc2 with ⟨h1, -, -, h2⟩ | ⟨-, h, -⟩
            · exact ⟨h1, h2⟩
            · exact absurd ⟨mach_stB hsh hg, (name_may hk).2⟩ h
          obtain ⟨ml2, kl2, rfl, hkl⟩ := ack_hear ⟨by omega, hn31.2⟩ hg hk hr2
          obtain ⟨cv2, mv2, kv2, ev2, rfl, hK, hO2⟩ := hR
          obtain ⟨la2, lc2, ma2, mc2, ka2, kc2, ea2, ec2, rfl, rfl, rfl, rfl⟩ := hO2.form
          obtain ⟨d1, d2, d3, d4, hO2⟩ := hO2.cells
          refine ⟨_, rfl, ?_⟩; clear S a hr2 hc2; intro a S; replace M := M.out hK hO2
          refine wpList_nil ?_; refine then_normal ?_; refine ⟨fun _ => hK, ?_⟩
          refine k_pure (listed' := #[true, true, true, true, true, true, false, false, false, true, false, false, false, false]) 5 S rfl rfl rfl rfl (by kernel_rfl) rfl (fun _ d _ _ _ h => by cases d <;> exact h) (fun w => y_move S rfl) ?_; clear S a; intro a S
          refine k_pure (listed' := #[true, true, true, true, true, true, true, false, false, true, false, false, false, false]) 6 S rfl rfl rfl rfl (by kernel_rfl) rfl (fun _ d _ _ _ h => by cases d <;> exact h) (fun w => y_extract S rfl rfl) ?_; clear S a; intro a S
          refine k_pure (listed' := #[true, true, true, true, true, true, true, true, false, true, false, false, false, false]) 7 S rfl rfl rfl rfl (by kernel_rfl) rfl (fun _ d _ _ _ h => by cases d <;> exact h) (fun w => y_extract S rfl rfl) ?_; clear S a; intro a S
          refine k_pure (listed' := #[true, true, true, true, true, true, true, true, true, true, false, false, false, false]) 8 S rfl rfl rfl rfl (by kernel_rfl) rfl (fun _ d _ _ _ h => by cases d <;> exact h) (fun w => y_extract S rfl rfl) ?_; clear S a; intro a S
          refine k_one (listed' := #[true, true, true, true, true, true, true, true, true, true, true, false, false, false]) 10 rfl (by kernel_rfl) rfl ?_
          refine st_alloc S M rfl rfl #[.slice none 0 0, .slice none 0 0, .slice none 0 0] (by kernel_rfl) ?_; clear S M a; intro a w93 bT S M hB
          refine wpList_nil ?_; refine then_normal ?_; refine ⟨fun _ => hB, ?_⟩
          refine k_one (listed' := #[true, true, true, true, true, true, true, true, true, true, true, true, false, false]) 11 rfl (by kernel_rfl) rfl ?_
          refine st_store (sz := 1) (us := [_]) S M 2 rfl (by kernel_rfl) rfl rfl rfl rfl rfl rfl (by first | decide | (simp; done) | (simp; omega)) ?_; clear M; intro w94 M
          simp only [putL, List.set_cons_zero, List.set_cons_succ, Nat.reduceAdd] at M
          refine wpList_nil ?_; refine then_normal ?_; refine ⟨fun h => absurd h (by decide), ?_⟩
          refine k_one (listed' := #[true, true, true, true, true, true, true, true, true, true, true, true, true, false]) 12 rfl (by kernel_rfl) rfl ?_
          refine st_store (sz := 3) (us := [_, _, _]) S M 0 rfl (by kernel_rfl) rfl rfl rfl rfl rfl rfl (by first | decide | (simp; done) | (simp; omega)) ?_; clear M; intro w95 M
          simp only [putL, List.set_cons_zero, List.set_cons_succ, Nat.reduceAdd] at M
          refine wpList_nil ?_; refine then_normal ?_; refine ⟨fun h => absurd h (by decide), ?_⟩
          refine k_pure (listed' := #[true, true, true, true, true, true, true, true, true, true, true, true, true, true]) 13 S rfl rfl rfl rfl (by kernel_rfl) rfl (fun _ d _ _ _ h => by cases d <;> exact h) (fun w => y_assign S rfl) ?_; clear S a; intro a S
          refine k_end (by kernel_rfl) ?_
          replace S := S.sub [(0, _), (7, _), (18, _), (124, _), (125, _), (126, _), (127, _), (20, _), (21, _), (22, _), (23, _), (24, _)] rfl
          refine then_normal ?_
          replace M := M.drop 4
          simp only [List.eraseIdx_cons_succ, List.eraseIdx_cons_zero] at M
          replace M := M.front 1 rfl
          simp only [List.eraseIdx_cons_succ, List.eraseIdx_cons_zero] at M
          replace M := M.front 3 rfl
          simp only [List.eraseIdx_cons_succ, List.eraseIdx_cons_zero] at M
          replace M := M.front 3 rfl
          simp only [List.eraseIdx_cons_succ, List.eraseIdx_cons_zero] at M
          replace M := M.front 3 rfl
          simp only [List.eraseIdx_cons_succ, List.eraseIdx_cons_zero] at M
          exact ⟨bD, bT, la2, ma2, ka2, ea2, lc2, mc2, kc2, ec2, _, _, d1, d2, d3, d4, ml2, kl2, hkl, S.sub _ rfl, M⟩
        · skip
          refine st_alloc S M rfl rfl #[.slice none 0 0, .slice none 0 0, .slice none 0 0] (by kernel_rfl) ?_; clear S M a; intro a w96 bT S M hB
          refine wpList_nil ?_; refine then_normal ?_; refine ⟨fun _ => hB, ?_⟩
          refine k_one (listed' := #[true, true, true, true, true, false, false, false, false, true, true, false, false, false]) 4 rfl (by kernel_rfl) rfl ?_
          refine st_call (xs := [(Operand.tmp 136), (Operand.tmp 139)]) S (enters_of Try.func9 (by decide) rfl) rfl rfl rfl (hearC_any la lc c1 (stB n g) (ackM (k : Int)) _ [] _ (M.outAt 3 rfl).1 (fun q hq => by
unfold stB at hq; split at hq
· cases hq
· simp at hq; subst hq; show n ≤ _; omega) (Rd.nil _ _ _ _)) ?_
          rintro _ w97 ⟨er2, r2, hR, hc2⟩
          obtain ⟨rfl, hr2⟩ : er2 = 0 ∧ HearP (stB n g) (ackM (k : Int)) r2 := by
            rcases hc2 with ⟨h1, -, -, h2⟩ | ⟨-, h, -⟩
            · exact ⟨h1, h2⟩
            · exact absurd ⟨mach_stB hsh hg, (name_may hk).2⟩ h
          obtain ⟨ml2, kl2, rfl, hkl⟩ := ack_hear ⟨by omega, hn31.2⟩ hg hk hr2
          obtain ⟨cv2, mv2, kv2, ev2, rfl, hK, hO2⟩ := hR
          obtain ⟨la2, lc2, ma2, mc2, ka2, kc2, ea2, ec2, rfl, rfl, rfl, rfl⟩ := hO2.form
          obtain ⟨d1, d2, d3, d4, hO2⟩ := hO2.cells
          refine ⟨_, rfl, ?_⟩; clear S a hr2 hc2; intro a S; replace M := M.out hK hO2
          refine wpList_nil ?_; refine then_normal ?_; refine ⟨fun _ => hK, ?_⟩
          refine k_pure (listed' := #[true, true, true, true, true, true, false, false, false, true, true, false, false, false]) 5 S rfl rfl rfl rfl (by kernel_rfl) rfl (fun _ d _ _ _ h => by cases d <;> exact h) (fun w => y_move S rfl) ?_; clear S a; intro a S
          refine k_pure (listed' := #[true, true, true, true, true, true, true, false, false, true, true, false, false, false]) 6 S rfl rfl rfl rfl (by kernel_rfl) rfl (fun _ d _ _ _ h => by cases d <;> exact h) (fun w => y_extract S rfl rfl) ?_; clear S a; intro a S
          refine k_pure (listed' := #[true, true, true, true, true, true, true, true, false, true, true, false, false, false]) 7 S rfl rfl rfl rfl (by kernel_rfl) rfl (fun _ d _ _ _ h => by cases d <;> exact h) (fun w => y_extract S rfl rfl) ?_; clear S a; intro a S
          refine k_pure (listed' := #[true, true, true, true, true, true, true, true, true, true, true, false, false, false]) 8 S rfl rfl rfl rfl (by kernel_rfl) rfl (fun _ d _ _ _ h => by cases d <;> exact h) (fun w => y_extract S rfl rfl) ?_; clear S a; intro a S
          refine k_one (listed' := #[true, true, true, true, true, true, true, true, true, true, true, true, false, false]) 11 rfl (by kernel_rfl) rfl ?_
          refine st_store (sz := 1) (us := [_]) S M 2 rfl (by kernel_rfl) rfl rfl rfl rfl rfl rfl (by first | decide | (simp; done) | (simp; omega)) ?_; clear M; intro w98 M
          simp only [putL, List.set_cons_zero, List.set_cons_succ, Nat.reduceAdd] at M
          refine wpList_nil ?_; refine then_normal ?_; refine ⟨fun h => absurd h (by decide), ?_⟩
          refine k_one (listed' := #[true, true, true, true, true, true, true, true, true, true, true, true, true, false]) 12 rfl (by kernel_rfl) rfl ?_
          refine st_store (sz := 3) (us := [_, _, _]) S M 1 rfl (by kernel_rfl) rfl rfl rfl rfl rfl rfl (by first | decide | (simp; done) | (simp; omega)) ?_; clear M; intro w99 M
          simp only [putL, List.set_cons_zero, List.set_cons_succ, Nat.reduceAdd] at M
          refine wpList_nil ?_; refine then_normal ?_; refine ⟨fun h => absurd h (by decide), ?_⟩
          refine k_pure (listed' := #[true, true, true, true, true, true, true, true, true, true, true, true, true, true]) 13 S rfl rfl rfl rfl (by kernel_rfl) rfl (fun _ d _ _ _ h => by cases d <;> exact h) (fun w => y_assign S rfl) ?_; clear S a; intro a S
          refine k_end (by kernel_rfl) ?_
          replace S := S.sub [(0, _), (7, _), (18, _), (124, _), (125, _), (126, _), (127, _), (20, _), (21, _), (22, _), (23, _), (24, _)] rfl
          refine then_normal ?_
          replace M := M.drop 4
          simp only [List.eraseIdx_cons_succ, List.eraseIdx_cons_zero] at M
          replace M := M.front 3 rfl
          simp only [List.eraseIdx_cons_succ, List.eraseIdx_cons_zero] at M
          replace M := M.front 3 rfl
          simp only [List.eraseIdx_cons_succ, List.eraseIdx_cons_zero] at M
          replace M := M.front 3 rfl
          simp only [List.eraseIdx_cons_succ, List.eraseIdx_cons_zero] at M
          exact ⟨bD, bT, la2, ma2, ka2, ea2, lc2, mc2, kc2, ec2, _, _, d1, d2, d3, d4, ml2, kl2, hkl, S.sub _ rfl, M⟩
      · skip
        refine st_alloc S M rfl rfl #[.slice none 0 0, .slice none 0 0, .slice none 0 0] (by kernel_rfl) ?_; clear S M a; intro a w100 bT S M hB
        refine wpList_nil ?_; refine then_normal ?_; refine ⟨fun _ => hB, ?_⟩
        refine k_two (l1 := #[true, true, true, true, true, false, false, false, false, false, true, false, false, false]) (l2 := #[true, true, true, true, false, false, false, false, false, true, true, false, false, false]) 4 9 rfl rfl (by kernel_rfl) rfl rfl ?_ ?_
        · skip
          refine st_call (xs := [(Operand.tmp 136), (Operand.tmp 139)]) S (enters_of Try.func9 (by decide) rfl) rfl rfl rfl (hearC_any la lc c1 (stB n g) (ackM (k : Int)) _ [] _ (M.outAt 2 rfl).1 (fun q hq => by
unfold stB at hq; split at hq
· cases hq
· simp at hq; subst hq; show n ≤ _; omega) (Rd.nil _ _ _ _)) ?_
          rintro _ w101 ⟨er2, r2, hR, hc2⟩
          obtain ⟨rfl, hr2⟩ : er2 = 0 ∧ HearP (stB n g) (ackM (k : Int)) r2 := by
            rcases hc2 with ⟨h1, -, -, h2⟩ | ⟨-, h, -⟩
            · exact ⟨h1, h2⟩
            · exact absurd ⟨mach_stB hsh hg, (name_may hk).2⟩ h
          obtain ⟨ml2, kl2, rfl, hkl⟩ := ack_hear ⟨by omega, hn31.2⟩ hg hk hr2
          obtain ⟨cv2, mv2, kv2, ev2, rfl, hK, hO2⟩ := hR
          obtain ⟨la2, lc2, ma2, mc2, ka2, kc2, ea2, ec2, rfl, rfl, rfl, rfl⟩ := hO2.form
          obtain ⟨d1, d2, d3, d4, hO2⟩ := hO2.cells
          refine ⟨_, rfl, ?_⟩; clear S a hr2 hc2; intro a S; replace M := M.out hK hO2
          refine wpList_nil ?_; refine then_normal ?_; refine ⟨fun _ => hK, ?_⟩
          refine k_pure (listed' := #[true, true, true, true, true, true, false, false, false, false, true, false, false, false]) 5 S rfl rfl rfl rfl (by kernel_rfl) rfl (fun _ d _ _ _ h => by cases d <;> exact h) (fun w => y_move S rfl) ?_; clear S a; intro a S
          refine k_pure (listed' := #[true, true, true, true, true, true, true, false, false, false, true, false, false, false]) 6 S rfl rfl rfl rfl (by kernel_rfl) rfl (fun _ d _ _ _ h => by cases d <;> exact h) (fun w => y_extract S rfl rfl) ?_; clear S a; intro a S
          refine k_pure (listed' := #[true, true, true, true, true, true, true, true, false, false, true, false, false, false]) 7 S rfl rfl rfl rfl (by kernel_rfl) rfl (fun _ d _ _ _ h => by cases d <;> exact h) (fun w => y_extract S rfl rfl) ?_; clear S a; intro a S
          refine k_pure (listed' := #[true, true, true, true, true, true, true, true, true, false, true, false, false, false]) 8 S rfl rfl rfl rfl (by kernel_rfl) rfl (fun _ d _ _ _ h => by cases d <;> exact h) (fun w => y_extract S rfl rfl) ?_; clear S a; intro a S
          refine k_one (listed' := #[true, true, true, true, true, true, true, true, true, true, true, false, false, false]) 9 rfl (by kernel_rfl) rfl ?_
          refine st_alloc S M rfl rfl #[.slice none 0 0] (by kernel_rfl) ?_; clear S M a; intro a w102 bD S M hB
          refine wpList_nil ?_; refine then_normal ?_; refine ⟨fun _ => hB, ?_⟩
          refine k_one (listed' := #[true, true, true, true, true, true, true, true, true, true, true, true, false, false]) 11 rfl (by kernel_rfl) rfl ?_
          refine st_store (sz := 1) (us := [_]) S M 0 rfl (by kernel_rfl) rfl rfl rfl rfl rfl rfl (by first | decide | (simp; done) | (simp; omega)) ?_; clear M; intro w103 M
          simp only [putL, List.set_cons_zero, List.set_cons_succ, Nat.reduceAdd] at M
          refine wpList_nil ?_; refine then_normal ?_; refine ⟨fun h => absurd h (by decide), ?_⟩
          refine k_one (listed' := #[true, true, true, true, true, true, true, true, true, true, true, true, true, false]) 12 rfl (by kernel_rfl) rfl ?_
          refine st_store (sz := 3) (us := [_, _, _]) S M 2 rfl (by kernel_rfl) rfl rfl rfl rfl rfl rfl (by first | decide | (simp; done) | (simp; omega)) ?_; clear M; intro w104 M
          simp only [putL, List.set_cons_zero, List.set_cons_succ, Nat.reduceAdd] at M
          refine wpList_nil ?_; refine then_normal ?_; refine ⟨fun h => absurd h (by decide), ?_⟩
          refine k_pure (listed' := #[true, true, true, true, true, true, true, true, true, true, true, true, true, true]) 13 S rfl rfl rfl rfl (by kernel_rfl) rfl (fun _ d _ _ _ h => by cases d <;> exact h) (fun w => y_assign S rfl) ?_; clear S a; intro a S
          refine k_end (by kernel_rfl) ?_
          replace S := S.sub [(0, _), (7, _), (18, _), (124, _), (125, _), (126, _), (127, _), (20, _), (21, _), (23, _), (22, _), (24, _)] rfl
          refine then_normal ?_
          replace M := M.drop 4
          simp only [List.eraseIdx_cons_succ, List.eraseIdx_cons_zero] at M
          replace M := M.front 1 rfl
          simp only [List.eraseIdx_cons_succ, List.eraseIdx_cons_zero] at M
          replace M := M.front 3 rfl
          simp only [List.eraseIdx_cons_succ, List.eraseIdx_cons_zero] at M
          replace M := M.front 2 rfl
          simp only [List.eraseIdx_cons_succ, List.eraseIdx_cons_zero] at M
          replace M := M.front 3 rfl
          simp only [List.eraseIdx_cons_succ, List.eraseIdx_cons_zero] at M
          exact ⟨bD, bT, la2, ma2, ka2, ea2, lc2, mc2, kc2, ec2, _, _, d1, d2, d3, d4, ml2, kl2, hkl, S.sub _ rfl, M⟩
        · skip
          refine st_alloc S M rfl rfl #[.slice none 0 0] (by kernel_rfl) ?_; clear S M a; intro a w105 bD S M hB
          refine wpList_nil ?_; refine then_normal ?_; refine ⟨fun _ => hB, ?_⟩
          refine k_one (listed' := #[true, true, true, true, true, false, false, false, false, true, true, false, false, false]) 4 rfl (by kernel_rfl) rfl ?_
          refine st_call (xs := [(Operand.tmp 136), (Operand.tmp 139)]) S (enters_of Try.func9 (by decide) rfl) rfl rfl rfl (hearC_any la lc c1 (stB n g) (ackM (k : Int)) _ [] _ (M.outAt 3 rfl).1 (fun q hq => by
unfold stB at hq; split at hq
· cases hq
· simp at hq; subst hq; show n ≤ _; omega) (Rd.nil _ _ _ _)) ?_
          rintro _ w106 ⟨er2, r2, hR, hc2⟩
          obtain ⟨rfl, hr2⟩ : er2 = 0 ∧ HearP (stB n g) (ackM (k : Int)) r2 := by
            rcases hc2 with ⟨h1, -, -, h2⟩ | ⟨-, h, -⟩
            · exact ⟨h1, h2⟩
            · exact absurd ⟨mach_stB hsh hg, (name_may hk).2⟩ h
          obtain ⟨ml2, kl2, rfl, hkl⟩ := ack_hear ⟨by omega, hn31.2⟩ hg hk hr2
          obtain ⟨cv2, mv2, kv2, ev2, rfl, hK, hO2⟩ := hR
          obtain ⟨la2, lc2, ma2, mc2, ka2, kc2, ea2, ec2, rfl, rfl, rfl, rfl⟩ := hO2.form
          obtain ⟨d1, d2, d3, d4, hO2⟩ := hO2.cells
          refine ⟨_, rfl, ?_⟩; clear S a hr2 hc2; intro a S; replace M := M.out hK hO2
          refine wpList_nil ?_; refine then_normal ?_; refine ⟨fun _ => hK, ?_⟩
          refine k_pure (listed' := #[true, true, true, true, true, true, false, false, false, true, true, false, false, false]) 5 S rfl rfl rfl rfl (by kernel_rfl) rfl (fun _ d _ _ _ h => by cases d <;> exact h) (fun w => y_move S rfl) ?_; clear S a; intro a S
          refine k_pure (listed' := #[true, true, true, true, true, true, true, false, false, true, true, false, false, false]) 6 S rfl rfl rfl rfl (by kernel_rfl) rfl (fun _ d _ _ _ h => by cases d <;> exact h) (fun w => y_extract S rfl rfl) ?_; clear S a; intro a S
          refine k_pure (listed' := #[true, true, true, true, true, true, true, true, false, true, true, false, false, false]) 7 S rfl rfl rfl rfl (by kernel_rfl) rfl (fun _ d _ _ _ h => by cases d <;> exact h) (fun w => y_extract S rfl rfl) ?_; clear S a; intro a S
          refine k_pure (listed' := #[true, true, true, true, true, true, true, true, true, true, true, false, false, false]) 8 S rfl rfl rfl rfl (by kernel_rfl) rfl (fun _ d _ _ _ h => by cases d <;> exact h) (fun w => y_extract S rfl rfl) ?_; clear S a; intro a S
          refine k_one (listed' := #[true, true, true, true, true, true, true, true, true, true, true, true, false, false]) 11 rfl (by kernel_rfl) rfl ?_
          refine st_store (sz := 1) (us := [_]) S M 1 rfl (by kernel_rfl) rfl rfl rfl rfl rfl rfl (by first | decide | (simp; done) | (simp; omega)) ?_; clear M; intro w107 M
          simp only [putL, List.set_cons_zero, List.set_cons_succ, Nat.reduceAdd] at M
          refine wpList_nil ?_; refine then_normal ?_; refine ⟨fun h => absurd h (by decide), ?_⟩
          refine k_one (listed' := #[true, true, true, true, true, true, true, true, true, true, true, true, true, false]) 12 rfl (by kernel_rfl) rfl ?_
          refine st_store (sz := 3) (us := [_, _, _]) S M 2 rfl (by kernel_rfl) rfl rfl rfl rfl rfl rfl (by first | decide | (simp; done) | (simp; omega)) ?_; clear M; intro w108 M
          simp only [putL, List.set_cons_zero, List.set_cons_succ, Nat.reduceAdd] at M
          refine wpList_nil ?_; refine then_normal ?_; refine ⟨fun h => absurd h (by decide), ?_⟩
          refine k_pure (listed' := #[true, true, true, true, true, true, true, true, true, true, true, true, true, true]) 13 S rfl rfl rfl rfl (by kernel_rfl) rfl (fun _ d _ _ _ h => by cases d <;> exact h) (fun w => y_assign S rfl) ?_; clear S a; intro a S
          refine k_end (by kernel_rfl) ?_
          replace S := S.sub [(0, _), (7, _), (18, _), (124, _), (125, _), (126, _), (127, _), (20, _), (21, _), (23, _), (22, _), (24, _)] rfl
          refine then_normal ?_
          replace M := M.drop 4
          simp only [List.eraseIdx_cons_succ, List.eraseIdx_cons_zero] at M
          replace M := M.front 3 rfl
          simp only [List.eraseIdx_cons_succ, List.eraseIdx_cons_zero] at M
          replace M := M.front 2 rfl
          simp only [List.eraseIdx_cons_succ, List.eraseIdx_cons_zero] at M
          replace M := M.front 3 rfl
          simp only [List.eraseIdx_cons_succ, List.eraseIdx_cons_zero] at M
          exact ⟨bD, bT, la2, ma2, ka2, ea2, lc2, mc2, kc2, ec2, _, _, d1, d2, d3, d4, ml2, kl2, hkl, S.sub _ rfl, M⟩
    · skip
      refine st_alloc S M rfl rfl #[.slice none 0 0] (by kernel_rfl) ?_; clear S M a; intro a w109 bD S M hB
      refine wpList_nil ?_; refine then_normal ?_; refine ⟨fun _ => hB, ?_⟩
      refine k_two (l1 := #[true, true, true, false, false, false, false, false, false, true, false, false, false, false]) (l2 := #[true, true, false, false, false, false, false, false, false, true, true, false, false, false]) 2 10 rfl rfl (by kernel_rfl) rfl rfl ?_ ?_
      · skip
        refine st_call (xs := [(Operand.const (Value.int IntKind.i64 1))]) S (enters_of Try.func14 (by decide) rfl) rfl rfl rfl (name21_any 1 _) ?_
        rintro _ w110 ⟨rfl, hK⟩; refine ⟨_, rfl, ?_⟩; clear S a; intro a S; replace M := M.grow hK
        refine wpList_nil ?_; refine then_normal ?_; refine ⟨fun _ => hK, ?_⟩
        refine k_pure (listed' := #[true, true, true, true, false, false, false, false, false, true, false, false, false, false]) 3 S rfl rfl rfl rfl (by kernel_rfl) rfl (fun _ d _ _ _ h => by cases d <;> exact h) (fun w => y_build (ps := [(0, (Operand.const (Value.int IntKind.i8 7))), (1, (Operand.tmp 137)), (3, (Operand.const (Value.int IntKind.i64 1))), (5, (Operand.tmp 138))]) (pl := [(0, 1), (1, 1), (2, 1), (3, 1), (4, 1), (5, 3), (8, 1), (9, 1), (10, 1), (11, 8), (19, 1), (20, 1), (21, 1), (22, 1), (23, 1)]) (z := [.int .i8 0, .int .i64 0, .int .i64 0, .int .i64 0, .int .i64 0, .int .i64 0, .int .i64 0, .int .i64 0, .int .i64 0, .int .i8 0, .int .i64 0, .int .u8 0, .int .u8 0, .int .u8 0, .int .u8 0, .int .u8 0, .int .u8 0, .int .u8 0, .int .u8 0, .int .i64 0, .bool false, .int .i64 0, .int .i64 0, .slice none 0 0]) (cs := [_, _, _, _, _, _, _, _, _, _, _, _, _, _, _, _, _, _, _, _, _, _, _, _]) S (by kernel_rfl) rfl (rfl)) ?_; clear S a; intro a S
        refine k_two (l1 := #[true, true, true, true, true, false, false, false, false, true, false, false, false, false]) (l2 := #[true, true, true, true, false, false, false, false, false, true, true, false, false, false]) 4 10 rfl rfl (by kernel_rfl) rfl rfl ?_ ?_
        · skip
          refine st_call (xs := [(Operand.tmp 136), (Operand.tmp 139)]) S (enters_of Try.func9 (by decide) rfl) rfl rfl rfl (hearC_any la lc c1 (stB n g) (ackM (k : Int)) _ [] _ (M.outAt 2 rfl).1 (fun q hq => by
unfold stB at hq; split at hq
· cases hq
· simp at hq; subst hq; show n ≤ _; omega) (Rd.nil _ _ _ _)) ?_
          rintro _ w111 ⟨er2, r2, hR, hc2⟩
          obtain ⟨rfl, hr2⟩ : er2 = 0 ∧ HearP (stB n g) (ackM (k : Int)) r2 := by
            rcases hc2 with ⟨h1, -, -, h2⟩ | ⟨-, h, -⟩
            · exact ⟨h1, h2⟩
            · exact absurd ⟨mach_stB hsh hg, (name_may hk).2⟩ h
          obtain ⟨ml2, kl2, rfl, hkl⟩ := ack_hear ⟨by omega, hn31.2⟩ hg hk hr2
          obtain ⟨cv2, mv2, kv2, ev2, rfl, hK, hO2⟩ := hR
          obtain ⟨la2, lc2, ma2, mc2, ka2, kc2, ea2, ec2, rfl, rfl, rfl, rfl⟩ := hO2.form
          obtain ⟨d1, d2, d3, d4, hO2⟩ := hO2.cells
          refine ⟨_, rfl, ?_⟩; clear S a hr2 hc2; intro a S; replace M := M.out hK hO2
          refine wpList_nil ?_; refine then_normal ?_; refine ⟨fun _ => hK, ?_⟩
          refine k_pure (listed' := #[true, true, true, true, true, true, false, false, false, true, false, false, false, false]) 5 S rfl rfl rfl rfl (by kernel_rfl) rfl (fun _ d _ _ _ h => by cases d <;> exact h) (fun w => y_move S rfl) ?_; clear S a; intro a S
          refine k_pure (listed' := #[true, true, true, true, true, true, true, false, false, true, false, false, false, false]) 6 S rfl rfl rfl rfl (by kernel_rfl) rfl (fun _ d _ _ _ h => by cases d <;> exact h) (fun w => y_extract S rfl rfl) ?_; clear S a; intro a S
          refine k_pure (listed' := #[true, true, true, true, true, true, true, true, false, true, false, false, false, false]) 7 S rfl rfl rfl rfl (by kernel_rfl) rfl (fun _ d _ _ _ h => by cases d <;> exact h) (fun w => y_extract S rfl rfl) ?_; clear S a; intro a S
          refine k_pure (listed' := #[true, true, true, true, true, true, true, true, true, true, false, false, false, false]) 8 S rfl rfl rfl rfl (by kernel_rfl) rfl (fun _ d _ _ _ h => by cases d <;> exact h) (fun w => y_extract S rfl rfl) ?_; clear S a; intro a S
          refine k_one (listed' := #[true, true, true, true, true, true, true, true, true, true, true, false, false, false]) 10 rfl (by kernel_rfl) rfl ?_
          refine st_alloc S M rfl rfl #[.slice none 0 0, .slice none 0 0, .slice none 0 0] (by kernel_rfl) ?_; clear S M a; intro a w112 bT S M hB
          refine wpList_nil ?_; refine then_normal ?_; refine ⟨fun _ => hB, ?_⟩
          refine k_one (listed' := #[true, true, true, true, true, true, true, true, true, true, true, true, false, false]) 11 rfl (by kernel_rfl) rfl ?_
          refine st_store (sz := 1) (us := [_]) S M 2 rfl (by kernel_rfl) rfl rfl rfl rfl rfl rfl (by first | decide | (simp; done) | (simp; omega)) ?_; clear M; intro w113 M
          simp only [putL, List.set_cons_zero, List.set_cons_succ, Nat.reduceAdd] at M
          refine wpList_nil ?_; refine then_normal ?_; refine ⟨fun h => absurd h (by decide), ?_⟩
          refine k_one (listed' := #[true, true, true, true, true, true, true, true, true, true, true, true, true, false]) 12 rfl (by kernel_rfl) rfl ?_
          refine st_store (sz := 3) (us := [_, _, _]) S M 0 rfl (by kernel_rfl) rfl rfl rfl rfl rfl rfl (by first | decide | (simp; done) | (simp; omega)) ?_; clear M; intro w114 M
          simp only [putL, List.set_cons_zero, List.set_cons_succ, Nat.reduceAdd] at M
          refine wpList_nil ?_; refine then_normal ?_; refine ⟨fun h => absurd h (by decide), ?_⟩
          refine k_pure (listed' := #[true, true, true, true, true, true, true, true, true, true, true, true, true, true]) 13 S rfl rfl rfl rfl (by kernel_rfl) rfl (fun _ d _ _ _ h => by cases d <;> exact h) (fun w => y_assign S rfl) ?_; clear S a; intro a S
          refine k_end (by kernel_rfl) ?_
          replace S := S.sub [(0, _), (7, _), (18, _), (124, _), (125, _), (126, _), (127, _), (20, _), (21, _), (22, _), (23, _), (24, _)] rfl
          refine then_normal ?_
          replace M := M.drop 4
          simp only [List.eraseIdx_cons_succ, List.eraseIdx_cons_zero] at M
          replace M := M.front 1 rfl
          simp only [List.eraseIdx_cons_succ, List.eraseIdx_cons_zero] at M
          replace M := M.front 3 rfl
          simp only [List.eraseIdx_cons_succ, List.eraseIdx_cons_zero] at M
          replace M := M.front 3 rfl
          simp only [List.eraseIdx_cons_succ, List.eraseIdx_cons_zero] at M
          replace M := M.front 3 rfl
          simp only [List.eraseIdx_cons_succ, List.eraseIdx_cons_zero] at M
          exact ⟨bD, bT, la2, ma2, ka2, ea2, lc2, mc2, kc2, ec2, _, _, d1, d2, d3, d4, ml2, kl2, hkl, S.sub _ rfl, M⟩
        · skip
          refine st_alloc S M rfl rfl #[.slice none 0 0, .slice none 0 0, .slice none 0 0] (by kernel_rfl) ?_; clear S M a; intro a w115 bT S M hB
          refine wpList_nil ?_; refine then_normal ?_; refine ⟨fun _ => hB, ?_⟩
          refine k_one (listed' := #[true, true, true, true, true, false, false, false, false, true, true, false, false, false]) 4 rfl (by kernel_rfl) rfl ?_
          refine st_call (xs := [(Operand.tmp 136), (Operand.tmp 139)]) S (enters_of Try.func9 (by decide) rfl) rfl rfl rfl (hearC_any la lc c1 (stB n g) (ackM (k : Int)) _ [] _ (M.outAt 3 rfl).1 (fun q hq => by
unfold stB at hq; split at hq
· cases hq
· simp at hq; subst hq; show n ≤ _; omega) (Rd.nil _ _ _ _)) ?_
          rintro _ w116 ⟨er2, r2, hR, hc2⟩
          obtain ⟨rfl, hr2⟩ : er2 = 0 ∧ HearP (stB n g) (ackM (k : Int)) r2 := by
            rcases hc2 with ⟨h1, -, -, h2⟩ | ⟨-, h, -⟩
            · exact ⟨h1, h2⟩
            · exact absurd ⟨mach_stB hsh hg, (name_may hk).2⟩ h
          obtain ⟨ml2, kl2, rfl, hkl⟩ := ack_hear ⟨by omega, hn31.2⟩ hg hk hr2
          obtain ⟨cv2, mv2, kv2, ev2, rfl, hK, hO2⟩ := hR
          obtain ⟨la2, lc2, ma2, mc2, ka2, kc2, ea2, ec2, rfl, rfl, rfl, rfl⟩ := hO2.form
          obtain ⟨d1, d2, d3, d4, hO2⟩ := hO2.cells
          refine ⟨_, rfl, ?_⟩; clear S a hr2 hc2; intro a S; replace M := M.out hK hO2
          refine wpList_nil ?_; refine then_normal ?_; refine ⟨fun _ => hK, ?_⟩
          refine k_pure (listed' := #[true, true, true, true, true, true, false, false, false, true, true, false, false, false]) 5 S rfl rfl rfl rfl (by kernel_rfl) rfl (fun _ d _ _ _ h => by cases d <;> exact h) (fun w => y_move S rfl) ?_; clear S a; intro a S
          refine k_pure (listed' := #[true, true, true, true, true, true, true, false, false, true, true, false, false, false]) 6 S rfl rfl rfl rfl (by kernel_rfl) rfl (fun _ d _ _ _ h => by cases d <;> exact h) (fun w => y_extract S rfl rfl) ?_; clear S a; intro a S
          refine k_pure (listed' := #[true, true, true, true, true, true, true, true, false, true, true, false, false, false]) 7 S rfl rfl rfl rfl (by kernel_rfl) rfl (fun _ d _ _ _ h => by cases d <;> exact h) (fun w => y_extract S rfl rfl) ?_; clear S a; intro a S
          refine k_pure (listed' := #[true, true, true, true, true, true, true, true, true, true, true, false, false, false]) 8 S rfl rfl rfl rfl (by kernel_rfl) rfl (fun _ d _ _ _ h => by cases d <;> exact h) (fun w => y_extract S rfl rfl) ?_; clear S a; intro a S
          refine k_one (listed' := #[true, true, true, true, true, true, true, true, true, true, true, true, false, false]) 11 rfl (by kernel_rfl) rfl ?_
          refine st_store (sz := 1) (us := [_]) S M 2 rfl (by kernel_rfl) rfl rfl rfl rfl rfl rfl (by first | decide | (simp; done) | (simp; omega)) ?_; clear M; intro w117 M
          simp only [putL, List.set_cons_zero, List.set_cons_succ, Nat.reduceAdd] at M
          refine wpList_nil ?_; refine then_normal ?_; refine ⟨fun h => absurd h (by decide), ?_⟩
          refine k_one (listed' := #[true, true, true, true, true, true, true, true, true, true, true, true, true, false]) 12 rfl (by kernel_rfl) rfl ?_
          refine st_store (sz := 3) (us := [_, _, _]) S M 1 rfl (by kernel_rfl) rfl rfl rfl rfl rfl rfl (by first | decide | (simp; done) | (simp; omega)) ?_; clear M; intro w118 M
          simp only [putL, List.set_cons_zero, List.set_cons_succ, Nat.reduceAdd] at M
          refine wpList_nil ?_; refine then_normal ?_; refine ⟨fun h => absurd h (by decide), ?_⟩
          refine k_pure (listed' := #[true, true, true, true, true, true, true, true, true, true, true, true, true, true]) 13 S rfl rfl rfl rfl (by kernel_rfl) rfl (fun _ d _ _ _ h => by cases d <;> exact h) (fun w => y_assign S rfl) ?_; clear S a; intro a S
          refine k_end (by kernel_rfl) ?_
          replace S := S.sub [(0, _), (7, _), (18, _), (124, _), (125, _), (126, _), (127, _), (20, _), (21, _), (22, _), (23, _), (24, _)] rfl
          refine then_normal ?_
          replace M := M.drop 4
          simp only [List.eraseIdx_cons_succ, List.eraseIdx_cons_zero] at M
          replace M := M.front 3 rfl
          simp only [List.eraseIdx_cons_succ, List.eraseIdx_cons_zero] at M
          replace M := M.front 3 rfl
          simp only [List.eraseIdx_cons_succ, List.eraseIdx_cons_zero] at M
          replace M := M.front 3 rfl
          simp only [List.eraseIdx_cons_succ, List.eraseIdx_cons_zero] at M
          exact ⟨bD, bT, la2, ma2, ka2, ea2, lc2, mc2, kc2, ec2, _, _, d1, d2, d3, d4, ml2, kl2, hkl, S.sub _ rfl, M⟩
      · skip
        refine st_alloc S M rfl rfl #[.slice none 0 0, .slice none 0 0, .slice none 0 0] (by kernel_rfl) ?_; clear S M a; intro a w119 bT S M hB
        refine wpList_nil ?_; refine then_normal ?_; refine ⟨fun _ => hB, ?_⟩
        refine k_one (listed' := #[true, true, true, false, false, false, false, false, false, true, true, false, false, false]) 2 rfl (by kernel_rfl) rfl ?_
        refine st_call (xs := [(Operand.const (Value.int IntKind.i64 1))]) S (enters_of Try.func14 (by decide) rfl) rfl rfl rfl (name21_any 1 _) ?_
        rintro _ w120 ⟨rfl, hK⟩; refine ⟨_, rfl, ?_⟩; clear S a; intro a S; replace M := M.grow hK
        refine wpList_nil ?_; refine then_normal ?_; refine ⟨fun _ => hK, ?_⟩
        refine k_pure (listed' := #[true, true, true, true, false, false, false, false, false, true, true, false, false, false]) 3 S rfl rfl rfl rfl (by kernel_rfl) rfl (fun _ d _ _ _ h => by cases d <;> exact h) (fun w => y_build (ps := [(0, (Operand.const (Value.int IntKind.i8 7))), (1, (Operand.tmp 137)), (3, (Operand.const (Value.int IntKind.i64 1))), (5, (Operand.tmp 138))]) (pl := [(0, 1), (1, 1), (2, 1), (3, 1), (4, 1), (5, 3), (8, 1), (9, 1), (10, 1), (11, 8), (19, 1), (20, 1), (21, 1), (22, 1), (23, 1)]) (z := [.int .i8 0, .int .i64 0, .int .i64 0, .int .i64 0, .int .i64 0, .int .i64 0, .int .i64 0, .int .i64 0, .int .i64 0, .int .i8 0, .int .i64 0, .int .u8 0, .int .u8 0, .int .u8 0, .int .u8 0, .int .u8 0, .int .u8 0, .int .u8 0, .int .u8 0, .int .i64 0, .bool false, .int .i64 0, .int .i64 0, .slice none 0 0]) (cs := [_, _, _, _, _, _, _, _, _, _, _, _, _, _, _, _, _, _, _, _, _, _, _, _]) S (by kernel_rfl) rfl (rfl)) ?_; clear S a; intro a S
        refine k_one (listed' := #[true, true, true, true, true, false, false, false, false, true, true, false, false, false]) 4 rfl (by kernel_rfl) rfl ?_
        refine st_call (xs := [(Operand.tmp 136), (Operand.tmp 139)]) S (enters_of Try.func9 (by decide) rfl) rfl rfl rfl (hearC_any la lc c1 (stB n g) (ackM (k : Int)) _ [] _ (M.outAt 3 rfl).1 (fun q hq => by
unfold stB at hq; split at hq
· cases hq
· simp at hq; subst hq; show n ≤ _; omega) (Rd.nil _ _ _ _)) ?_
        rintro _ w121 ⟨er2, r2, hR, hc2⟩
        obtain ⟨rfl, hr2⟩ : er2 = 0 ∧ HearP (stB n g) (ackM (k : Int)) r2 := by
          rcases hc2 with ⟨h1, -, -, h2⟩ | ⟨-, h, -⟩
          · exact ⟨h1, h2⟩
          · exact absurd ⟨mach_stB hsh hg, (name_may hk).2⟩ h
        obtain ⟨ml2, kl2, rfl, hkl⟩ := ack_hear ⟨by omega, hn31.2⟩ hg hk hr2
        obtain ⟨cv2, mv2, kv2, ev2, rfl, hK, hO2⟩ := hR
        obtain ⟨la2, lc2, ma2, mc2, ka2, kc2, ea2, ec2, rfl, rfl, rfl, rfl⟩ := hO2.form
        obtain ⟨d1, d2, d3, d4, hO2⟩ := hO2.cells
        refine ⟨_, rfl, ?_⟩; clear S a hr2 hc2; intro a S; replace M := M.out hK hO2
        refine wpList_nil ?_; refine then_normal ?_; refine ⟨fun _ => hK, ?_⟩
        refine k_pure (listed' := #[true, true, true, true, true, true, false, false, false, true, true, false, false, false]) 5 S rfl rfl rfl rfl (by kernel_rfl) rfl (fun _ d _ _ _ h => by cases d <;> exact h) (fun w => y_move S rfl) ?_; clear S a; intro a S
        refine k_pure (listed' := #[true, true, true, true, true, true, true, false, false, true, true, false, false, false]) 6 S rfl rfl rfl rfl (by kernel_rfl) rfl (fun _ d _ _ _ h => by cases d <;> exact h) (fun w => y_extract S rfl rfl) ?_; clear S a; intro a S
        refine k_pure (listed' := #[true, true, true, true, true, true, true, true, false, true, true, false, false, false]) 7 S rfl rfl rfl rfl (by kernel_rfl) rfl (fun _ d _ _ _ h => by cases d <;> exact h) (fun w => y_extract S rfl rfl) ?_; clear S a; intro a S
        refine k_pure (listed' := #[true, true, true, true, true, true, true, true, true, true, true, false, false, false]) 8 S rfl rfl rfl rfl (by kernel_rfl) rfl (fun _ d _ _ _ h => by cases d <;> exact h) (fun w => y_extract S rfl rfl) ?_; clear S a; intro a S
        refine k_one (listed' := #[true, true, true, true, true, true, true, true, true, true, true, true, false, false]) 11 rfl (by kernel_rfl) rfl ?_
        refine st_store (sz := 1) (us := [_]) S M 2 rfl (by kernel_rfl) rfl rfl rfl rfl rfl rfl (by first | decide | (simp; done) | (simp; omega)) ?_; clear M; intro w122 M
        simp only [putL, List.set_cons_zero, List.set_cons_succ, Nat.reduceAdd] at M
        refine wpList_nil ?_; refine then_normal ?_; refine ⟨fun h => absurd h (by decide), ?_⟩
        refine k_one (listed' := #[true, true, true, true, true, true, true, true, true, true, true, true, true, false]) 12 rfl (by kernel_rfl) rfl ?_
        refine st_store (sz := 3) (us := [_, _, _]) S M 1 rfl (by kernel_rfl) rfl rfl rfl rfl rfl rfl (by first | decide | (simp; done) | (simp; omega)) ?_; clear M; intro w123 M
        simp only [putL, List.set_cons_zero, List.set_cons_succ, Nat.reduceAdd] at M
        refine wpList_nil ?_; refine then_normal ?_; refine ⟨fun h => absurd h (by decide), ?_⟩
        refine k_pure (listed' := #[true, true, true, true, true, true, true, true, true, true, true, true, true, true]) 13 S rfl rfl rfl rfl (by kernel_rfl) rfl (fun _ d _ _ _ h => by cases d <;> exact h) (fun w => y_assign S rfl) ?_; clear S a; intro a S
        refine k_end (by kernel_rfl) ?_
        replace S := S.sub [(0, _), (7, _), (18, _), (124, _), (125, _), (126, _), (127, _), (20, _), (21, _), (22, _), (23, _), (24, _)] rfl
        refine then_normal ?_
        replace M := M.drop 4
        simp only [List.eraseIdx_cons_succ, List.eraseIdx_cons_zero] at M
        replace M := M.front 3 rfl
        simp only [List.eraseIdx_cons_succ, List.eraseIdx_cons_zero] at M
        replace M := M.front 3 rfl
        simp only [List.eraseIdx_cons_succ, List.eraseIdx_cons_zero] at M
        replace M := M.front 3 rfl
        simp only [List.eraseIdx_cons_succ, List.eraseIdx_cons_zero] at M
        exact ⟨bD, bT, la2, ma2, ka2, ea2, lc2, mc2, kc2, ec2, _, _, d1, d2, d3, d4, ml2, kl2, hkl, S.sub _ rfl, M⟩
    · skip
      refine st_alloc S M rfl rfl #[.slice none 0 0, .slice none 0 0, .slice none 0 0] (by kernel_rfl) ?_; clear S M a; intro a w124 bT S M hB
      refine wpList_nil ?_; refine then_normal ?_; refine ⟨fun _ => hB, ?_⟩
      refine k_two (l1 := #[true, true, true, false, false, false, false, false, false, false, true, false, false, false]) (l2 := #[true, true, false, false, false, false, false, false, false, true, true, false, false, false]) 2 9 rfl rfl (by kernel_rfl) rfl rfl ?_ ?_
      · skip
        refine st_call (xs := [(Operand.const (Value.int IntKind.i64 1))]) S (enters_of Try.func14 (by decide) rfl) rfl rfl rfl (name21_any 1 _) ?_
        rintro _ w125 ⟨rfl, hK⟩; refine ⟨_, rfl, ?_⟩; clear S a; intro a S; replace M := M.grow hK
        refine wpList_nil ?_; refine then_normal ?_; refine ⟨fun _ => hK, ?_⟩
        refine k_pure (listed' := #[true, true, true, true, false, false, false, false, false, false, true, false, false, false]) 3 S rfl rfl rfl rfl (by kernel_rfl) rfl (fun _ d _ _ _ h => by cases d <;> exact h) (fun w => y_build (ps := [(0, (Operand.const (Value.int IntKind.i8 7))), (1, (Operand.tmp 137)), (3, (Operand.const (Value.int IntKind.i64 1))), (5, (Operand.tmp 138))]) (pl := [(0, 1), (1, 1), (2, 1), (3, 1), (4, 1), (5, 3), (8, 1), (9, 1), (10, 1), (11, 8), (19, 1), (20, 1), (21, 1), (22, 1), (23, 1)]) (z := [.int .i8 0, .int .i64 0, .int .i64 0, .int .i64 0, .int .i64 0, .int .i64 0, .int .i64 0, .int .i64 0, .int .i64 0, .int .i8 0, .int .i64 0, .int .u8 0, .int .u8 0, .int .u8 0, .int .u8 0, .int .u8 0, .int .u8 0, .int .u8 0, .int .u8 0, .int .i64 0, .bool false, .int .i64 0, .int .i64 0, .slice none 0 0]) (cs := [_, _, _, _, _, _, _, _, _, _, _, _, _, _, _, _, _, _, _, _, _, _, _, _]) S (by kernel_rfl) rfl (rfl)) ?_; clear S a; intro a S
        refine k_two (l1 := #[true, true, true, true, true, false, false, false, false, false, true, false, false, false]) (l2 := #[true, true, true, true, false, false, false, false, false, true, true, false, false, false]) 4 9 rfl rfl (by kernel_rfl) rfl rfl ?_ ?_
        · skip
          refine st_call (xs := [(Operand.tmp 136), (Operand.tmp 139)]) S (enters_of Try.func9 (by decide) rfl) rfl rfl rfl (hearC_any la lc c1 (stB n g) (ackM (k : Int)) _ [] _ (M.outAt 2 rfl).1 (fun q hq => by
unfold stB at hq; split at hq
· cases hq
· simp at hq; subst hq; show n ≤ _; omega) (Rd.nil _ _ _ _)) ?_
          rintro _ w126 ⟨er2, r2, hR, hc2⟩
          obtain ⟨rfl, hr2⟩ : er2 = 0 ∧ HearP (stB n g) (ackM (k : Int)) r2 := by
            rcases hc2 with ⟨h1, -, -, h2⟩ | ⟨-, h, -⟩
            · exact ⟨h1, h2⟩
            · exact absurd ⟨mach_stB hsh hg, (name_may hk).2⟩ h
          obtain ⟨ml2, kl2, rfl, hkl⟩ := ack_hear ⟨by omega, hn31.2⟩ hg hk hr2
          obtain ⟨cv2, mv2, kv2, ev2, rfl, hK, hO2⟩ := hR
          obtain ⟨la2, lc2, ma2, mc2, ka2, kc2, ea2, ec2, rfl, rfl, rfl, rfl⟩ := hO2.form
          obtain ⟨d1, d2, d3, d4, hO2⟩ := hO2.cells
          refine ⟨_, rfl, ?_⟩; clear S a hr2 hc2; intro a S; replace M := M.out hK hO2
          refine wpList_nil ?_; refine then_normal ?_; refine ⟨fun _ => hK, ?_⟩
          refine k_pure (listed' := #[true, true, true, true, true, true, false, false, false, false, true, false, false, false]) 5 S rfl rfl rfl rfl (by kernel_rfl) rfl (fun _ d _ _ _ h => by cases d <;> exact h) (fun w => y_move S rfl) ?_; clear S a; intro a S
          refine k_pure (listed' := #[true, true, true, true, true, true, true, false, false, false, true, false, false, false]) 6 S rfl rfl rfl rfl (by kernel_rfl) rfl (fun _ d _ _ _ h => by cases d <;> exact h) (fun w => y_extract S rfl rfl) ?_; clear S a; intro a S
          refine k_pure (listed' := #[true, true, true, true, true, true, true, true, false, false, true, false, false, false]) 7 S rfl rfl rfl rfl (by kernel_rfl) rfl (fun _ d _ _ _ h => by cases d <;> exact h) (fun w => y_extract S rfl rfl) ?_; clear S a; intro a S
          refine k_pure (listed' := #[true, true, true, true, true, true, true, true, true, false, true, false, false, false]) 8 S rfl rfl rfl rfl (by kernel_rfl) rfl (fun _ d _ _ _ h => by cases d <;> exact h) (fun w => y_extract S rfl rfl) ?_; clear S a; intro a S
          refine k_one (listed' := #[true, true, true, true, true, true, true, true, true, true, true, false, false, false]) 9 rfl (by kernel_rfl) rfl ?_
          refine st_alloc S M rfl rfl #[.slice none 0 0] (by kernel_rfl) ?_; clear S M a; intro a w127 bD S M hB
          refine wpList_nil ?_; refine then_normal ?_; refine ⟨fun _ => hB, ?_⟩
          refine k_one (listed' := #[true, true, true, true, true, true, true, true, true, true, true, true, false, false]) 11 rfl (by kernel_rfl) rfl ?_
          refine st_store (sz := 1) (us := [_]) S M 0 rfl (by kernel_rfl) rfl rfl rfl rfl rfl rfl (by first | decide | (simp; done) | (simp; omega)) ?_; clear M; intro w128 M
          simp only [putL, List.set_cons_zero, List.set_cons_succ, Nat.reduceAdd] at M
          refine wpList_nil ?_; refine then_normal ?_; refine ⟨fun h => absurd h (by decide), ?_⟩
          refine k_one (listed' := #[true, true, true, true, true, true, true, true, true, true, true, true, true, false]) 12 rfl (by kernel_rfl) rfl ?_
          refine st_store (sz := 3) (us := [_, _, _]) S M 2 rfl (by kernel_rfl) rfl rfl rfl rfl rfl rfl (by first | decide | (simp; done) | (simp; omega)) ?_; clear M; intro w129 M
          simp only [putL, List.set_cons_zero, List.set_cons_succ, Nat.reduceAdd] at M
          refine wpList_nil ?_; refine then_normal ?_; refine ⟨fun h => absurd h (by decide), ?_⟩
          refine k_pure (listed' := #[true, true, true, true, true, true, true, true, true, true, true, true, true, true]) 13 S rfl rfl rfl rfl (by kernel_rfl) rfl (fun _ d _ _ _ h => by cases d <;> exact h) (fun w => y_assign S rfl) ?_; clear S a; intro a S
          refine k_end (by kernel_rfl) ?_
          replace S := S.sub [(0, _), (7, _), (18, _), (124, _), (125, _), (126, _), (127, _), (20, _), (21, _), (23, _), (22, _), (24, _)] rfl
          refine then_normal ?_
          replace M := M.drop 4
          simp only [List.eraseIdx_cons_succ, List.eraseIdx_cons_zero] at M
          replace M := M.front 1 rfl
          simp only [List.eraseIdx_cons_succ, List.eraseIdx_cons_zero] at M
          replace M := M.front 3 rfl
          simp only [List.eraseIdx_cons_succ, List.eraseIdx_cons_zero] at M
          replace M := M.front 2 rfl
          simp only [List.eraseIdx_cons_succ, List.eraseIdx_cons_zero] at M
          replace M := M.front 3 rfl
          simp only [List.eraseIdx_cons_succ, List.eraseIdx_cons_zero] at M
          exact ⟨bD, bT, la2, ma2, ka2, ea2, lc2, mc2, kc2, ec2, _, _, d1, d2, d3, d4, ml2, kl2, hkl, S.sub _ rfl, M⟩
        · skip
          refine st_alloc S M rfl rfl #[.slice none 0 0] (by kernel_rfl) ?_; clear S M a; intro a w130 bD S M hB
          refine wpList_nil ?_; refine then_normal ?_; refine ⟨fun _ => hB, ?_⟩
          refine k_one (listed' := #[true, true, true, true, true, false, false, false, false, true, true, false, false, false]) 4 rfl (by kernel_rfl) rfl ?_
          refine st_call (xs := [(Operand.tmp 136), (Operand.tmp 139)]) S (enters_of Try.func9 (by decide) rfl) rfl rfl rfl (hearC_any la lc c1 (stB n g) (ackM (k : Int)) _ [] _ (M.outAt 3 rfl).1 (fun q hq => by
unfold stB at hq; split at hq
· cases hq
· simp at hq; subst hq; show n ≤ _; omega) (Rd.nil _ _ _ _)) ?_
          rintro _ w131 ⟨er2, r2, hR, hc2⟩
          obtain ⟨rfl, hr2⟩ : er2 = 0 ∧ HearP (stB n g) (ackM (k : Int)) r2 := by
            rcases hc2 with ⟨h1, -, -, h2⟩ | ⟨-, h, -⟩
            · exact ⟨h1, h2⟩
            · exact absurd ⟨mach_stB hsh hg, (name_may hk).2⟩ h
          obtain ⟨ml2, kl2, rfl, hkl⟩ := ack_hear ⟨by omega, hn31.2⟩ hg hk hr2
          obtain ⟨cv2, mv2, kv2, ev2, rfl, hK, hO2⟩ := hR
          obtain ⟨la2, lc2, ma2, mc2, ka2, kc2, ea2, ec2, rfl, rfl, rfl, rfl⟩ := hO2.form
          obtain ⟨d1, d2, d3, d4, hO2⟩ := hO2.cells
          refine ⟨_, rfl, ?_⟩; clear S a hr2 hc2; intro a S; replace M := M.out hK hO2
          refine wpList_nil ?_; refine then_normal ?_; refine ⟨fun _ => hK, ?_⟩
          refine k_pure (listed' := #[true, true, true, true, true, true, false, false, false, true, true, false, false, false]) 5 S rfl rfl rfl rfl (by kernel_rfl) rfl (fun _ d _ _ _ h => by cases d <;> exact h) (fun w => y_move S rfl) ?_; clear S a; intro a S
          refine k_pure (listed' := #[true, true, true, true, true, true, true, false, false, true, true, false, false, false]) 6 S rfl rfl rfl rfl (by kernel_rfl) rfl (fun _ d _ _ _ h => by cases d <;> exact h) (fun w => y_extract S rfl rfl) ?_; clear S a; intro a S
          refine k_pure (listed' := #[true, true, true, true, true, true, true, true, false, true, true, false, false, false]) 7 S rfl rfl rfl rfl (by kernel_rfl) rfl (fun _ d _ _ _ h => by cases d <;> exact h) (fun w => y_extract S rfl rfl) ?_; clear S a; intro a S
          refine k_pure (listed' := #[true, true, true, true, true, true, true, true, true, true, true, false, false, false]) 8 S rfl rfl rfl rfl (by kernel_rfl) rfl (fun _ d _ _ _ h => by cases d <;> exact h) (fun w => y_extract S rfl rfl) ?_; clear S a; intro a S
          refine k_one (listed' := #[true, true, true, true, true, true, true, true, true, true, true, true, false, false]) 11 rfl (by kernel_rfl) rfl ?_
          refine st_store (sz := 1) (us := [_]) S M 1 rfl (by kernel_rfl) rfl rfl rfl rfl rfl rfl (by first | decide | (simp; done) | (simp; omega)) ?_; clear M; intro w132 M
          simp only [putL, List.set_cons_zero, List.set_cons_succ, Nat.reduceAdd] at M
          refine wpList_nil ?_; refine then_normal ?_; refine ⟨fun h => absurd h (by decide), ?_⟩
          refine k_one (listed' := #[true, true, true, true, true, true, true, true, true, true, true, true, true, false]) 12 rfl (by kernel_rfl) rfl ?_
          refine st_store (sz := 3) (us := [_, _, _]) S M 2 rfl (by kernel_rfl) rfl rfl rfl rfl rfl rfl (by first | decide | (simp; done) | (simp; omega)) ?_; clear M; intro w133 M
          simp only [putL, List.set_cons_zero, List.set_cons_succ, Nat.reduceAdd] at M
          refine wpList_nil ?_; refine then_normal ?_; refine ⟨fun h => absurd h (by decide), ?_⟩
          refine k_pure (listed' := #[true, true, true, true, true, true, true, true, true, true, true, true, true, true]) 13 S rfl rfl rfl rfl (by kernel_rfl) rfl (fun _ d _ _ _ h => by cases d <;> exact h) (fun w => y_assign S rfl) ?_; clear S a; intro a S
          refine k_end (by kernel_rfl) ?_
          replace S := S.sub [(0, _), (7, _), (18, _), (124, _), (125, _), (126, _), (127, _), (20, _), (21, _), (23, _), (22, _), (24, _)] rfl
          refine then_normal ?_
          replace M := M.drop 4
          simp only [List.eraseIdx_cons_succ, List.eraseIdx_cons_zero] at M
          replace M := M.front 3 rfl
          simp only [List.eraseIdx_cons_succ, List.eraseIdx_cons_zero] at M
          replace M := M.front 2 rfl
          simp only [List.eraseIdx_cons_succ, List.eraseIdx_cons_zero] at M
          replace M := M.front 3 rfl
          simp only [List.eraseIdx_cons_succ, List.eraseIdx_cons_zero] at M
          exact ⟨bD, bT, la2, ma2, ka2, ea2, lc2, mc2, kc2, ec2, _, _, d1, d2, d3, d4, ml2, kl2, hkl, S.sub _ rfl, M⟩
      · skip
        refine st_alloc S M rfl rfl #[.slice none 0 0] (by kernel_rfl) ?_; clear S M a; intro a w134 bD S M hB
        refine wpList_nil ?_; refine then_normal ?_; refine ⟨fun _ => hB, ?_⟩
        refine k_one (listed' := #[true, true, true, false, false, false, false, false, false, true, true, false, false, false]) 2 rfl (by kernel_rfl) rfl ?_
        refine st_call (xs := [(Operand.const (Value.int IntKind.i64 1))]) S (enters_of Try.func14 (by decide) rfl) rfl rfl rfl (name21_any 1 _) ?_
        rintro _ w135 ⟨rfl, hK⟩; refine ⟨_, rfl, ?_⟩; clear S a; intro a S; replace M := M.grow hK
        refine wpList_nil ?_; refine then_normal ?_; refine ⟨fun _ => hK, ?_⟩
        refine k_pure (listed' := #[true, true, true, true, false, false, false, false, false, true, true, false, false, false]) 3 S rfl rfl rfl rfl (by kernel_rfl) rfl (fun _ d _ _ _ h => by cases d <;> exact h) (fun w => y_build (ps := [(0, (Operand.const (Value.int IntKind.i8 7))), (1, (Operand.tmp 137)), (3, (Operand.const (Value.int IntKind.i64 1))), (5, (Operand.tmp 138))]) (pl := [(0, 1), (1, 1), (2, 1), (3, 1), (4, 1), (5, 3), (8, 1), (9, 1), (10, 1), (11, 8), (19, 1), (20, 1), (21, 1), (22, 1), (23, 1)]) (z := [.int .i8 0, .int .i64 0, .int .i64 0, .int .i64 0, .int .i64 0, .int .i64 0, .int .i64 0, .int .i64 0, .int .i64 0, .int .i8 0, .int .i64 0, .int .u8 0, .int .u8 0, .int .u8 0, .int .u8 0, .int .u8 0, .int .u8 0, .int .u8 0, .int .u8 0, .int .i64 0, .bool false, .int .i64 0, .int .i64 0, .slice none 0 0]) (cs := [_, _, _, _, _, _, _, _, _, _, _, _, _, _, _, _, _, _, _, _, _, _, _, _]) S (by kernel_rfl) rfl (rfl)) ?_; clear S a; intro a S
        refine k_one (listed' := #[true, true, true, true, true, false, false, false, false, true, true, false, false, false]) 4 rfl (by kernel_rfl) rfl ?_
        refine st_call (xs := [(Operand.tmp 136), (Operand.tmp 139)]) S (enters_of Try.func9 (by decide) rfl) rfl rfl rfl (hearC_any la lc c1 (stB n g) (ackM (k : Int)) _ [] _ (M.outAt 3 rfl).1 (fun q hq => by
unfold stB at hq; split at hq
· cases hq
· simp at hq; subst hq; show n ≤ _; omega) (Rd.nil _ _ _ _)) ?_
        rintro _ w136 ⟨er2, r2, hR, hc2⟩
        obtain ⟨rfl, hr2⟩ : er2 = 0 ∧ HearP (stB n g) (ackM (k : Int)) r2 := by
          rcases hc2 with ⟨h1, -, -, h2⟩ | ⟨-, h, -⟩
          · exact ⟨h1, h2⟩
          · exact absurd ⟨mach_stB hsh hg, (name_may hk).2⟩ h
        obtain ⟨ml2, kl2, rfl, hkl⟩ := ack_hear ⟨by omega, hn31.2⟩ hg hk hr2
        obtain ⟨cv2, mv2, kv2, ev2, rfl, hK, hO2⟩ := hR
        obtain ⟨la2, lc2, ma2, mc2, ka2, kc2, ea2, ec2, rfl, rfl, rfl, rfl⟩ := hO2.form
        obtain ⟨d1, d2, d3, d4, hO2⟩ := hO2.cells
        refine ⟨_, rfl, ?_⟩; clear S a hr2 hc2; intro a S; replace M := M.out hK hO2
        refine wpList_nil ?_; refine then_normal ?_; refine ⟨fun _ => hK, ?_⟩
        refine k_pure (listed' := #[true, true, true, true, true, true, false, false, false, true, true, false, false, false]) 5 S rfl rfl rfl rfl (by kernel_rfl) rfl (fun _ d _ _ _ h => by cases d <;> exact h) (fun w => y_move S rfl) ?_; clear S a; intro a S
        refine k_pure (listed' := #[true, true, true, true, true, true, true, false, false, true, true, false, false, false]) 6 S rfl rfl rfl rfl (by kernel_rfl) rfl (fun _ d _ _ _ h => by cases d <;> exact h) (fun w => y_extract S rfl rfl) ?_; clear S a; intro a S
        refine k_pure (listed' := #[true, true, true, true, true, true, true, true, false, true, true, false, false, false]) 7 S rfl rfl rfl rfl (by kernel_rfl) rfl (fun _ d _ _ _ h => by cases d <;> exact h) (fun w => y_extract S rfl rfl) ?_; clear S a; intro a S
        refine k_pure (listed' := #[true, true, true, true, true, true, true, true, true, true, true, false, false, false]) 8 S rfl rfl rfl rfl (by kernel_rfl) rfl (fun _ d _ _ _ h => by cases d <;> exact h) (fun w => y_extract S rfl rfl) ?_; clear S a; intro a S
        refine k_one (listed' := #[true, true, true, true, true, true, true, true, true, true, true, true, false, false]) 11 rfl (by kernel_rfl) rfl ?_
        refine st_store (sz := 1) (us := [_]) S M 1 rfl (by kernel_rfl) rfl rfl rfl rfl rfl rfl (by first | decide | (simp; done) | (simp; omega)) ?_; clear M; intro w137 M
        simp only [putL, List.set_cons_zero, List.set_cons_succ, Nat.reduceAdd] at M
        refine wpList_nil ?_; refine then_normal ?_; refine ⟨fun h => absurd h (by decide), ?_⟩
        refine k_one (listed' := #[true, true, true, true, true, true, true, true, true, true, true, true, true, false]) 12 rfl (by kernel_rfl) rfl ?_
        refine st_store (sz := 3) (us := [_, _, _]) S M 2 rfl (by kernel_rfl) rfl rfl rfl rfl rfl rfl (by first | decide | (simp; done) | (simp; omega)) ?_; clear M; intro w138 M
        simp only [putL, List.set_cons_zero, List.set_cons_succ, Nat.reduceAdd] at M
        refine wpList_nil ?_; refine then_normal ?_; refine ⟨fun h => absurd h (by decide), ?_⟩
        refine k_pure (listed' := #[true, true, true, true, true, true, true, true, true, true, true, true, true, true]) 13 S rfl rfl rfl rfl (by kernel_rfl) rfl (fun _ d _ _ _ h => by cases d <;> exact h) (fun w => y_assign S rfl) ?_; clear S a; intro a S
        refine k_end (by kernel_rfl) ?_
        replace S := S.sub [(0, _), (7, _), (18, _), (124, _), (125, _), (126, _), (127, _), (20, _), (21, _), (23, _), (22, _), (24, _)] rfl
        refine then_normal ?_
        replace M := M.drop 4
        simp only [List.eraseIdx_cons_succ, List.eraseIdx_cons_zero] at M
        replace M := M.front 3 rfl
        simp only [List.eraseIdx_cons_succ, List.eraseIdx_cons_zero] at M
        replace M := M.front 2 rfl
        simp only [List.eraseIdx_cons_succ, List.eraseIdx_cons_zero] at M
        replace M := M.front 3 rfl
        simp only [List.eraseIdx_cons_succ, List.eraseIdx_cons_zero] at M
        exact ⟨bD, bT, la2, ma2, ka2, ea2, lc2, mc2, kc2, ec2, _, _, d1, d2, d3, d4, ml2, kl2, hkl, S.sub _ rfl, M⟩
  clear S a M; intro a wc
  rintro ⟨bD, bT, la2, ma2, ka2, ea2, lc2, mc2, kc2, ec2, lo2, hi2, d1, d2, d3, d4, ml2, kl2, hkl, S, M⟩
  refine wp_seq ?_
  refine nxD ?_
  refine st_go [1, 1] S rfl (by kernel_rfl) ?_; clear S a; intro a S
  refine nxC ?_
  refine st_if (t := 145) S rfl ?_ ?_
  · clear S; intro h145 S
    exact absurd rfl h145
  clear S; intro h145 S
  refine st_condF S rfl ?_
  refine wp_skip ?_
  refine nxE ?_
  refine st_go [1, 1] S rfl (by kernel_rfl) ?_; clear S a; intro a S
  refine nxC ?_
  refine wp_seq ?_
  refine nxD ?_
  refine st_go [1, 1] S rfl (by kernel_rfl) ?_; clear S a; intro a S
  (first | refine st_y S rfl rfl rfl (y_shrN S rfl rfl (by omega)) ?_ | refine st_y S rfl rfl rfl (y_shr S rfl rfl (by omega)) ?_); clear S a; intro a S
  refine st_y S rfl rfl rfl (y_int S rfl rfl rfl) ?_; clear S a; intro a S
  refine st_go [1] S rfl (by kernel_rfl) ?_; clear S a; intro a S
  refine nxC ?_
  refine st_tils (t := 151) S rfl ?_ ?_
  · clear S; intro h151 S
    refine st_condF S rfl ?_
    refine wp_skip ?_
    refine then_normal ?_
    refine wp_seq ?_
    refine wp_seq ?_
    first
      | rw [← hnx] at S
      | (have hbit : ¬ bitK n k = true := by unfold bitK andV; rw [Int.toNat_natCast] at h151; rw [h151]; simp
         have hnx : nxt n g k = g := by unfold nxt; rw [if_neg hbit])
    refine wp_region_lit ?_
    refine st_run [2, 1] S M rfl (by kernel_rfl) ?_; clear S a; intro a S
    refine st_y S rfl rfl rfl (y_lenS (E := 97) S rfl (by kernel_rfl)) ?_; clear S a; intro a S
    refine st_go [1, 1, 1, 1, 1] S rfl (by kernel_rfl) ?_; clear S a; intro a S
    refine st_if (t := 163) S rfl ?_ ?_
    · clear S; intro h163 S
      refine st_go [1, 1, 1, 1] S rfl (by kernel_rfl) ?_; clear S a; intro a S
      refine st_y S rfl rfl rfl (y_neqBool (by kernel_rfl) S rfl rfl) ?_; clear S a; intro a S
      replace S := S.sub [(0, _), (7, _), (18, _), (21, _), (22, _), (23, _), (24, _), (124, _), (125, _), (126, _), (145, _), (25, _), (151, _), (168, _)] rfl
      refine nxC ?_
      refine st_split (t := 168) S rfl ?_ ?_
      · clear S; intro h168 S
        exfalso
        have hk1 : ((kl2.length : Int) == 1) = decide (nxt n g k = n ∧ g ≠ n) := by
          by_cases g : nxt n g k = n ∧ g ≠ n
          · rw [hkl.1 g, decide_eq_true g]; rfl
          · rw [hkl.2 g, decide_eq_false g]; rfl
        refine bool_ne (hk1.trans ?_) h168
        rw [Bool.eq_iff_iff]
        clear S M
        first
          | (simp only [decide_eq_true_eq, bne_iff_ne, ne_eq]; omega)
          | (simp only [decide_eq_true_eq, Bool.false_eq_true, iff_false]; omega)
      clear S; intro h168 S
      refine st_condF S rfl ?_
      refine wp_skip ?_
      refine nxF ?_
      refine st_y S rfl rfl rfl (y_loadAgg (cs := [_]) S (by kernel_rfl) rfl rfl (M.cellsAt (k := 1) 1 rfl rfl)) ?_; clear S a; intro a S
      refine st_store (sz := 1) (us := [_]) S M 2 rfl (by kernel_rfl) rfl rfl rfl rfl rfl rfl (by first | decide | (simp; done) | (simp; omega)) ?_; clear M; intro w141 M
      simp only [putL, List.set_cons_zero, List.set_cons_succ, Nat.reduceAdd] at M
      refine wpList_nil ?_
      refine block_normal ?_
      refine nxF ?_
      (first | refine st_y S rfl rfl rfl (y_addN S rfl rfl (by omega)) ?_ | refine st_y S rfl rfl rfl (y_int S rfl rfl rfl) ?_); clear S a; intro a S
      refine st_go [1] S rfl (by kernel_rfl) ?_; clear S a; intro a S
      refine nxC ?_
      skip
      replace M := M.drop 0
      simp only [List.eraseIdx_cons_succ, List.eraseIdx_cons_zero] at M
      replace M := M.drop 0
      simp only [List.eraseIdx_cons_succ, List.eraseIdx_cons_zero] at M
      exact ⟨ys.length - (i + 1), by omega, i + 1, nxt n g k, la2, ma2, ka2, ea2, lc2, _, mc2, _, kc2, _, ec2, lo2, hi2, d1, d2, d3, d4, _, _, _, by omega, rfl, (nxt_ok ⟨by omega, hn31.2⟩ hg hk).1, by first | exact S.sub _ rfl | (rw [hnx]; exact S.sub _ rfl), M⟩
    clear S; intro h163 S
    refine st_go [0, 0, 0, 1] S rfl (by kernel_rfl) ?_; clear S a; intro a S
    refine st_y S rfl rfl rfl (y_neqBool (by kernel_rfl) S rfl rfl) ?_; clear S a; intro a S
    replace S := S.sub [(0, _), (7, _), (18, _), (21, _), (22, _), (23, _), (24, _), (124, _), (125, _), (126, _), (145, _), (25, _), (151, _), (168, _)] rfl
    refine nxC ?_
    refine st_split (t := 168) S rfl ?_ ?_
    · clear S; intro h168 S
      exfalso
      have hk1 : ((kl2.length : Int) == 1) = decide (nxt n g k = n ∧ g ≠ n) := by
        by_cases g : nxt n g k = n ∧ g ≠ n
        · rw [hkl.1 g, decide_eq_true g]; rfl
        · rw [hkl.2 g, decide_eq_false g]; rfl
      refine bool_ne (hk1.trans ?_) h168
      rw [Bool.eq_iff_iff]
      clear S M
      first
        | (simp only [decide_eq_true_eq, bne_iff_ne, ne_eq]; omega)
        | (simp only [decide_eq_true_eq, Bool.false_eq_true, iff_false]; omega)
    clear S; intro h168 S
    refine st_condF S rfl ?_
    refine wp_skip ?_
    refine nxF ?_
    refine st_y S rfl rfl rfl (y_loadAgg (cs := [_]) S (by kernel_rfl) rfl rfl (M.cellsAt (k := 1) 1 rfl rfl)) ?_; clear S a; intro a S
    refine st_store (sz := 1) (us := [_]) S M 2 rfl (by kernel_rfl) rfl rfl rfl rfl rfl rfl (by first | decide | (simp; done) | (simp; omega)) ?_; clear M; intro w142 M
    simp only [putL, List.set_cons_zero, List.set_cons_succ, Nat.reduceAdd] at M
    refine wpList_nil ?_
    refine block_normal ?_
    refine nxF ?_
    (first | refine st_y S rfl rfl rfl (y_addN S rfl rfl (by omega)) ?_ | refine st_y S rfl rfl rfl (y_int S rfl rfl rfl) ?_); clear S a; intro a S
    refine st_go [1] S rfl (by kernel_rfl) ?_; clear S a; intro a S
    refine nxC ?_
    skip
    replace M := M.drop 0
    simp only [List.eraseIdx_cons_succ, List.eraseIdx_cons_zero] at M
    replace M := M.drop 0
    simp only [List.eraseIdx_cons_succ, List.eraseIdx_cons_zero] at M
    exact ⟨ys.length - (i + 1), by omega, i + 1, nxt n g k, la2, ma2, ka2, ea2, lc2, _, mc2, _, kc2, _, ec2, lo2, hi2, d1, d2, d3, d4, _, _, _, by omega, rfl, (nxt_ok ⟨by omega, hn31.2⟩ hg hk).1, by first | exact S.sub _ rfl | (rw [hnx]; exact S.sub _ rfl), M⟩
  clear S; intro h151 S
  refine st_condT S rfl ?_
  have hbit : bitK n k = true := by unfold bitK andV; rw [Int.toNat_natCast] at h151; exact h151
  have hnx : nxt n g k = IntKind.i64.wrap (BitVec.ofInt IntKind.i64.bits g ||| BitVec.ofInt IntKind.i64.bits (1 * 2 ^ (k : Int).toNat)).toNat := by unfold nxt; rw [if_pos hbit]; rfl
  refine wp_region_lit ?_
  refine st_go [1, 1] S rfl (by kernel_rfl) ?_; clear S a; intro a S
  (first | refine st_y S rfl rfl rfl (y_shlN S rfl rfl (by omega) (by exact shl4 hk)) ?_ | refine st_y S rfl rfl rfl (y_shl S rfl rfl (by omega)) ?_); clear S a; intro a S
  (first | refine st_y S rfl rfl rfl (y_orN S rfl rfl (by omega) (by omega)) ?_ | refine st_y S rfl rfl rfl (y_int S rfl rfl rfl) ?_); clear S a; intro a S
  refine st_go [1] S rfl (by kernel_rfl) ?_; clear S a; intro a S
  refine nxC ?_
  refine wp_seq ?_
  refine wp_seq ?_
  first
    | rw [← hnx] at S
    | (have hbit : ¬ bitK n k = true := by unfold bitK andV; rw [Int.toNat_natCast] at h151; rw [h151]; simp
       have hnx : nxt n g k = g := by unfold nxt; rw [if_neg hbit])
  refine wp_region_lit ?_
  refine st_run [2, 1] S M rfl (by kernel_rfl) ?_; clear S a; intro a S
  refine st_y S rfl rfl rfl (y_lenS (E := 97) S rfl (by kernel_rfl)) ?_; clear S a; intro a S
  refine st_go [1, 1, 1, 1, 1] S rfl (by kernel_rfl) ?_; clear S a; intro a S
  refine st_if (t := 163) S rfl ?_ ?_
  · clear S; intro h163 S
    refine st_go [1, 1, 1, 1] S rfl (by kernel_rfl) ?_; clear S a; intro a S
    refine st_y S rfl rfl rfl (y_neqBool (by kernel_rfl) S rfl rfl) ?_; clear S a; intro a S
    replace S := S.sub [(0, _), (7, _), (21, _), (22, _), (23, _), (24, _), (124, _), (125, _), (126, _), (145, _), (25, _), (151, _), (18, _), (168, _)] rfl
    refine nxC ?_
    refine st_split (t := 168) S rfl ?_ ?_
    · clear S; intro h168 S
      exfalso
      have hk1 : ((kl2.length : Int) == 1) = decide (nxt n g k = n ∧ g ≠ n) := by
        by_cases g : nxt n g k = n ∧ g ≠ n
        · rw [hkl.1 g, decide_eq_true g]; rfl
        · rw [hkl.2 g, decide_eq_false g]; rfl
      refine bool_ne (hk1.trans ?_) h168
      rw [Bool.eq_iff_iff]
      clear S M
      first
        | (simp only [decide_eq_true_eq, bne_iff_ne, ne_eq]; omega)
        | (simp only [decide_eq_true_eq, Bool.false_eq_true, iff_false]; omega)
    clear S; intro h168 S
    refine st_condF S rfl ?_
    refine wp_skip ?_
    refine nxF ?_
    refine st_y S rfl rfl rfl (y_loadAgg (cs := [_]) S (by kernel_rfl) rfl rfl (M.cellsAt (k := 1) 1 rfl rfl)) ?_; clear S a; intro a S
    refine st_store (sz := 1) (us := [_]) S M 2 rfl (by kernel_rfl) rfl rfl rfl rfl rfl rfl (by first | decide | (simp; done) | (simp; omega)) ?_; clear M; intro w139 M
    simp only [putL, List.set_cons_zero, List.set_cons_succ, Nat.reduceAdd] at M
    refine wpList_nil ?_
    refine block_normal ?_
    refine nxF ?_
    (first | refine st_y S rfl rfl rfl (y_addN S rfl rfl (by omega)) ?_ | refine st_y S rfl rfl rfl (y_int S rfl rfl rfl) ?_); clear S a; intro a S
    refine st_go [1] S rfl (by kernel_rfl) ?_; clear S a; intro a S
    refine nxC ?_
    skip
    replace M := M.drop 0
    simp only [List.eraseIdx_cons_succ, List.eraseIdx_cons_zero] at M
    replace M := M.drop 0
    simp only [List.eraseIdx_cons_succ, List.eraseIdx_cons_zero] at M
    exact ⟨ys.length - (i + 1), by omega, i + 1, nxt n g k, la2, ma2, ka2, ea2, lc2, _, mc2, _, kc2, _, ec2, lo2, hi2, d1, d2, d3, d4, _, _, _, by omega, rfl, (nxt_ok ⟨by omega, hn31.2⟩ hg hk).1, by first | exact S.sub _ rfl | (rw [hnx]; exact S.sub _ rfl), M⟩
  clear S; intro h163 S
  refine st_go [0, 0, 0, 1] S rfl (by kernel_rfl) ?_; clear S a; intro a S
  refine st_y S rfl rfl rfl (y_neqBool (by kernel_rfl) S rfl rfl) ?_; clear S a; intro a S
  replace S := S.sub [(0, _), (7, _), (21, _), (22, _), (23, _), (24, _), (124, _), (125, _), (126, _), (145, _), (25, _), (151, _), (18, _), (168, _)] rfl
  refine nxC ?_
  refine st_split (t := 168) S rfl ?_ ?_
  · clear S; intro h168 S
    exfalso
    have hk1 : ((kl2.length : Int) == 1) = decide (nxt n g k = n ∧ g ≠ n) := by
      by_cases g : nxt n g k = n ∧ g ≠ n
      · rw [hkl.1 g, decide_eq_true g]; rfl
      · rw [hkl.2 g, decide_eq_false g]; rfl
    refine bool_ne (hk1.trans ?_) h168
    rw [Bool.eq_iff_iff]
    clear S M
    first
      | (simp only [decide_eq_true_eq, bne_iff_ne, ne_eq]; omega)
      | (simp only [decide_eq_true_eq, Bool.false_eq_true, iff_false]; omega)
  clear S; intro h168 S
  refine st_condF S rfl ?_
  refine wp_skip ?_
  refine nxF ?_
  refine st_y S rfl rfl rfl (y_loadAgg (cs := [_]) S (by kernel_rfl) rfl rfl (M.cellsAt (k := 1) 1 rfl rfl)) ?_; clear S a; intro a S
  refine st_store (sz := 1) (us := [_]) S M 2 rfl (by kernel_rfl) rfl rfl rfl rfl rfl rfl (by first | decide | (simp; done) | (simp; omega)) ?_; clear M; intro w140 M
  simp only [putL, List.set_cons_zero, List.set_cons_succ, Nat.reduceAdd] at M
  refine wpList_nil ?_
  refine block_normal ?_
  refine nxF ?_
  (first | refine st_y S rfl rfl rfl (y_addN S rfl rfl (by omega)) ?_ | refine st_y S rfl rfl rfl (y_int S rfl rfl rfl) ?_); clear S a; intro a S
  refine st_go [1] S rfl (by kernel_rfl) ?_; clear S a; intro a S
  refine nxC ?_
  skip
  replace M := M.drop 0
  simp only [List.eraseIdx_cons_succ, List.eraseIdx_cons_zero] at M
  replace M := M.drop 0
  simp only [List.eraseIdx_cons_succ, List.eraseIdx_cons_zero] at M
  exact ⟨ys.length - (i + 1), by omega, i + 1, nxt n g k, la2, ma2, ka2, ea2, lc2, _, mc2, _, kc2, _, ec2, lo2, hi2, d1, d2, d3, d4, _, _, _, by omega, rfl, (nxt_ok ⟨by omega, hn31.2⟩ hg hk).1, by first | exact S.sub _ rfl | (rw [hnx]; exact S.sub _ rfl), M⟩

end Go.Proofs.Ytidpeojkkfmgeaa
