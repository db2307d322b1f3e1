/-
  law10: RecoverAgain.
-/
import Derived.Test.YtodfphphidhjbaaRwk
namespace Go.Proofs.Ytodfphphidhjbaa
open Go.RowKit Go.Sort

set_option maxHeartbeats 1000000 in
set_option maxRecDepth 10000 in
theorem again_any (home : List V8) (hh : home.length = 32) (va : Option Addr) (vn vc : Nat) (cl : List Value) (l : Rl) (w : World) (hv : RcC cl 0 w.heap.size w (.slice va vn vc) l) (hsh : ∀ (i : Nat) (q : Rc × List Wr), l[i]? = some q → q.1.shards ≤ 9223372036854775807) :
    Calls Try.prog 3 #[.agg (hcells home).toArray, .slice va vn vc] w fun e w' => e = .returned (.bool true) ∧ Below w.heap.size w w' := by
  have M := Mem.start w
  have hhc : (hcells home).length = 256 := by rw [hcells_length, hh]
  have hs0 := stH_ok hh
  have hll := hv.1.2.1
  unfold maxLen at hll
  refine calls_enter Try.func3 rfl 71 rfl rfl ?_; intro a S
  refine nxD ?_
  refine st_box S M rfl rfl rfl _ rfl ?_; clear S M a; intro a w1 bH S M hB
  refine st_go [1] S rfl (by kernel_rfl) ?_; clear S a; intro a S
  refine nxC ?_
  refine wp_seq ?_
  refine nxD ?_
  refine st_go [1] S rfl (by kernel_rfl) ?_; clear S a; intro a S
  refine st_y S rfl rfl rfl (y_lenR (E := 43) S rfl ((M.rcs hv).1) (by kernel_rfl)) ?_; clear S a; intro a S
  refine st_go [1] S rfl (by kernel_rfl) ?_; clear S a; intro a S
  refine nxC ?_
  refine st_if (t := 15) S rfl ?_ ?_
  · clear S; intro h15 S
    refine st_condT S rfl ?_
    refine nxD ?_
    refine st_call (xs := []) S (enters_of Try.func4 (by decide) rfl) rfl rfl rfl (wakes10_any _) ?_
    rintro _ w2 ⟨rfl, hK⟩; refine ⟨_, rfl, ?_⟩; clear S a; intro a S; replace M := M.grow hK
    refine st_go [1] S rfl (by kernel_rfl) ?_; clear S a; intro a S
    refine nxC ?_
    refine wp_ret ?_
    refine then_ret ?_
    refine end_one S rfl (res_tmp rfl) ?_
    exact ⟨rfl, M.below⟩
  clear S; intro h15 S
  refine st_condF S rfl ?_
  refine wp_skip ?_
  refine nxE ?_
  refine st_y S rfl rfl rfl (y_loadAgg (k := 256) (cs := _) S (by kernel_rfl) rfl (by with_reducible first | exact hhc | exact St.len zSt_ok _ | exact St.len hs0 _ | exact St.len hR.ok _ | exact St.len hs2 _ | exact St.len hT.ok _ | exact St.pre_len hR.ok | exact St.pre_len hT.ok | exact hR.ok.hl | exact hT.ok.hl) (M.cellsAt 0 rfl cutL_all)) ?_; clear S a; intro a S
  refine st_y S rfl rfl rfl (y_build (ps := [(2, (Operand.tmp 17))]) (pl := [(0, 13), (13, 2), (15, 256), (271, 1), (272, 1)]) (z := zSt.cellsL (.slice none 0 0)) (cs := (stH home).cellsL (.slice none 0 0)) S (by kernel_rfl) rfl ((fillL_one (us := hcells home) (off := 15) (sz := 256) rfl rfl hhc (by rw [St.len zSt_ok]; exact (by decide : 15 + 256 ≤ 273))).trans (by rw [stH_fill hh]))) ?_; clear S a; intro a S
  refine st_alloc S M rfl rfl (zSt.cellsL (.slice none 0 0)).toArray (by kernel_rfl) ?_; clear S M a; intro a w3 bS S M hB
  refine st_storeAll (sz := 273) S M 0 rfl (by kernel_rfl) rfl rfl (by with_reducible first | exact hhc | exact St.len zSt_ok _ | exact St.len hs0 _ | exact St.len hR.ok _ | exact St.len hs2 _ | exact St.len hT.ok _ | exact St.pre_len hR.ok | exact St.pre_len hT.ok | exact hR.ok.hl | exact hT.ok.hl) (by with_reducible first | exact St.one hs0 _ rfl | exact St.one hR.ok _ rfl | exact St.one hs2 _ rfl | exact St.one hT.ok _ rfl) rfl (by with_reducible first | exact hhc | exact St.len zSt_ok _ | exact St.len hs0 _ | exact St.len hR.ok _ | exact St.len hs2 _ | exact St.len hT.ok _ | exact St.pre_len hR.ok | exact St.pre_len hT.ok | exact hR.ok.hl | exact hT.ok.hl) ?_; clear M; intro w4 M
  simp only [List.set_cons_zero, List.set_cons_succ] at M
  refine nxC ?_
  refine wp_seq ?_
  refine nxD ?_
  refine st_go [1] S rfl (by kernel_rfl) ?_; clear S a; intro a S
  refine nxC ?_
  refine wp_block ?_
  refine wp_loop_g (fun m a w' => ∃ (k : Nat) (s : St) (ps : Pl) (da : Option Addr) (dc lo hi : Nat) (cs : List Value) (es : List Ent), k ≤ l.length ∧ m = l.length - k ∧ Sees 71 a [(1, .slice va vn vc), (5, .pointer (some ⟨bS, 0, none⟩)), (6, .int .i64 (k : Int))] ∧ Mem w w' (.blk bS (s.cellsL (.slice da ps.length dc)).toArray 34 :: rowE lo hi 52 6 (.slice da ps.length dc) ps.length cs :: es) ∧ PrBk cs ps es ∧ Run home l k s ps ∧ (∀ (i : Nat) (q : Rc × List Wr), i < k → l[i]? = some q → q.2.length ≤ 1000000)) (l.length) ?_ ?_
  · skip
    replace M := M.rowNil 52 6
    replace M := M.front 1 rfl
    simp only [List.eraseIdx_cons_succ, List.eraseIdx_cons_zero] at M
    exact ⟨0, stH home, [], none, 0, _, _, [], _, Nat.zero_le _, rfl, S.sub _ rfl, M, PrBk.nil', run_zero hs0 rfl, fun i q h => absurd h (by omega)⟩
  clear S M a; intro m a wl
  rintro ⟨k, s, ps, da, dc, lo, hi, cs, es, hk, rfl, S, M, hBk, hR, hx0⟩
  refine wp_seq ?_
  refine nxD ?_
  refine st_go [1, 1] S rfl (by kernel_rfl) ?_; clear S a; intro a S
  refine st_y S rfl rfl rfl (y_lenR (E := 43) S rfl ((M.rcs hv).1) (by kernel_rfl)) ?_; clear S a; intro a S
  refine st_go [1] S rfl (by kernel_rfl) ?_; clear S a; intro a S
  refine nxC ?_
  refine st_if (t := 22) S rfl ?_ ?_
  · clear S; intro h22 S
    refine st_condT S rfl ?_
    refine wp_skip ?_
    refine then_normal ?_
    refine wp_seq ?_
    refine wp_block ?_
    refine wp_seq ?_
    refine wp_seq ?_
    have hk' : k < l.length := by omega
    have hpl := hR.len
    obtain ⟨q, hq⟩ : ∃ q, l[k]? = some q := ⟨_, List.getElem?_eq_getElem hk'⟩
    obtain ⟨xa, xc, hrow, hxw⟩ := hv.sl hq
    refine wp_region_lit ?_
    refine st_go [1, 1] S rfl (by kernel_rfl) ?_; clear S a; intro a S
    refine st_y S rfl rfl rfl (y_indexR (e := 43) (sz := 12) S (by kernel_rfl) rfl ((M.rcs hv).1) rfl (by first | omega | (simp; done) | (simp; omega))) ?_; clear S a; intro a S
    try simp only [Int.toNat_natCast, Nat.mul_one, Nat.zero_add] at S
    refine st_y S rfl rfl rfl (y_loadAgg S (by kernel_rfl) rfl rfl ((M.rcs hv).1.at_.row (i := k) hrow rfl)) ?_; clear S a; intro a S
    refine st_call (xs := [(Operand.tmp 28)]) S (enters_of Try.func5 (by decide) rfl) rfl rfl rfl (great07_any q.1 _ _ _ _) ?_
    rintro _ w5 ⟨rfl, hK⟩; refine ⟨_, rfl, ?_⟩; clear S a; intro a S; replace M := M.grow hK
    refine nxC ?_
    refine st_if (t := 29) S rfl ?_ ?_
    · clear S; intro h29 S
      refine st_condT S rfl ?_
      refine nxD ?_
      refine st_call (xs := []) S (enters_of Try.func4 (by decide) rfl) rfl rfl rfl (wakes10_any _) ?_
      rintro _ w6 ⟨rfl, hK⟩; refine ⟨_, rfl, ?_⟩; clear S a; intro a S; replace M := M.grow hK
      refine st_go [1] S rfl (by kernel_rfl) ?_; clear S a; intro a S
      refine nxC ?_
      refine wp_ret ?_
      refine then_ret ?_
      refine block_ret ?_
      refine then_ret ?_
      refine then_ret ?_
      refine block_ret ?_
      refine then_ret ?_
      refine end_one S rfl (res_tmp rfl) ?_
      exact ⟨rfl, M.below⟩
    clear S; intro h29 S
    refine st_condF S rfl ?_
    refine wp_skip ?_
    refine then_normal ?_
    refine wp_seq ?_
    refine wp_regionK [10] #[false, false, false, false, false, false, false, false, false, false, false, false] rfl M (by kernel_rfl) ?_; clear M; intro w7 M
    refine k_read (listed' := #[true, false, false, false, false, false, false, false, false, false, false, false]) 0 S rfl rfl rfl rfl (by kernel_rfl) rfl (fun _ d _ _ _ h => by cases d <;> exact h) (fun w hW => have M := M.grow hW; y_loadAgg (k := 273) (cs := _) S (by kernel_rfl) rfl (by with_reducible first | exact hhc | exact St.len zSt_ok _ | exact St.len hs0 _ | exact St.len hR.ok _ | exact St.len hs2 _ | exact St.len hT.ok _ | exact St.pre_len hR.ok | exact St.pre_len hT.ok | exact hR.ok.hl | exact hT.ok.hl) (M.cellsAt 0 rfl cutL_all)) ?_; clear S a; intro a S
    refine k_pure (listed' := #[true, true, false, false, false, false, false, false, false, false, false, false]) 1 S rfl rfl rfl rfl (by kernel_rfl) rfl (fun _ d _ _ _ h => by cases d <;> exact h) (fun w => y_move S rfl) ?_; clear S a; intro a S
    refine k_pure (listed' := #[true, true, true, false, false, false, false, false, false, false, false, false]) 2 S rfl rfl rfl rfl (by kernel_rfl) rfl (fun _ d _ _ _ h => by cases d <;> exact h) (fun w => y_move S rfl) ?_; clear S a; intro a S
    refine k_read (listed' := #[true, true, true, true, false, false, false, false, false, false, false, false]) 3 S rfl rfl rfl rfl (by kernel_rfl) rfl (fun _ d _ _ _ h => by cases d <;> exact h) (fun w hW => have M := M.grow hW; y_indexR (e := 43) (sz := 12) S (by kernel_rfl) rfl ((M.rcs hv).1) rfl (by first | omega | (simp; done) | (simp; omega))) ?_; clear S a; intro a S
    try simp only [Int.toNat_natCast, Nat.mul_one, Nat.zero_add] at S
    refine k_read (listed' := #[true, true, true, true, true, false, false, false, false, false, false, false]) 4 S rfl rfl rfl rfl (by kernel_rfl) rfl (fun _ d _ _ _ h => by cases d <;> exact h) (fun w hW => have M := M.grow hW; y_loadAgg S (by kernel_rfl) rfl rfl ((M.rcs hv).1.at_.row (i := k) hrow rfl)) ?_; clear S a; intro a S
    refine k_two (l1 := #[true, true, true, true, true, true, false, false, false, false, false, false]) (l2 := #[true, true, true, true, true, false, false, false, false, true, false, false]) 5 9 rfl rfl (by kernel_rfl) rfl rfl ?_ ?_
    · skip
      refine st_call (xs := [(Operand.tmp 32), (Operand.tmp 36)]) S (enters_of Try.func6 (by decide) rfl) rfl rfl rfl (apply_any s hR.ok _ cs ps _ ((hBk.prs M (List.mem_of_getElem? (show _[1]? = _ from rfl)) (fun e he => by simp [he]) (by unfold maxLen; omega)).wide (Nat.zero_le _) (Nat.le_refl _)) (by omega) hBk.short q.1 xa xc q.2 (M.argW hxw) (by omega) (hsh k q hq)) ?_
      rintro _ w8 hA; obtain ⟨s2, ps2, c, da2, dc2, lo2, hi2, cs2, es2, rfl, hs2, M2, hBk2, hc⟩ := apply_form hA (by omega); refine ⟨_, rfl, ?_⟩; clear S a hA; intro a S; have hK := M2.below
      first
        | replace M := M.joinD3 M2
        | replace M := M.joinD2 M2
      refine wpList_nil ?_; refine then_normal ?_; refine ⟨fun _ => hK, ?_⟩
      refine k_pure (listed' := #[true, true, true, true, true, true, true, false, false, false, false, false]) 6 S rfl rfl rfl rfl (by kernel_rfl) rfl (fun _ d _ _ _ h => by cases d <;> exact h) (fun w => y_move S rfl) ?_; clear S a; intro a S
      refine k_pure (listed' := #[true, true, true, true, true, true, true, true, false, false, false, false]) 7 S rfl rfl rfl rfl (by kernel_rfl) rfl (fun _ d _ _ _ h => by cases d <;> exact h) (fun w => y_extract S rfl rfl) ?_; clear S a; intro a S
      refine k_pure (listed' := #[true, true, true, true, true, true, true, true, true, false, false, false]) 8 S rfl rfl rfl rfl (by kernel_rfl) rfl (fun _ d _ _ _ h => by cases d <;> exact h) (fun w => y_extract S rfl rfl) ?_; clear S a; intro a S
      refine k_one (listed' := #[true, true, true, true, true, true, true, true, true, true, false, false]) 9 rfl (by kernel_rfl) rfl ?_
      refine st_alloc S M rfl rfl (zSt.cellsL (.slice none 0 0)).toArray (by kernel_rfl) ?_; clear S M a; intro a w9 bX S M hB
      refine wpList_nil ?_; refine then_normal ?_; refine ⟨fun _ => hB, ?_⟩
      refine k_one (listed' := #[true, true, true, true, true, true, true, true, true, true, true, false]) 10 rfl (by kernel_rfl) rfl ?_
      refine st_storeAll (sz := 273) S M 0 rfl (by kernel_rfl) rfl rfl (by with_reducible first | exact hhc | exact St.len zSt_ok _ | exact St.len hs0 _ | exact St.len hR.ok _ | exact St.len hs2 _ | exact St.len hT.ok _ | exact St.pre_len hR.ok | exact St.pre_len hT.ok | exact hR.ok.hl | exact hT.ok.hl) (by with_reducible first | exact St.one hs0 _ rfl | exact St.one hR.ok _ rfl | exact St.one hs2 _ rfl | exact St.one hT.ok _ rfl) rfl (by with_reducible first | exact hhc | exact St.len zSt_ok _ | exact St.len hs0 _ | exact St.len hR.ok _ | exact St.len hs2 _ | exact St.len hT.ok _ | exact St.pre_len hR.ok | exact St.pre_len hT.ok | exact hR.ok.hl | exact hT.ok.hl) ?_; clear M; intro w10 M
      simp only [List.set_cons_zero, List.set_cons_succ] at M
      refine wpList_nil ?_; refine then_normal ?_; refine ⟨fun h => absurd h (by decide), ?_⟩
      refine k_pure (listed' := #[true, true, true, true, true, true, true, true, true, true, true, true]) 11 S rfl rfl rfl rfl (by kernel_rfl) rfl (fun _ d _ _ _ h => by cases d <;> exact h) (fun w => y_assign S rfl) ?_; clear S a; intro a S
      refine k_end (by kernel_rfl) ?_
      replace S := S.sub [(1, _), (5, _), (6, _), (22, _), (29, _), (7, _), (8, _)] rfl
      refine nxE ?_
      refine st_go [1, 1] S rfl (by kernel_rfl) ?_; clear S a; intro a S
      refine nxC ?_
      refine st_fi (t := 41) S rfl ?_ ?_
      · clear S; intro h41 S
        refine st_condF S rfl ?_
        refine wp_skip ?_
        refine block_normal ?_
        refine nxF ?_
        refine st_go [1] S rfl (by kernel_rfl) ?_; clear S a; intro a S
        (first | refine st_y S rfl rfl rfl (y_addN S rfl rfl (by omega)) ?_ | refine st_y S rfl rfl rfl (y_int S rfl rfl rfl) ?_); clear S a; intro a S
        refine st_go [1] S rfl (by kernel_rfl) ?_; clear S a; intro a S
        refine nxC ?_
        have hx2 : ∀ (i : Nat) (q : Rc × List Wr), i < k + 1 → l[i]? = some q → q.2.length ≤ 1000000 := fun i p hi hp => by
          rcases Nat.lt_or_ge i k with h | h
          · exact hx0 i p h hp
          · obtain rfl : i = k := by omega
            rw [hq] at hp
            obtain rfl := Option.some.inj hp
            omega
        first
          | (have hc' : takes q.1 q.2 = true ∧ s2 = appSt s ps q.1 q.2 ∧ ps2 = (stepP ps q.1 q.2).1 := by
               rcases hc with ⟨h1, -, h2, h3⟩ | ⟨-, h2, -⟩
               · exact ⟨h1, h2, h3⟩
               · exfalso; omega
             obtain ⟨ht, rfl, rfl⟩ := hc'
             replace M := M.sub (.cons _ (.cons_cons _ (.cons _ (List.Sublist.refl _))))
             exact ⟨l.length - (k + 1), by omega, k + 1, _, _, da2, dc2, lo2, hi2, cs2, _, by omega, rfl, S.sub _ rfl, M, hBk2.mono (fun e he => by simp [he]), hR.yes hq ht, hx2⟩)
          | (have ht : takes q.1 q.2 = false := by
               rcases hc with ⟨-, h2, -⟩ | ⟨h1, -⟩
               · exfalso; omega
               · exact h1
             replace M := M.sub (.cons _ (.cons_cons _ (.cons_cons _ (.cons _ (List.Sublist.refl _)))))
             exact ⟨l.length - (k + 1), by omega, k + 1, s, ps, da, dc, lo, hi, cs, _, by omega, rfl, S.sub _ rfl, M, hBk.mono (fun e he => by simp [he]), hR.no hq ht, hx2⟩)
      clear S; intro h41 S
      refine st_condT S rfl ?_
      refine wp_region_lit ?_
      refine st_y S rfl rfl rfl (y_loadAgg (k := 273) (cs := _) S (by kernel_rfl) rfl (by with_reducible first | exact hhc | exact St.len zSt_ok _ | exact St.len hs0 _ | exact St.len hR.ok _ | exact St.len hs2 _ | exact St.len hT.ok _ | exact St.pre_len hR.ok | exact St.pre_len hT.ok | exact hR.ok.hl | exact hT.ok.hl) (M.cellsAt 0 rfl cutL_all)) ?_; clear S a; intro a S
      refine st_storeAll (sz := 273) S M 1 rfl (by kernel_rfl) rfl rfl (by with_reducible first | exact hhc | exact St.len zSt_ok _ | exact St.len hs0 _ | exact St.len hR.ok _ | exact St.len hs2 _ | exact St.len hT.ok _ | exact St.pre_len hR.ok | exact St.pre_len hT.ok | exact hR.ok.hl | exact hT.ok.hl) (by with_reducible first | exact St.one hs0 _ rfl | exact St.one hR.ok _ rfl | exact St.one hs2 _ rfl | exact St.one hT.ok _ rfl) rfl (by with_reducible first | exact hhc | exact St.len zSt_ok _ | exact St.len hs0 _ | exact St.len hR.ok _ | exact St.len hs2 _ | exact St.len hT.ok _ | exact St.pre_len hR.ok | exact St.pre_len hT.ok | exact hR.ok.hl | exact hT.ok.hl) ?_; clear M; intro w11 M
      simp only [List.set_cons_zero, List.set_cons_succ] at M
      refine wpList_nil ?_
      refine block_normal ?_
      refine nxF ?_
      refine st_go [1] S rfl (by kernel_rfl) ?_; clear S a; intro a S
      (first | refine st_y S rfl rfl rfl (y_addN S rfl rfl (by omega)) ?_ | refine st_y S rfl rfl rfl (y_int S rfl rfl rfl) ?_); clear S a; intro a S
      refine st_go [1] S rfl (by kernel_rfl) ?_; clear S a; intro a S
      refine nxC ?_
      have hx2 : ∀ (i : Nat) (q : Rc × List Wr), i < k + 1 → l[i]? = some q → q.2.length ≤ 1000000 := fun i p hi hp => by
        rcases Nat.lt_or_ge i k with h | h
        · exact hx0 i p h hp
        · obtain rfl : i = k := by omega
          rw [hq] at hp
          obtain rfl := Option.some.inj hp
          omega
      first
        | (have hc' : takes q.1 q.2 = true ∧ s2 = appSt s ps q.1 q.2 ∧ ps2 = (stepP ps q.1 q.2).1 := by
             rcases hc with ⟨h1, -, h2, h3⟩ | ⟨-, h2, -⟩
             · exact ⟨h1, h2, h3⟩
             · exfalso; omega
           obtain ⟨ht, rfl, rfl⟩ := hc'
           replace M := M.sub (.cons _ (.cons_cons _ (.cons _ (List.Sublist.refl _))))
           exact ⟨l.length - (k + 1), by omega, k + 1, _, _, da2, dc2, lo2, hi2, cs2, _, by omega, rfl, S.sub _ rfl, M, hBk2.mono (fun e he => by simp [he]), hR.yes hq ht, hx2⟩)
        | (have ht : takes q.1 q.2 = false := by
             rcases hc with ⟨-, h2, -⟩ | ⟨h1, -⟩
             · exfalso; omega
             · exact h1
           replace M := M.sub (.cons _ (.cons_cons _ (.cons_cons _ (.cons _ (List.Sublist.refl _)))))
           exact ⟨l.length - (k + 1), by omega, k + 1, s, ps, da, dc, lo, hi, cs, _, by omega, rfl, S.sub _ rfl, M, hBk.mono (fun e he => by simp [he]), hR.no hq ht, hx2⟩)
    · skip
      refine st_alloc S M rfl rfl (zSt.cellsL (.slice none 0 0)).toArray (by kernel_rfl) ?_; clear S M a; intro a w12 bX S M hB
      refine wpList_nil ?_; refine then_normal ?_; refine ⟨fun _ => hB, ?_⟩
      refine k_one (listed' := #[true, true, true, true, true, true, false, false, false, true, false, false]) 5 rfl (by kernel_rfl) rfl ?_
      refine st_call (xs := [(Operand.tmp 32), (Operand.tmp 36)]) S (enters_of Try.func6 (by decide) rfl) rfl rfl rfl (apply_any s hR.ok _ cs ps _ ((hBk.prs M (List.mem_of_getElem? (show _[2]? = _ from rfl)) (fun e he => by simp [he]) (by unfold maxLen; omega)).wide (Nat.zero_le _) (Nat.le_refl _)) (by omega) hBk.short q.1 xa xc q.2 (M.argW hxw) (by omega) (hsh k q hq)) ?_
      rintro _ w13 hA; obtain ⟨s2, ps2, c, da2, dc2, lo2, hi2, cs2, es2, rfl, hs2, M2, hBk2, hc⟩ := apply_form hA (by omega); refine ⟨_, rfl, ?_⟩; clear S a hA; intro a S; have hK := M2.below
      first
        | replace M := M.joinD3 M2
        | replace M := M.joinD2 M2
      refine wpList_nil ?_; refine then_normal ?_; refine ⟨fun _ => hK, ?_⟩
      refine k_pure (listed' := #[true, true, true, true, true, true, true, false, false, true, false, false]) 6 S rfl rfl rfl rfl (by kernel_rfl) rfl (fun _ d _ _ _ h => by cases d <;> exact h) (fun w => y_move S rfl) ?_; clear S a; intro a S
      refine k_pure (listed' := #[true, true, true, true, true, true, true, true, false, true, false, false]) 7 S rfl rfl rfl rfl (by kernel_rfl) rfl (fun _ d _ _ _ h => by cases d <;> exact h) (fun w => y_extract S rfl rfl) ?_; clear S a; intro a S
      refine k_pure (listed' := #[true, true, true, true, true, true, true, true, true, true, false, false]) 8 S rfl rfl rfl rfl (by kernel_rfl) rfl (fun _ d _ _ _ h => by cases d <;> exact h) (fun w => y_extract S rfl rfl) ?_; clear S a; intro a S
      refine k_one (listed' := #[true, true, true, true, true, true, true, true, true, true, true, false]) 10 rfl (by kernel_rfl) rfl ?_
      refine st_storeAll (sz := 273) S M 0 rfl (by kernel_rfl) rfl rfl (by with_reducible first | exact hhc | exact St.len zSt_ok _ | exact St.len hs0 _ | exact St.len hR.ok _ | exact St.len hs2 _ | exact St.len hT.ok _ | exact St.pre_len hR.ok | exact St.pre_len hT.ok | exact hR.ok.hl | exact hT.ok.hl) (by with_reducible first | exact St.one hs0 _ rfl | exact St.one hR.ok _ rfl | exact St.one hs2 _ rfl | exact St.one hT.ok _ rfl) rfl (by with_reducible first | exact hhc | exact St.len zSt_ok _ | exact St.len hs0 _ | exact St.len hR.ok _ | exact St.len hs2 _ | exact St.len hT.ok _ | exact St.pre_len hR.ok | exact St.pre_len hT.ok | exact hR.ok.hl | exact hT.ok.hl) ?_; clear M; intro w14 M
      simp only [List.set_cons_zero, List.set_cons_succ] at M
      refine wpList_nil ?_; refine then_normal ?_; refine ⟨fun h => absurd h (by decide), ?_⟩
      refine k_pure (listed' := #[true, true, true, true, true, true, true, true, true, true, true, true]) 11 S rfl rfl rfl rfl (by kernel_rfl) rfl (fun _ d _ _ _ h => by cases d <;> exact h) (fun w => y_assign S rfl) ?_; clear S a; intro a S
      refine k_end (by kernel_rfl) ?_
      replace S := S.sub [(1, _), (5, _), (6, _), (22, _), (29, _), (7, _), (8, _)] rfl
      refine nxE ?_
      refine st_go [1, 1] S rfl (by kernel_rfl) ?_; clear S a; intro a S
      refine nxC ?_
      refine st_fi (t := 41) S rfl ?_ ?_
      · clear S; intro h41 S
        refine st_condF S rfl ?_
        refine wp_skip ?_
        refine block_normal ?_
        refine nxF ?_
        refine st_go [1] S rfl (by kernel_rfl) ?_; clear S a; intro a S
        (first | refine st_y S rfl rfl rfl (y_addN S rfl rfl (by omega)) ?_ | refine st_y S rfl rfl rfl (y_int S rfl rfl rfl) ?_); clear S a; intro a S
        refine st_go [1] S rfl (by kernel_rfl) ?_; clear S a; intro a S
        refine nxC ?_
        have hx2 : ∀ (i : Nat) (q : Rc × List Wr), i < k + 1 → l[i]? = some q → q.2.length ≤ 1000000 := fun i p hi hp => by
          rcases Nat.lt_or_ge i k with h | h
          · exact hx0 i p h hp
          · obtain rfl : i = k := by omega
            rw [hq] at hp
            obtain rfl := Option.some.inj hp
            omega
        first
          | (have hc' : takes q.1 q.2 = true ∧ s2 = appSt s ps q.1 q.2 ∧ ps2 = (stepP ps q.1 q.2).1 := by
               rcases hc with ⟨h1, -, h2, h3⟩ | ⟨-, h2, -⟩
               · exact ⟨h1, h2, h3⟩
               · exfalso; omega
             obtain ⟨ht, rfl, rfl⟩ := hc'
             replace M := M.sub (.cons _ (.cons_cons _ (.cons _ (List.Sublist.refl _))))
             exact ⟨l.length - (k + 1), by omega, k + 1, _, _, da2, dc2, lo2, hi2, cs2, _, by omega, rfl, S.sub _ rfl, M, hBk2.mono (fun e he => by simp [he]), hR.yes hq ht, hx2⟩)
          | (have ht : takes q.1 q.2 = false := by
               rcases hc with ⟨-, h2, -⟩ | ⟨h1, -⟩
               · exfalso; omega
               · exact h1
             replace M := M.sub (.cons _ (.cons_cons _ (.cons_cons _ (.cons _ (List.Sublist.refl _)))))
             exact ⟨l.length - (k + 1), by omega, k + 1, s, ps, da, dc, lo, hi, cs, _, by omega, rfl, S.sub _ rfl, M, hBk.mono (fun e he => by simp [he]), hR.no hq ht, hx2⟩)
      clear S; intro h41 S
      refine st_condT S rfl ?_
      refine wp_region_lit ?_
      refine st_y S rfl rfl rfl (y_loadAgg (k := 273) (cs := _) S (by kernel_rfl) rfl (by with_reducible first | exact hhc | exact St.len zSt_ok _ | exact St.len hs0 _ | exact St.len hR.ok _ | exact St.len hs2 _ | exact St.len hT.ok _ | exact St.pre_len hR.ok | exact St.pre_len hT.ok | exact hR.ok.hl | exact hT.ok.hl) (M.cellsAt 0 rfl cutL_all)) ?_; clear S a; intro a S
      refine st_storeAll (sz := 273) S M 1 rfl (by kernel_rfl) rfl rfl (by with_reducible first | exact hhc | exact St.len zSt_ok _ | exact St.len hs0 _ | exact St.len hR.ok _ | exact St.len hs2 _ | exact St.len hT.ok _ | exact St.pre_len hR.ok | exact St.pre_len hT.ok | exact hR.ok.hl | exact hT.ok.hl) (by with_reducible first | exact St.one hs0 _ rfl | exact St.one hR.ok _ rfl | exact St.one hs2 _ rfl | exact St.one hT.ok _ rfl) rfl (by with_reducible first | exact hhc | exact St.len zSt_ok _ | exact St.len hs0 _ | exact St.len hR.ok _ | exact St.len hs2 _ | exact St.len hT.ok _ | exact St.pre_len hR.ok | exact St.pre_len hT.ok | exact hR.ok.hl | exact hT.ok.hl) ?_; clear M; intro w15 M
      simp only [List.set_cons_zero, List.set_cons_succ] at M
      refine wpList_nil ?_
      refine block_normal ?_
      refine nxF ?_
      refine st_go [1] S rfl (by kernel_rfl) ?_; clear S a; intro a S
      (first | refine st_y S rfl rfl rfl (y_addN S rfl rfl (by omega)) ?_ | refine st_y S rfl rfl rfl (y_int S rfl rfl rfl) ?_); clear S a; intro a S
      refine st_go [1] S rfl (by kernel_rfl) ?_; clear S a; intro a S
      refine nxC ?_
      have hx2 : ∀ (i : Nat) (q : Rc × List Wr), i < k + 1 → l[i]? = some q → q.2.length ≤ 1000000 := fun i p hi hp => by
        rcases Nat.lt_or_ge i k with h | h
        · exact hx0 i p h hp
        · obtain rfl : i = k := by omega
          rw [hq] at hp
          obtain rfl := Option.some.inj hp
          omega
      first
        | (have hc' : takes q.1 q.2 = true ∧ s2 = appSt s ps q.1 q.2 ∧ ps2 = (stepP ps q.1 q.2).1 := by
             rcases hc with ⟨h1, -, h2, h3⟩ | ⟨-, h2, -⟩
             · exact ⟨h1, h2, h3⟩
             · exfalso; omega
           obtain ⟨ht, rfl, rfl⟩ := hc'
           replace M := M.sub (.cons _ (.cons_cons _ (.cons _ (List.Sublist.refl _))))
           exact ⟨l.length - (k + 1), by omega, k + 1, _, _, da2, dc2, lo2, hi2, cs2, _, by omega, rfl, S.sub _ rfl, M, hBk2.mono (fun e he => by simp [he]), hR.yes hq ht, hx2⟩)
        | (have ht : takes q.1 q.2 = false := by
             rcases hc with ⟨-, h2, -⟩ | ⟨h1, -⟩
             · exfalso; omega
             · exact h1
           replace M := M.sub (.cons _ (.cons_cons _ (.cons_cons _ (.cons _ (List.Sublist.refl _)))))
           exact ⟨l.length - (k + 1), by omega, k + 1, s, ps, da, dc, lo, hi, cs, _, by omega, rfl, S.sub _ rfl, M, hBk.mono (fun e he => by simp [he]), hR.no hq ht, hx2⟩)
  clear S; intro h22 S
  refine st_condF S rfl ?_
  refine wp_exit ?_
  refine then_exit ?_
  refine then_exit ?_
  refine block_hit ?_
  refine then_normal ?_
  refine wp_seq ?_
  obtain rfl : k = l.length := by omega
  have hpl := hR.len
  have hx1 : ∀ (i : Nat) (q : Rc × List Wr), l[i]? = some q → q.2.length ≤ 1000000 := fun i q h => hx0 i q (List.getElem?_eq_some_iff.1 h).1 h
  refine wp_region_lit ?_
  refine st_y S rfl rfl rfl (y_loadAgg (k := 273) (cs := _) S (by kernel_rfl) rfl (by with_reducible first | exact hhc | exact St.len zSt_ok _ | exact St.len hs0 _ | exact St.len hR.ok _ | exact St.len hs2 _ | exact St.len hT.ok _ | exact St.pre_len hR.ok | exact St.pre_len hT.ok | exact hR.ok.hl | exact hT.ok.hl) (M.cellsAt 0 rfl cutL_all)) ?_; clear S a; intro a S
  refine st_alloc S M rfl rfl (zSt.cellsL (.slice none 0 0)).toArray (by kernel_rfl) ?_; clear S M a; intro a w16 bT S M hB
  refine st_storeAll (sz := 273) S M 0 rfl (by kernel_rfl) rfl rfl (by with_reducible first | exact hhc | exact St.len zSt_ok _ | exact St.len hs0 _ | exact St.len hR.ok _ | exact St.len hs2 _ | exact St.len hT.ok _ | exact St.pre_len hR.ok | exact St.pre_len hT.ok | exact hR.ok.hl | exact hT.ok.hl) (by with_reducible first | exact St.one hs0 _ rfl | exact St.one hR.ok _ rfl | exact St.one hs2 _ rfl | exact St.one hT.ok _ rfl) rfl (by with_reducible first | exact hhc | exact St.len zSt_ok _ | exact St.len hs0 _ | exact St.len hR.ok _ | exact St.len hs2 _ | exact St.len hT.ok _ | exact St.pre_len hR.ok | exact St.pre_len hT.ok | exact hR.ok.hl | exact hT.ok.hl) ?_; clear M; intro w17 M
  simp only [List.set_cons_zero, List.set_cons_succ] at M
  refine nxA ?_
  refine st_go [272] S rfl (by kernel_rfl) ?_; clear S a; intro a S
  refine st_store (sz := 1) (us := [_]) S M 0 rfl (by kernel_rfl) rfl rfl rfl rfl rfl rfl (by rw [St.len hR.ok]; exact (by decide : 272 ≤ 273)) ?_; clear M; intro w18 M
  simp only [putL, List.set_cons_zero, List.set_cons_succ, Nat.reduceAdd] at M
  refine nxC ?_
  refine wp_seq ?_
  refine wp_seq ?_
  rw [St.setD hR.ok] at M
  refine wp_region_lit ?_
  refine st_go [1] S rfl (by kernel_rfl) ?_; clear S a; intro a S
  refine nxC ?_
  refine wp_block ?_
  refine wp_loop_g (fun m a w' => ∃ (k : Nat) (t : St) (pt : Pl) (dt : Option Addr) (dd lo' hi' : Nat) (ct : List Value) (et : List Ent), k ≤ l.length ∧ m = l.length - k ∧ Sees 71 a [(1, .slice va vn vc), (5, .pointer (some ⟨bS, 0, none⟩)), (9, .pointer (some ⟨bT, 0, none⟩)), (10, .int .i64 (k : Int))] ∧ Mem w w' (.blk bT (t.cellsL (.slice dt pt.length dd)).toArray 34 :: .blk bS (s.cellsL (.slice da ps.length dc)).toArray 34 :: rowE lo' hi' 52 6 (.slice dt pt.length dd) pt.length ct :: et) ∧ PrBk ct pt et ∧ Run s.home l k t pt) (l.length) ?_ ?_
  · skip
    replace M := M.rowNil 52 6
    replace M := M.front 2 rfl
    simp only [List.eraseIdx_cons_succ, List.eraseIdx_cons_zero] at M
    replace M := M.front 2 rfl
    simp only [List.eraseIdx_cons_succ, List.eraseIdx_cons_zero] at M
    exact ⟨0, s, [], none, 0, _, _, [], _, Nat.zero_le _, rfl, S.sub _ rfl, M, PrBk.nil', run_zero hR.ok rfl⟩
  clear S M a; intro m a wl
  clear hBk
  rintro ⟨k, t, pt, dt, dd, lo', hi', ct, et, hk, rfl, S, M, hBk, hT⟩
  refine wp_seq ?_
  refine nxD ?_
  refine st_go [1, 1] S rfl (by kernel_rfl) ?_; clear S a; intro a S
  refine st_y S rfl rfl rfl (y_lenR (E := 43) S rfl ((M.rcs hv).1) (by kernel_rfl)) ?_; clear S a; intro a S
  refine st_go [1] S rfl (by kernel_rfl) ?_; clear S a; intro a S
  refine nxC ?_
  refine st_fi (t := 48) S rfl ?_ ?_
  · clear S; intro h48 S
    refine st_condF S rfl ?_
    refine wp_exit ?_
    refine then_exit ?_
    refine then_exit ?_
    refine block_hit ?_
    refine then_normal ?_
    refine wp_seq ?_
    obtain rfl : k = l.length := by omega
    have hfin : t.home = s.home := by
      have h1 := hT.hhome
      have h2 := hR.hhome
      rw [h1, h2, onF_twice _ hh]
    refine wp_region_lit ?_
    refine st_go [16] S rfl (by kernel_rfl) ?_; clear S a; intro a S
    refine st_y S rfl rfl rfl (y_loadAgg (k := 256) S (by kernel_rfl) rfl (by with_reducible first | exact hhc | exact St.len zSt_ok _ | exact St.len hs0 _ | exact St.len hR.ok _ | exact St.len hs2 _ | exact St.len hT.ok _ | exact St.pre_len hR.ok | exact St.pre_len hT.ok | exact hR.ok.hl | exact hT.ok.hl) (M.cellsMid 0 rfl (by with_reducible first | exact hhc | exact St.len zSt_ok _ | exact St.len hs0 _ | exact St.len hR.ok _ | exact St.len hs2 _ | exact St.len hT.ok _ | exact St.pre_len hR.ok | exact St.pre_len hT.ok | exact hR.ok.hl | exact hT.ok.hl))) ?_; clear S a; intro a S
    refine st_go [16] S rfl (by kernel_rfl) ?_; clear S a; intro a S
    refine st_y S rfl rfl rfl (y_loadAgg (k := 256) S (by kernel_rfl) rfl (by with_reducible first | exact hhc | exact St.len zSt_ok _ | exact St.len hs0 _ | exact St.len hR.ok _ | exact St.len hs2 _ | exact St.len hT.ok _ | exact St.pre_len hR.ok | exact St.pre_len hT.ok | exact hR.ok.hl | exact hT.ok.hl) (M.cellsMid 1 rfl (by with_reducible first | exact hhc | exact St.len zSt_ok _ | exact St.len hs0 _ | exact St.len hR.ok _ | exact St.len hs2 _ | exact St.len hT.ok _ | exact St.pre_len hR.ok | exact St.pre_len hT.ok | exact hR.ok.hl | exact hT.ok.hl))) ?_; clear S a; intro a S
    rw [hfin] at S
    refine st_y S rfl rfl rfl (y_eqlG (by kernel_rfl) S rfl rfl (fun w => equalHs 9997 s.home hR.ok.lh w)) ?_; clear S a; intro a S
    refine st_go [1] S rfl (by kernel_rfl) ?_; clear S a; intro a S
    refine st_fi (t := 68) S rfl ?_ ?_
    · clear S; intro h68 S
      simp at h68
    clear S; intro h68 S
    refine st_call (xs := []) S (enters_of Try.func4 (by decide) rfl) rfl rfl rfl (wakes10_any _) ?_
    rintro _ w28 ⟨rfl, hK⟩; refine ⟨_, rfl, ?_⟩; clear S a; intro a S; replace M := M.grow hK
    refine st_go [1, 1] S rfl (by kernel_rfl) ?_; clear S a; intro a S
    refine nxC ?_
    refine wp_ret ?_
    refine end_one S rfl (res_tmp rfl) ?_
    exact ⟨rfl, M.below⟩
  clear S; intro h48 S
  refine st_condT S rfl ?_
  refine wp_skip ?_
  refine then_normal ?_
  refine wp_seq ?_
  refine wp_block ?_
  refine wp_seq ?_
  have hk' : k < l.length := by omega
  have hpt := hT.len
  obtain ⟨q, hq⟩ : ∃ q, l[k]? = some q := ⟨_, List.getElem?_eq_getElem hk'⟩
  obtain ⟨xa, xc, hrow, hxw⟩ := hv.sl hq
  refine wp_regionK [10] #[false, false, false, false, false, false, false, false, false, false, false, false] rfl M (by kernel_rfl) ?_; clear M; intro w19 M
  refine k_read (listed' := #[true, false, false, false, false, false, false, false, false, false, false, false]) 0 S rfl rfl rfl rfl (by kernel_rfl) rfl (fun _ d _ _ _ h => by cases d <;> exact h) (fun w hW => have M := M.grow hW; y_loadAgg (k := 273) (cs := _) S (by kernel_rfl) rfl (by with_reducible first | exact hhc | exact St.len zSt_ok _ | exact St.len hs0 _ | exact St.len hR.ok _ | exact St.len hs2 _ | exact St.len hT.ok _ | exact St.pre_len hR.ok | exact St.pre_len hT.ok | exact hR.ok.hl | exact hT.ok.hl) (M.cellsAt 0 rfl cutL_all)) ?_; clear S a; intro a S
  refine k_pure (listed' := #[true, true, false, false, false, false, false, false, false, false, false, false]) 1 S rfl rfl rfl rfl (by kernel_rfl) rfl (fun _ d _ _ _ h => by cases d <;> exact h) (fun w => y_move S rfl) ?_; clear S a; intro a S
  refine k_pure (listed' := #[true, true, true, false, false, false, false, false, false, false, false, false]) 2 S rfl rfl rfl rfl (by kernel_rfl) rfl (fun _ d _ _ _ h => by cases d <;> exact h) (fun w => y_move S rfl) ?_; clear S a; intro a S
  refine k_read (listed' := #[true, true, true, true, false, false, false, false, false, false, false, false]) 3 S rfl rfl rfl rfl (by kernel_rfl) rfl (fun _ d _ _ _ h => by cases d <;> exact h) (fun w hW => have M := M.grow hW; y_indexR (e := 43) (sz := 12) S (by kernel_rfl) rfl ((M.rcs hv).1) rfl (by first | omega | (simp; done) | (simp; omega))) ?_; clear S a; intro a S
  try simp only [Int.toNat_natCast, Nat.mul_one, Nat.zero_add] at S
  refine k_read (listed' := #[true, true, true, true, true, false, false, false, false, false, false, false]) 4 S rfl rfl rfl rfl (by kernel_rfl) rfl (fun _ d _ _ _ h => by cases d <;> exact h) (fun w hW => have M := M.grow hW; y_loadAgg S (by kernel_rfl) rfl rfl ((M.rcs hv).1.at_.row (i := k) hrow rfl)) ?_; clear S a; intro a S
  refine k_two (l1 := #[true, true, true, true, true, true, false, false, false, false, false, false]) (l2 := #[true, true, true, true, true, false, false, false, false, true, false, false]) 5 9 rfl rfl (by kernel_rfl) rfl rfl ?_ ?_
  · skip
    refine st_call (xs := [(Operand.tmp 52), (Operand.tmp 56)]) S (enters_of Try.func6 (by decide) rfl) rfl rfl rfl (apply_any t hT.ok _ ct pt _ ((hBk.prs M (List.mem_of_getElem? (show _[2]? = _ from rfl)) (fun e he => by simp [he]) (by unfold maxLen; omega)).wide (Nat.zero_le _) (Nat.le_refl _)) (by omega) hBk.short q.1 xa xc q.2 (M.argW hxw) (hx1 k q hq) (hsh k q hq)) ?_
    rintro _ w20 hA; obtain ⟨s2, ps2, c, da2, dc2, lo2, hi2, cs2, es2, rfl, hs2, M2, hBk2, hc⟩ := apply_form hA (by omega); refine ⟨_, rfl, ?_⟩; clear S a hA; intro a S; have hK := M2.below
    first
      | replace M := M.joinD4 M2
      | replace M := M.joinD3 M2
    refine wpList_nil ?_; refine then_normal ?_; refine ⟨fun _ => hK, ?_⟩
    refine k_pure (listed' := #[true, true, true, true, true, true, true, false, false, false, false, false]) 6 S rfl rfl rfl rfl (by kernel_rfl) rfl (fun _ d _ _ _ h => by cases d <;> exact h) (fun w => y_move S rfl) ?_; clear S a; intro a S
    refine k_pure (listed' := #[true, true, true, true, true, true, true, true, false, false, false, false]) 7 S rfl rfl rfl rfl (by kernel_rfl) rfl (fun _ d _ _ _ h => by cases d <;> exact h) (fun w => y_extract S rfl rfl) ?_; clear S a; intro a S
    refine k_pure (listed' := #[true, true, true, true, true, true, true, true, true, false, false, false]) 8 S rfl rfl rfl rfl (by kernel_rfl) rfl (fun _ d _ _ _ h => by cases d <;> exact h) (fun w => y_extract S rfl rfl) ?_; clear S a; intro a S
    refine k_one (listed' := #[true, true, true, true, true, true, true, true, true, true, false, false]) 9 rfl (by kernel_rfl) rfl ?_
    refine st_alloc S M rfl rfl (zSt.cellsL (.slice none 0 0)).toArray (by kernel_rfl) ?_; clear S M a; intro a w21 bX S M hB
    refine wpList_nil ?_; refine then_normal ?_; refine ⟨fun _ => hB, ?_⟩
    refine k_one (listed' := #[true, true, true, true, true, true, true, true, true, true, true, false]) 10 rfl (by kernel_rfl) rfl ?_
    refine st_storeAll (sz := 273) S M 0 rfl (by kernel_rfl) rfl rfl (by with_reducible first | exact hhc | exact St.len zSt_ok _ | exact St.len hs0 _ | exact St.len hR.ok _ | exact St.len hs2 _ | exact St.len hT.ok _ | exact St.pre_len hR.ok | exact St.pre_len hT.ok | exact hR.ok.hl | exact hT.ok.hl) (by with_reducible first | exact St.one hs0 _ rfl | exact St.one hR.ok _ rfl | exact St.one hs2 _ rfl | exact St.one hT.ok _ rfl) rfl (by with_reducible first | exact hhc | exact St.len zSt_ok _ | exact St.len hs0 _ | exact St.len hR.ok _ | exact St.len hs2 _ | exact St.len hT.ok _ | exact St.pre_len hR.ok | exact St.pre_len hT.ok | exact hR.ok.hl | exact hT.ok.hl) ?_; clear M; intro w22 M
    simp only [List.set_cons_zero, List.set_cons_succ] at M
    refine wpList_nil ?_; refine then_normal ?_; refine ⟨fun h => absurd h (by decide), ?_⟩
    refine k_pure (listed' := #[true, true, true, true, true, true, true, true, true, true, true, true]) 11 S rfl rfl rfl rfl (by kernel_rfl) rfl (fun _ d _ _ _ h => by cases d <;> exact h) (fun w => y_assign S rfl) ?_; clear S a; intro a S
    refine k_end (by kernel_rfl) ?_
    refine nxE ?_
    refine st_go [1, 1] S rfl (by kernel_rfl) ?_; clear S a; intro a S
    refine nxC ?_
    refine st_fi (t := 61) S rfl ?_ ?_
    · clear S; intro h61 S
      refine st_condF S rfl ?_
      refine wp_skip ?_
      refine block_normal ?_
      refine nxF ?_
      refine st_go [1] S rfl (by kernel_rfl) ?_; clear S a; intro a S
      (first | refine st_y S rfl rfl rfl (y_addN S rfl rfl (by omega)) ?_ | refine st_y S rfl rfl rfl (y_int S rfl rfl rfl) ?_); clear S a; intro a S
      refine st_go [1] S rfl (by kernel_rfl) ?_; clear S a; intro a S
      replace S := S.sub [(1, _), (5, _), (9, _), (48, _), (11, _), (12, _), (61, _), (10, _)] rfl
      refine nxC ?_
      first
        | (have hc' : takes q.1 q.2 = true ∧ s2 = appSt t pt q.1 q.2 ∧ ps2 = (stepP pt q.1 q.2).1 := by
             rcases hc with ⟨h1, -, h2, h3⟩ | ⟨-, h2, -⟩
             · exact ⟨h1, h2, h3⟩
             · exfalso; omega
           obtain ⟨ht, rfl, rfl⟩ := hc'
           replace M := M.sub (.cons _ (.cons_cons _ (.cons_cons _ (.cons _ (List.Sublist.refl _)))))
           exact ⟨l.length - (k + 1), by omega, k + 1, _, _, da2, dc2, lo2, hi2, cs2, _, by omega, rfl, S.sub _ rfl, M, hBk2.mono (fun e he => by simp [he]), hT.yes hq ht⟩)
        | (have ht : takes q.1 q.2 = false := by
             rcases hc with ⟨-, h2, -⟩ | ⟨h1, -⟩
             · exfalso; omega
             · exact h1
           replace M := M.sub (.cons _ (.cons_cons _ (.cons_cons _ (.cons_cons _ (.cons _ (List.Sublist.refl _))))))
           exact ⟨l.length - (k + 1), by omega, k + 1, t, pt, dt, dd, lo', hi', ct, _, by omega, rfl, S.sub _ rfl, M, hBk.mono (fun e he => by simp [he]), hT.no hq ht⟩)
    clear S; intro h61 S
    refine st_condT S rfl ?_
    refine wp_region_lit ?_
    refine st_y S rfl rfl rfl (y_loadAgg (k := 273) (cs := _) S (by kernel_rfl) rfl (by with_reducible first | exact hhc | exact St.len zSt_ok _ | exact St.len hs0 _ | exact St.len hR.ok _ | exact St.len hs2 _ | exact St.len hT.ok _ | exact St.pre_len hR.ok | exact St.pre_len hT.ok | exact hR.ok.hl | exact hT.ok.hl) (M.cellsAt 0 rfl cutL_all)) ?_; clear S a; intro a S
    refine st_storeAll (sz := 273) S M 1 rfl (by kernel_rfl) rfl rfl (by with_reducible first | exact hhc | exact St.len zSt_ok _ | exact St.len hs0 _ | exact St.len hR.ok _ | exact St.len hs2 _ | exact St.len hT.ok _ | exact St.pre_len hR.ok | exact St.pre_len hT.ok | exact hR.ok.hl | exact hT.ok.hl) (by with_reducible first | exact St.one hs0 _ rfl | exact St.one hR.ok _ rfl | exact St.one hs2 _ rfl | exact St.one hT.ok _ rfl) rfl (by with_reducible first | exact hhc | exact St.len zSt_ok _ | exact St.len hs0 _ | exact St.len hR.ok _ | exact St.len hs2 _ | exact St.len hT.ok _ | exact St.pre_len hR.ok | exact St.pre_len hT.ok | exact hR.ok.hl | exact hT.ok.hl) ?_; clear M; intro w23 M
    simp only [List.set_cons_zero, List.set_cons_succ] at M
    replace S := S.sub [(1, _), (5, _), (9, _), (10, _), (48, _), (11, _), (12, _), (61, _)] rfl
    refine wpList_nil ?_
    refine block_normal ?_
    refine nxF ?_
    refine st_go [1] S rfl (by kernel_rfl) ?_; clear S a; intro a S
    (first | refine st_y S rfl rfl rfl (y_addN S rfl rfl (by omega)) ?_ | refine st_y S rfl rfl rfl (y_int S rfl rfl rfl) ?_); clear S a; intro a S
    refine st_go [1] S rfl (by kernel_rfl) ?_; clear S a; intro a S
    refine nxC ?_
    first
      | (have hc' : takes q.1 q.2 = true ∧ s2 = appSt t pt q.1 q.2 ∧ ps2 = (stepP pt q.1 q.2).1 := by
           rcases hc with ⟨h1, -, h2, h3⟩ | ⟨-, h2, -⟩
           · exact ⟨h1, h2, h3⟩
           · exfalso; omega
         obtain ⟨ht, rfl, rfl⟩ := hc'
         replace M := M.sub (.cons _ (.cons_cons _ (.cons_cons _ (.cons _ (List.Sublist.refl _)))))
         exact ⟨l.length - (k + 1), by omega, k + 1, _, _, da2, dc2, lo2, hi2, cs2, _, by omega, rfl, S.sub _ rfl, M, hBk2.mono (fun e he => by simp [he]), hT.yes hq ht⟩)
      | (have ht : takes q.1 q.2 = false := by
           rcases hc with ⟨-, h2, -⟩ | ⟨h1, -⟩
           · exfalso; omega
           · exact h1
         replace M := M.sub (.cons _ (.cons_cons _ (.cons_cons _ (.cons_cons _ (.cons _ (List.Sublist.refl _))))))
         exact ⟨l.length - (k + 1), by omega, k + 1, t, pt, dt, dd, lo', hi', ct, _, by omega, rfl, S.sub _ rfl, M, hBk.mono (fun e he => by simp [he]), hT.no hq ht⟩)
  · skip
    refine st_alloc S M rfl rfl (zSt.cellsL (.slice none 0 0)).toArray (by kernel_rfl) ?_; clear S M a; intro a w24 bX S M hB
    refine wpList_nil ?_; refine then_normal ?_; refine ⟨fun _ => hB, ?_⟩
    refine k_one (listed' := #[true, true, true, true, true, true, false, false, false, true, false, false]) 5 rfl (by kernel_rfl) rfl ?_
    refine st_call (xs := [(Operand.tmp 52), (Operand.tmp 56)]) S (enters_of Try.func6 (by decide) rfl) rfl rfl rfl (apply_any t hT.ok _ ct pt _ ((hBk.prs M (List.mem_of_getElem? (show _[3]? = _ from rfl)) (fun e he => by simp [he]) (by unfold maxLen; omega)).wide (Nat.zero_le _) (Nat.le_refl _)) (by omega) hBk.short q.1 xa xc q.2 (M.argW hxw) (hx1 k q hq) (hsh k q hq)) ?_
    rintro _ w25 hA; obtain ⟨s2, ps2, c, da2, dc2, lo2, hi2, cs2, es2, rfl, hs2, M2, hBk2, hc⟩ := apply_form hA (by omega); refine ⟨_, rfl, ?_⟩; clear S a hA; intro a S; have hK := M2.below
    first
      | replace M := M.joinD4 M2
      | replace M := M.joinD3 M2
    refine wpList_nil ?_; refine then_normal ?_; refine ⟨fun _ => hK, ?_⟩
    refine k_pure (listed' := #[true, true, true, true, true, true, true, false, false, true, false, false]) 6 S rfl rfl rfl rfl (by kernel_rfl) rfl (fun _ d _ _ _ h => by cases d <;> exact h) (fun w => y_move S rfl) ?_; clear S a; intro a S
    refine k_pure (listed' := #[true, true, true, true, true, true, true, true, false, true, false, false]) 7 S rfl rfl rfl rfl (by kernel_rfl) rfl (fun _ d _ _ _ h => by cases d <;> exact h) (fun w => y_extract S rfl rfl) ?_; clear S a; intro a S
    refine k_pure (listed' := #[true, true, true, true, true, true, true, true, true, true, false, false]) 8 S rfl rfl rfl rfl (by kernel_rfl) rfl (fun _ d _ _ _ h => by cases d <;> exact h) (fun w => y_extract S rfl rfl) ?_; clear S a; intro a S
    refine k_one (listed' := #[true, true, true, true, true, true, true, true, true, true, true, false]) 10 rfl (by kernel_rfl) rfl ?_
    refine st_storeAll (sz := 273) S M 0 rfl (by kernel_rfl) rfl rfl (by with_reducible first | exact hhc | exact St.len zSt_ok _ | exact St.len hs0 _ | exact St.len hR.ok _ | exact St.len hs2 _ | exact St.len hT.ok _ | exact St.pre_len hR.ok | exact St.pre_len hT.ok | exact hR.ok.hl | exact hT.ok.hl) (by with_reducible first | exact St.one hs0 _ rfl | exact St.one hR.ok _ rfl | exact St.one hs2 _ rfl | exact St.one hT.ok _ rfl) rfl (by with_reducible first | exact hhc | exact St.len zSt_ok _ | exact St.len hs0 _ | exact St.len hR.ok _ | exact St.len hs2 _ | exact St.len hT.ok _ | exact St.pre_len hR.ok | exact St.pre_len hT.ok | exact hR.ok.hl | exact hT.ok.hl) ?_; clear M; intro w26 M
    simp only [List.set_cons_zero, List.set_cons_succ] at M
    refine wpList_nil ?_; refine then_normal ?_; refine ⟨fun h => absurd h (by decide), ?_⟩
    refine k_pure (listed' := #[true, true, true, true, true, true, true, true, true, true, true, true]) 11 S rfl rfl rfl rfl (by kernel_rfl) rfl (fun _ d _ _ _ h => by cases d <;> exact h) (fun w => y_assign S rfl) ?_; clear S a; intro a S
    refine k_end (by kernel_rfl) ?_
    refine nxE ?_
    refine st_go [1, 1] S rfl (by kernel_rfl) ?_; clear S a; intro a S
    refine nxC ?_
    refine st_fi (t := 61) S rfl ?_ ?_
    · clear S; intro h61 S
      refine st_condF S rfl ?_
      refine wp_skip ?_
      refine block_normal ?_
      refine nxF ?_
      refine st_go [1] S rfl (by kernel_rfl) ?_; clear S a; intro a S
      (first | refine st_y S rfl rfl rfl (y_addN S rfl rfl (by omega)) ?_ | refine st_y S rfl rfl rfl (y_int S rfl rfl rfl) ?_); clear S a; intro a S
      refine st_go [1] S rfl (by kernel_rfl) ?_; clear S a; intro a S
      replace S := S.sub [(1, _), (5, _), (9, _), (48, _), (11, _), (12, _), (61, _), (10, _)] rfl
      refine nxC ?_
      first
        | (have hc' : takes q.1 q.2 = true ∧ s2 = appSt t pt q.1 q.2 ∧ ps2 = (stepP pt q.1 q.2).1 := by
             rcases hc with ⟨h1, -, h2, h3⟩ | ⟨-, h2, -⟩
             · exact ⟨h1, h2, h3⟩
             · exfalso; omega
           obtain ⟨ht, rfl, rfl⟩ := hc'
           replace M := M.sub (.cons _ (.cons_cons _ (.cons_cons _ (.cons _ (List.Sublist.refl _)))))
           exact ⟨l.length - (k + 1), by omega, k + 1, _, _, da2, dc2, lo2, hi2, cs2, _, by omega, rfl, S.sub _ rfl, M, hBk2.mono (fun e he => by simp [he]), hT.yes hq ht⟩)
        | (have ht : takes q.1 q.2 = false := by
             rcases hc with ⟨-, h2, -⟩ | ⟨h1, -⟩
             · exfalso; omega
             · exact h1
           replace M := M.sub (.cons _ (.cons_cons _ (.cons_cons _ (.cons_cons _ (.cons _ (List.Sublist.refl _))))))
           exact ⟨l.length - (k + 1), by omega, k + 1, t, pt, dt, dd, lo', hi', ct, _, by omega, rfl, S.sub _ rfl, M, hBk.mono (fun e he => by simp [he]), hT.no hq ht⟩)
    clear S; intro h61 S
    refine st_condT S rfl ?_
    refine wp_region_lit ?_
    refine st_y S rfl rfl rfl (y_loadAgg (k := 273) (cs := _) S (by kernel_rfl) rfl (by with_reducible first | exact hhc | exact St.len zSt_ok _ | exact St.len hs0 _ | exact St.len hR.ok _ | exact St.len hs2 _ | exact St.len hT.ok _ | exact St.pre_len hR.ok | exact St.pre_len hT.ok | exact hR.ok.hl | exact hT.ok.hl) (M.cellsAt 0 rfl cutL_all)) ?_; clear S a; intro a S
    refine st_storeAll (sz := 273) S M 1 rfl (by kernel_rfl) rfl rfl (by with_reducible first | exact hhc | exact St.len zSt_ok _ | exact St.len hs0 _ | exact St.len hR.ok _ | exact St.len hs2 _ | exact St.len hT.ok _ | exact St.pre_len hR.ok | exact St.pre_len hT.ok | exact hR.ok.hl | exact hT.ok.hl) (by with_reducible first | exact St.one hs0 _ rfl | exact St.one hR.ok _ rfl | exact St.one hs2 _ rfl | exact St.one hT.ok _ rfl) rfl (by with_reducible first | exact hhc | exact St.len zSt_ok _ | exact St.len hs0 _ | exact St.len hR.ok _ | exact St.len hs2 _ | exact St.len hT.ok _ | exact St.pre_len hR.ok | exact St.pre_len hT.ok | exact hR.ok.hl | exact hT.ok.hl) ?_; clear M; intro w27 M
    simp only [List.set_cons_zero, List.set_cons_succ] at M
    replace S := S.sub [(1, _), (5, _), (9, _), (10, _), (48, _), (11, _), (12, _), (61, _)] rfl
    refine wpList_nil ?_
    refine block_normal ?_
    refine nxF ?_
    refine st_go [1] S rfl (by kernel_rfl) ?_; clear S a; intro a S
    (first | refine st_y S rfl rfl rfl (y_addN S rfl rfl (by omega)) ?_ | refine st_y S rfl rfl rfl (y_int S rfl rfl rfl) ?_); clear S a; intro a S
    refine st_go [1] S rfl (by kernel_rfl) ?_; clear S a; intro a S
    refine nxC ?_
    first
      | (have hc' : takes q.1 q.2 = true ∧ s2 = appSt t pt q.1 q.2 ∧ ps2 = (stepP pt q.1 q.2).1 := by
           rcases hc with ⟨h1, -, h2, h3⟩ | ⟨-, h2, -⟩
           · exact ⟨h1, h2, h3⟩
           · exfalso; omega
         obtain ⟨ht, rfl, rfl⟩ := hc'
         replace M := M.sub (.cons _ (.cons_cons _ (.cons_cons _ (.cons _ (List.Sublist.refl _)))))
         exact ⟨l.length - (k + 1), by omega, k + 1, _, _, da2, dc2, lo2, hi2, cs2, _, by omega, rfl, S.sub _ rfl, M, hBk2.mono (fun e he => by simp [he]), hT.yes hq ht⟩)
      | (have ht : takes q.1 q.2 = false := by
           rcases hc with ⟨-, h2, -⟩ | ⟨h1, -⟩
           · exfalso; omega
           · exact h1
         replace M := M.sub (.cons _ (.cons_cons _ (.cons_cons _ (.cons_cons _ (.cons _ (List.Sublist.refl _))))))
         exact ⟨l.length - (k + 1), by omega, k + 1, t, pt, dt, dd, lo', hi', ct, _, by omega, rfl, S.sub _ rfl, M, hBk.mono (fun e he => by simp [he]), hT.no hq ht⟩)

end Go.Proofs.Ytodfphphidhjbaa
