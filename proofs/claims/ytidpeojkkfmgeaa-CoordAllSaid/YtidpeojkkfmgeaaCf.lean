/-
  Package coord: abort.
-/
import Derived.Test.YtidpeojkkfmgeaaCe
namespace Go.Proofs.Ytidpeojkkfmgeaa
open Go.RowKit Go.Sort

section
variable {wc w : World} {H : List Ent} {b : Nat} {ds : Dl} {ml : Mls} {kl : Kl} {el : El} {es : List Ent}
set_option maxHeartbeats 1000000 in
theorem abort_any (W : MacE wc w H b ds ml kl el es) (k : Nat) (q : Dr × List Wr) (hq : ds[k]? = some q) (hl : ds.length ≤ 1000) (hml : ml.length ≤ 90000) (hel : el.length ≤ 90000) :
    Calls Try.prog 44 #[.pointer (some ⟨b, 0, none⟩), .int .i64 (k : Int)] w (fun e w' => e = .returned (.tuple #[]) ∧ MacE wc w' H b (ds.eraseIdx k) (ml ++ (bitsK q.1.shards 4).map (decM q.1.name false)) kl (el ++ [(q.1.name, false)]) es) := by
  obtain ⟨la, ln, lc, llo, lhi, lcs, ma, mc, mlo, mhi, mcs, ka, kc, klo, khi, kcs, ea, ec, elo, ehi, ecs, rfl, M, hD, hM, hK, hEn⟩ := W
  have hkl := (List.getElem?_eq_some_iff.1 hq).1
  obtain ⟨dl, hrow0, hdw⟩ := hD.at hq
  obtain ⟨da, dc, rfl, -⟩ := hdw.form
  have hrow : (lcs.drop (k * 10)).take 10 = (q.1.cells (.slice da q.2.length dc)).toList := hrow0
  refine calls_enter Try.func44 rfl 36 rfl rfl ?_; intro a S
  refine wp_seq ?_
  skip
  refine wp_region_lit ?_
  refine st_run [1, 1, 1, 1, 1, 1] S M rfl (by kernel_rfl) ?_; clear S a; intro a S
  refine st_y S rfl rfl rfl (y_indexR (e := 59) (sz := 10) S (by kernel_rfl) rfl (M.readRow 1 rfl (by unfold maxLen; omega)) rfl (by first | omega | (simp; done) | (simp; omega))) ?_; clear S a; intro a S
  try simp only [Int.toNat_natCast, Nat.mul_one, Nat.zero_add] at S
  refine st_y S rfl rfl rfl (y_loadAgg S (by kernel_rfl) rfl rfl ((M.readRow 1 rfl (by unfold maxLen; omega)).at_.row (i := k) hrow rfl)) ?_; clear S a; intro a S
  refine st_alloc S M rfl rfl #[.int .i64 0, .int .i64 0, .int .i64 0, .int .i8 0, .int .i64 0, .int .i64 0, .int .i64 0, .int .i64 0, .int .i64 0, .slice none 0 0] (by kernel_rfl) ?_; clear S M a; intro a w1 bP S M hB
  refine st_store (sz := 10) (us := [_, _, _, _, _, _, _, _, _, _]) S M 0 rfl (by kernel_rfl) rfl rfl rfl rfl rfl rfl (by first | decide | (simp; done) | (simp; omega)) ?_; clear M; intro w2 M
  simp only [putL, List.set_cons_zero, List.set_cons_succ, Nat.reduceAdd] at M
  refine nxA ?_
  refine st_go [1, 1] S rfl (by kernel_rfl) ?_; clear S a; intro a S
  refine st_y S rfl rfl rfl (y_loadAgg (cs := [_, _, _]) S (by kernel_rfl) rfl rfl (M.cellsAt (k := 3) 0 rfl rfl)) ?_; clear S a; intro a S
  refine st_run [5, 1] S M rfl (by kernel_rfl) ?_; clear S a; intro a S
  replace M := M.perm perm5
  refine st_call (xs := [(Operand.tmp 13), (Operand.tmp 15), (Operand.tmp 17), (Operand.const (Value.bool false))]) S (enters_of Try.func45 (by decide) rfl) rfl rfl rfl (decides_any (H := .blk bP (q.1.cells (.slice da q.2.length dc)) 59 :: H) ⟨la, _, lc, llo, lhi, lcs, ma, mc, mlo, mhi, mcs, ka, kc, klo, khi, kcs, ea, ec, elo, ehi, ecs, rfl, M, hD, hM, hK, hEn⟩ q.1.name q.1.shards false hml) ?_
  rintro _ w3 ⟨rfl, W1⟩; refine ⟨_, rfl, ?_⟩; clear S a M hD hM hK hEn; intro a S
  obtain ⟨la, ln, lc, llo, lhi, lcs, ma, mc, mlo, mhi, mcs, ka, kc, klo, khi, kcs, ea, ec, elo, ehi, ecs, hln, M, hD, hM, hK, hEn⟩ := W1
  replace S := S.sub [(0, _), (1, _), (4, _)] rfl
  refine nxC ?_
  refine wp_seq ?_
  refine wp_regionK [10, 14] #[false, false, false, false, false, false, false, false, false, false, false, false, false, false, false] rfl M (by kernel_rfl) ?_; clear M; intro w4 M
  refine k_pure (listed' := #[true, false, false, false, false, false, false, false, false, false, false, false, false, false, false]) 0 S rfl rfl rfl rfl (by kernel_rfl) rfl (fun _ d _ _ _ h => by cases d <;> exact h) (fun w => y_move S rfl) ?_; clear S a; intro a S
  refine k_pure (listed' := #[true, true, false, false, false, false, false, false, false, false, false, false, false, false, false]) 1 S rfl rfl rfl rfl (by kernel_rfl) rfl (fun _ d _ _ _ h => by cases d <;> exact h) (fun w => y_move S rfl) ?_; clear S a; intro a S
  refine k_pure (listed' := #[true, true, true, false, false, false, false, false, false, false, false, false, false, false, false]) 2 S rfl rfl rfl rfl (by kernel_rfl) rfl (fun _ d _ _ _ h => by cases d <;> exact h) (fun w => y_nilCheck S rfl) ?_; clear S a; intro a S
  refine k_pure (listed' := #[true, true, true, true, false, false, false, false, false, false, false, false, false, false, false]) 3 S rfl rfl rfl rfl (by kernel_rfl) rfl (fun _ d _ _ _ h => by cases d <;> exact h) (fun w => y_fieldAddr (k := 1) S (by kernel_rfl) rfl) ?_; clear S a; intro a S
  refine k_pure (listed' := #[true, true, true, true, true, false, false, false, false, false, false, false, false, false, false]) 4 S rfl rfl rfl rfl (by kernel_rfl) rfl (fun _ d _ _ _ h => by cases d <;> exact h) (fun w => y_fieldAddr (k := 2) S (by kernel_rfl) rfl) ?_; clear S a; intro a S
  refine k_read (listed' := #[true, true, true, true, true, true, false, false, false, false, false, false, false, false, false]) 5 S rfl rfl rfl rfl (by kernel_rfl) rfl (fun _ d _ _ _ h => by cases d <;> exact h) (fun w hW => have M := M.grow hW; y_load S (by kernel_rfl) rfl (M.cell 0 rfl rfl)) ?_; clear S a; intro a S
  refine k_pure (listed' := #[true, true, true, true, true, true, true, false, false, false, false, false, false, false, false]) 6 S rfl rfl rfl rfl (by kernel_rfl) rfl (fun _ d _ _ _ h => by cases d <;> exact h) (fun w => y_fieldAddr (k := 0) S (by kernel_rfl) rfl) ?_; clear S a; intro a S
  refine k_read (listed' := #[true, true, true, true, true, true, true, true, false, false, false, false, false, false, false]) 7 S rfl rfl rfl rfl (by kernel_rfl) rfl (fun _ d _ _ _ h => by cases d <;> exact h) (fun w hW => have M := M.grow hW; y_loadAgg (cs := [_, _, _]) S (by kernel_rfl) rfl rfl (M.cellsAt (k := 3) 5 rfl rfl)) ?_; clear S a; intro a S
  refine k_pure (listed' := #[true, true, true, true, true, true, true, true, true, false, false, false, false, false, false]) 8 S rfl rfl rfl rfl (by kernel_rfl) rfl (fun _ d _ _ _ h => by cases d <;> exact h) (fun w => y_build (ps := [(0, (Operand.tmp 26))]) (pl := [(0, 3), (3, 1)]) (z := [.int .i64 0, .int .i64 0, .int .i64 0, .bool false]) (cs := [_, _, _, _]) S (by kernel_rfl) rfl (rfl)) ?_; clear S a; intro a S
  refine k_one (listed' := #[true, true, true, true, true, true, true, true, true, true, false, false, false, false, false]) 9 rfl (by kernel_rfl) rfl ?_
  refine st_lit (ps := [(0, (Operand.tmp 27))]) (e := 66) (sz := 4) (zl := [.int .i64 0, .int .i64 0, .int .i64 0, .bool false]) (cs := [_, _, _, _]) S M rfl rfl (by kernel_rfl) rfl (rfl) ?_; clear S M a; intro a w5 bZ S M hB
  refine wpList_nil ?_; refine then_normal ?_; refine ⟨fun _ => hB, ?_⟩
  refine k_one (listed' := #[true, true, true, true, true, true, true, true, true, true, true, false, false, false, false]) 10 rfl (by kernel_rfl) rfl ?_
  refine st_append (e := 66) (sz := 4) (by_ := 32) (zc := [.int .i64 0, .int .i64 0, .int .i64 0, .bool false]) S M 5 rfl rfl (by kernel_rfl) rfl (by decide) rfl rfl rfl (show Rd _ _ _ 4 _ 1 [.int .i64 q.1.name.stamp, .int .i64 q.1.name.inc, .int .i64 q.1.name.try_, .bool false] from M.sliceAt 0 rfl (M.cellsAt (k := 4) 0 rfl rfl) rfl (Nat.le_refl _) (by unfold maxLen; omega)) (rfl) (by omega) (by unfold maxLen; omega) ?_; clear S M a; intro a w6 vA loA hiA S M
  refine wpList_nil ?_; refine then_normal ?_; refine ⟨fun h => absurd h (by decide), ?_⟩
  refine k_pure (listed' := #[true, true, true, true, true, true, true, true, true, true, true, true, false, false, false]) 11 S rfl rfl rfl rfl (by kernel_rfl) rfl (fun _ d _ _ _ h => by cases d <;> exact h) (fun w => y_nilCheck S rfl) ?_; clear S a; intro a S
  refine k_pure (listed' := #[true, true, true, true, true, true, true, true, true, true, true, true, true, false, false]) 12 S rfl rfl rfl rfl (by kernel_rfl) rfl (fun _ d _ _ _ h => by cases d <;> exact h) (fun w => y_fieldAddr (k := 1) S (by kernel_rfl) rfl) ?_; clear S a; intro a S
  refine k_pure (listed' := #[true, true, true, true, true, true, true, true, true, true, true, true, true, true, false]) 13 S rfl rfl rfl rfl (by kernel_rfl) rfl (fun _ d _ _ _ h => by cases d <;> exact h) (fun w => y_fieldAddr (k := 2) S (by kernel_rfl) rfl) ?_; clear S a; intro a S
  refine k_one (listed' := #[true, true, true, true, true, true, true, true, true, true, true, true, true, true, true]) 14 rfl (by kernel_rfl) rfl ?_
  obtain ⟨aA, cA, rfl, -, -⟩ := (M.readAll 0 rfl (by unfold maxLen; omega)).form
  refine st_store (sz := 1) (us := [_]) S M 2 rfl (by kernel_rfl) rfl rfl rfl rfl rfl rfl (by first | decide | (simp; done) | (simp; omega)) ?_; clear M; intro w7 M
  simp only [putL, List.set_cons_zero, List.set_cons_succ, Nat.reduceAdd] at M
  refine wpList_nil ?_; refine then_normal ?_; refine ⟨fun h => absurd h (by decide), ?_⟩
  refine k_end (by kernel_rfl) ?_
  replace S := S.sub [(0, _), (1, _), (4, _)] rfl
  refine then_normal ?_
  replace M := M.drop 1
  simp only [List.eraseIdx_cons_succ, List.eraseIdx_cons_zero] at M
  replace M := M.front 4 rfl
  simp only [List.eraseIdx_cons_succ, List.eraseIdx_cons_zero] at M
  replace M := M.front 4 rfl
  simp only [List.eraseIdx_cons_succ, List.eraseIdx_cons_zero] at M
  replace M := M.front 4 rfl
  simp only [List.eraseIdx_cons_succ, List.eraseIdx_cons_zero] at M
  replace M := M.front 4 rfl
  simp only [List.eraseIdx_cons_succ, List.eraseIdx_cons_zero] at M
  have hE' := hEn.more (q := (q.1.name, false)) (lv := .slice none 0 0) (.inl ⟨rfl, rfl⟩)
  have hll := hln
  have W2 : MacE wc w7 (.blk bP (q.1.cells (.slice da q.2.length dc)) 59 :: H) b ds (ml ++ (bitsK q.1.shards 4).map (decM q.1.name false)) kl (el ++ [(q.1.name, false)]) es := by
    refine ⟨la, ln, lc, llo, lhi, lcs, ma, mc, mlo, mhi, mcs, ka, kc, klo, khi, kcs, aA, cA, loA, hiA, _, hln, ?_, hD, hM, hK, hE'⟩
    rw [List.length_append (bs := [(q.1.name, false)])]; exact M
  refine wp_region_lit ?_
  refine st_go [1, 1] S rfl (by kernel_rfl) ?_; clear S a; intro a S
  refine st_call (xs := [(Operand.tmp 33), (Operand.tmp 34)]) S (enters_of Try.func58 (by decide) rfl) rfl rfl rfl (leave_any W2 k hkl hl) ?_
  rintro _ w8 ⟨rfl, W3⟩; refine ⟨_, rfl, ?_⟩; clear S a; intro a S
  refine wpList_nil ?_
  refine end_noneN S rfl ?_
  exact ⟨rfl, W3.less (.cons _ (List.Sublist.refl _))⟩
end

end Go.Proofs.Ytidpeojkkfmgeaa
