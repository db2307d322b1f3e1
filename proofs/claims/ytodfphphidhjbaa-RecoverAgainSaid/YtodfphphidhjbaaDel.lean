/-
  slices.Delete of one of those in doubt.
-/
import Derived.Test.YtodfphphidhjbaaRv
import Derived.Test.YtodfphphidhjbaaGX
namespace Go.Proofs.Ytodfphphidhjbaa
open Go.RowKit Go.Sort

theorem subA_at {g i c sz : Nat} (h : i < c) : subA (some ⟨g, 0, none⟩) i c sz = some ⟨g, i * sz, none⟩ := by
  unfold subA; rw [if_neg (by omega)]; simp [Addr.add]; exact fun h => h.symm
theorem len6 {cs more : List Value} {m c k : Nat} (hl : cs.length = m * 6) (hc : (cs ++ more).length = c * 6) (hk : k < m) :
    ((cs ++ more).take (k * 6) ++ cs.drop ((k + 1) * 6) ++ (cs ++ more).drop (k * 6 + (cs.drop ((k + 1) * 6)).length)) = (cs.take (k * 6) ++ cs.drop ((k + 1) * 6)) ++ (cs ++ more).drop ((m - 1) * 6) := by
  rw [List.take_append_of_le_length (by omega)]
  congr 2
  rw [List.length_drop, hl]; omega
set_option maxHeartbeats 1000000 in
theorem delete_any {wc w : World} {H : List Ent} {g m c k : Nat} {cs more : List Value} (M : Mem wc w (.blk g (cs ++ more).toArray 52 :: H)) (hl : cs.length = m * 6) (h1 : allOne (cs.drop ((k + 1) * 6)) = true) (hcs : (cs ++ more).length = c * 6) (hmc : m ≤ c) (hc : c ≤ maxLen) (hk : k < m) :
    Calls Try.prog 18 #[.slice (some ⟨g, 0, none⟩) m c, .int .i64 (k : Int), .int .i64 ((k : Int) + 1)] w fun e w' => e = .returned (.slice (some ⟨g, 0, none⟩) (m - 1) c) ∧
      ∃ more', ((cs.take (k * 6) ++ cs.drop ((k + 1) * 6)) ++ more').length = c * 6 ∧ Mem wc w' (.blk g ((cs.take (k * 6) ++ cs.drop ((k + 1) * 6)) ++ more').toArray 52 :: H) := by
  refine calls_enter Try.func18 rfl 33 rfl rfl ?_; intro a S
  refine wp_seq ?_
  skip
  refine wp_region_lit ?_
  refine st_go [1] S rfl (by kernel_rfl) ?_; clear S a; intro a S
  refine nxA ?_
  refine st_go [1, 1, 1, 1] S rfl (by kernel_rfl) ?_; clear S a; intro a S
  refine st_y S rfl rfl rfl (y_lenS (E := 52) S rfl (by kernel_rfl)) ?_; clear S a; intro a S
  refine st_y S rfl rfl rfl (y_slice3 (e := 52) (sz := 6) S (by kernel_rfl) rfl rfl rfl rfl (by first | omega | (simp; done) | (simp; omega))) ?_; clear S a; intro a S
  refine nxC ?_
  refine wp_seq ?_
  refine nxD ?_
  refine st_go [1, 1, 1] S rfl (by kernel_rfl) ?_; clear S a; intro a S
  refine nxC ?_
  refine st_if (t := 16) S rfl ?_ ?_
  · clear S; intro h16 S
    exfalso; omega
  clear S; intro h16 S
  refine st_condF S rfl ?_
  refine wp_skip ?_
  refine nxE ?_
  refine st_go [1] S rfl (by kernel_rfl) ?_; clear S a; intro a S
  refine st_y S rfl rfl rfl (y_lenS (E := 52) S rfl (by kernel_rfl)) ?_; clear S a; intro a S
  refine st_go [1] S rfl (by kernel_rfl) ?_; clear S a; intro a S
  refine nxC ?_
  refine wp_seq ?_
  refine wp_regionK [6] #[false, false, false, false, false, false, false, false] rfl M (by kernel_rfl) ?_; clear M; intro w1 M
  refine k_pure (listed' := #[true, false, false, false, false, false, false, false]) 0 S rfl rfl rfl rfl (by kernel_rfl) rfl (fun _ d _ _ _ h => by cases d <;> exact h) (fun w => y_move S rfl) ?_; clear S a; intro a S
  refine k_pure (listed' := #[true, true, false, false, false, false, false, false]) 1 S rfl rfl rfl rfl (by kernel_rfl) rfl (fun _ d _ _ _ h => by cases d <;> exact h) (fun w => y_move S rfl) ?_; clear S a; intro a S
  refine k_pure (listed' := #[true, true, true, false, false, false, false, false]) 2 S rfl rfl rfl rfl (by kernel_rfl) rfl (fun _ d _ _ _ h => by cases d <;> exact h) (fun w => y_slice02 (e := 52) (sz := 6) S (by kernel_rfl) rfl rfl (by first | omega | (simp; done) | (simp; omega))) ?_; clear S a; intro a S
  refine k_pure (listed' := #[true, true, true, true, false, false, false, false]) 3 S rfl rfl rfl rfl (by kernel_rfl) rfl (fun _ d _ _ _ h => by cases d <;> exact h) (fun w => y_move S rfl) ?_; clear S a; intro a S
  refine k_pure (listed' := #[true, true, true, true, true, false, false, false]) 4 S rfl rfl rfl rfl (by kernel_rfl) rfl (fun _ d _ _ _ h => by cases d <;> exact h) (fun w => y_move S rfl) ?_; clear S a; intro a S
  refine k_pure (listed' := #[true, true, true, true, true, true, false, false]) 5 S rfl rfl rfl rfl (by kernel_rfl) rfl (fun _ d _ _ _ h => by cases d <;> exact h) (fun w => y_slice1 (e := 52) (sz := 6) S (by kernel_rfl) rfl rfl (by first | omega | (simp; done) | (simp; omega))) ?_; clear S a; intro a S
  refine k_one (listed' := #[true, true, true, true, true, true, true, false]) 6 rfl (by kernel_rfl) rfl ?_
  simp only [Int.toNat_natCast, show ((k : Int) + 1).toNat = k + 1 by omega] at S
  have hR : Rd g (g + 1) w1 6 (.slice (some ⟨g, 0, none⟩) m c) m cs := Rd.of_blk (M.blk 0 rfl) hl hmc hc (by rw [List.toList_toArray, ← hl]; exact List.take_left)
  have hcell : CellsAt w1 g ((k + 1) * 6) (cs.drop ((k + 1) * 6)) := fun j hj => by
    rw [List.length_drop] at hj
    have := hR.at_ ((k + 1) * 6 + j) (by omega)
    simp only [adr, Nat.zero_add] at this
    rw [this, List.getElem?_drop]
  obtain ⟨o2, ho2, hcell2⟩ : ∃ o2, subA (some ⟨g, 0, none⟩) (k + 1) c 6 = some ⟨g, o2, none⟩ ∧ CellsAt w1 g o2 (cs.drop ((k + 1) * 6)) := by
    rcases Nat.lt_or_ge (k + 1) c with h | h
    · exact ⟨_, subA_at h, hcell⟩
    · refine ⟨0, by unfold subA; rw [if_pos (by omega)], ?_⟩
      rw [List.drop_of_length_le (by omega)]; intro j hj; simp at hj
  rw [ho2] at S
  refine st_appendIn (e := 52) (sz := 6) (zc := [.int .i64 0, .int .i64 0, .int .i64 0, .slice none 0 0, .int .i64 0, .int .i64 0]) (by_ := 64) (news := cs.drop ((k + 1) * 6)) S M 0 rfl rfl (by kernel_rfl) rfl rfl rfl hcell2 (by rw [List.length_drop]; omega) h1 (by omega) hcs ?_; clear S M a; intro a wA S M
  rw [len6 hl hcs hk, show k + (m - (k + 1)) = m - 1 by omega] at *
  simp only [List.set_cons_zero] at M
  refine wpList_nil ?_; refine then_normal ?_; refine ⟨fun h => absurd h (by decide), ?_⟩
  refine k_pure (listed' := #[true, true, true, true, true, true, true, true]) 7 S rfl rfl rfl rfl (by kernel_rfl) rfl (fun _ d _ _ _ h => by cases d <;> exact h) (fun w => y_assign S rfl) ?_; clear S a; intro a S
  refine k_end (by kernel_rfl) ?_
  replace S := S.sub [(1, _), (2, _), (6, _), (16, _), (7, _), (0, _)] rfl
  refine then_normal ?_
  refine wp_seq ?_
  have hXl : ((cs.take (k * 6) ++ cs.drop ((k + 1) * 6)) ++ (cs ++ more).drop ((m - 1) * 6)).length = c * 6 := by
    rw [List.length_append] at hcs
    simp only [List.length_append, List.length_take, List.length_drop]; omega
  refine wp_region_lit ?_
  refine st_go [1, 1] S rfl (by kernel_rfl) ?_; clear S a; intro a S
  refine st_y S rfl rfl rfl (y_lenS (E := 52) S rfl (by kernel_rfl)) ?_; clear S a; intro a S
  refine st_go [1] S rfl (by kernel_rfl) ?_; clear S a; intro a S
  refine st_y S rfl rfl rfl (y_slice2 (e := 52) (sz := 6) S (by kernel_rfl) rfl rfl rfl (by first | omega | (simp; done) | (simp; omega))) ?_; clear S a; intro a S
  simp only [Int.toNat_natCast] at S
  rw [subA_at (by omega), show m - (m - 1) = 1 by omega] at S
  refine st_clear1N (e := 52) (sz := 6) (zc := [.int .i64 0, .int .i64 0, .int .i64 0, .slice none 0 0, .int .i64 0, .int .i64 0]) (by_ := 64) S M 0 rfl (by kernel_rfl) rfl rfl rfl (by rw [hXl]; show _ + 6 ≤ _; omega) ?_; clear M; intro wB M
  simp only [List.set_cons_zero] at M
  refine nxA ?_
  refine st_go [1, 1] S rfl (by kernel_rfl) ?_; clear S a; intro a S
  refine nxC ?_
  refine wp_ret ?_
  refine end_one S rfl (res_tmp rfl) ?_
  refine ⟨rfl, (putL ((cs.take (k * 6) ++ cs.drop ((k + 1) * 6)) ++ (cs ++ more).drop ((m - 1) * 6)) ((m - 1) * 6) [.int .i64 0, .int .i64 0, .int .i64 0, .slice none 0 0, .int .i64 0, .int .i64 0]).drop ((m - 1) * 6), ?_, ?_⟩
  · rw [List.length_append, List.length_drop, putL_length, hXl]
    simp only [List.length_append, List.length_take, List.length_drop]; omega
  · have hXm : (cs.take (k * 6) ++ cs.drop ((k + 1) * 6)).length = (m - 1) * 6 := by simp only [List.length_append, List.length_take, List.length_drop]; omega
    have e := putL_ahead (us := [.int .i64 0, .int .i64 0, .int .i64 0, .slice none 0 0, .int .i64 0, .int .i64 0]) (l := (cs.take (k * 6) ++ cs.drop ((k + 1) * 6)) ++ (cs ++ more).drop ((m - 1) * 6)) (o := (m - 1) * 6) (i := 0) (k := (m - 1) * 6) (by rw [hXl]; show _ + 6 ≤ _; omega) (by omega)
    rw [List.drop_zero, List.drop_zero] at e
    have e2 : (cs.take (k * 6) ++ cs.drop ((k + 1) * 6) ++ (cs ++ more).drop ((m - 1) * 6)).take ((m - 1) * 6) = cs.take (k * 6) ++ cs.drop ((k + 1) * 6) := by rw [← hXm, List.take_left]
    have e3 := e.trans e2
    generalize putL (cs.take (k * 6) ++ cs.drop ((k + 1) * 6) ++ (cs ++ more).drop ((m - 1) * 6)) ((m - 1) * 6) [.int .i64 0, .int .i64 0, .int .i64 0, .slice none 0 0, .int .i64 0, .int .i64 0] = Z at *
    have e4 : cs.take (k * 6) ++ cs.drop ((k + 1) * 6) ++ Z.drop ((m - 1) * 6) = Z := (congrArg (· ++ Z.drop ((m - 1) * 6)) e3.symm).trans (List.take_append_drop _ _)
    rw [e4]; exact M

end Go.Proofs.Ytodfphphidhjbaa
