/-
  Package journal: Scan, Flush, Wants; a nil disk.
-/
import Derived.Test.YtafejnbfgkkjkaaJf
namespace Go.Proofs.Ytafejnbfgkkjkaa
open Go.RowKit Go.Sort

def ScanR (wc : World) (A E : List Ent) (tail : Int) (s : Sc) (e : Ending) (w' : World) : Prop := ∃ (rs : List RB) (ra : Option Addr) (rc lo hi : Nat), e = .returned (.tuple #[.slice ra rs.length rc, .agg #[.int .i64 tail, .int .i64 s.next], .int .i64 0]) ∧ rs.map RB.bs = s.l.map (·.2) ∧ (∀ r ∈ rs, r.bs.length ≤ 90) ∧ rs.length ≤ 24 ∧ Mem wc w' (rowE lo hi 32 1 (.slice ra rs.length rc) rs.length (rs.map RB.val) :: (rs.map RB.ent ++ (A ++ E)))
set_option maxHeartbeats 2000000 in
theorem Scan_anyG {wc w : World} {A E : List Ent} {b : Nat} {S0 : DS} (tail : Int) (hE : DkE b S0 E) (M : Mem wc w (A ++ E)) (hup : S0.down = false) (hw : ∀ k, (S0.cache k).length ≤ 1000000) (ht : 1 ≤ tail ∧ tail ≤ 1099511627776) :
    Calls Try.prog 10 #[.pointer (some ⟨b, 0, none⟩), .int .i64 tail] w (ScanR wc A E tail (scanG S0 tail)) := by
  refine calls_enter Try.func10 rfl 38 rfl rfl ?_; intro a S
  refine nxD ?_
  refine st_go [1] S rfl (by kernel_rfl) ?_; clear S a; intro a S
  refine st_alloc S M rfl rfl #[.int .i64 0, .int .i64 0] (by kernel_rfl) ?_; clear S M a; intro a w1 bL S M hB
  refine st_go [1] S rfl (by kernel_rfl) ?_; clear S a; intro a S
  refine nxA ?_
  refine st_go [1, 1] S rfl (by kernel_rfl) ?_; clear S a; intro a S
  refine st_call (xs := [(Operand.tmp 11), (Operand.tmp 12)]) S (enters_of Try.func23 (by decide) rfl) rfl rfl rfl (scan_anyG (A := _ :: A) tail hE M hup hw ht) ?_
  rintro _ w2 ⟨sq, ic, ba, bn, bc, ls, la, lc, lo, hi, rfl, hsl, hsh, hl24, M2⟩; refine ⟨_, rfl, ?_⟩; clear S M a; intro a S; have M := M2; clear M2
  replace M := M.perm (List.Perm.cons _ (List.perm_middle (l₁ := ls.map fun p => p.2.ent)))
  obtain ⟨rs, hrs⟩ : ∃ rs : List RB, rs = ls.map (·.2) := ⟨_, rfl⟩
  have hrl : rs.length = ls.length := by rw [hrs, List.length_map]
  have hre : ls.map (fun p => p.2.ent) = rs.map RB.ent := by rw [hrs, List.map_map]; rfl
  have hrb : rs.map RB.bs = (scanG S0 tail).l.map (·.2) := by rw [hrs, hsl, List.map_map, List.map_map]; rfl
  have hr90 : ∀ r ∈ rs, r.bs.length ≤ 90 := fun r hr => by rw [hrs] at hr; obtain ⟨p, hp, rfl⟩ := List.mem_map.1 hr; exact hsh p hp
  rw [hre] at M
  refine st_go [1, 1, 1] S rfl (by kernel_rfl) ?_; clear S a; intro a S
  refine st_alloc S M rfl rfl #[.int .i64 0, .int .i64 0, .slice none 0 0, .slice none 0 0, .int .i64 0] (by kernel_rfl) ?_; clear S M a; intro a w3 bSt S M hB
  refine st_store (sz := 5) (us := [_, _, _, _, _]) S M 0 rfl (by kernel_rfl) rfl rfl rfl rfl rfl rfl (by first | decide | (simp; done) | (simp; omega)) ?_; clear M; intro w4 M
  simp only [putL, List.set_cons_zero, List.set_cons_succ, Nat.reduceAdd] at M
  refine st_go [1] S rfl (by kernel_rfl) ?_; clear S a; intro a S
  refine nxC ?_
  refine wp_seq ?_
  refine nxD ?_
  refine st_go [1, 1] S rfl (by kernel_rfl) ?_; clear S a; intro a S
  refine nxC ?_
  refine st_if (t := 17) S rfl ?_ ?_
  · clear S; intro h17 S
    exact absurd rfl h17
  clear S; intro h17 S
  refine st_condF S rfl ?_
  refine wp_skip ?_
  refine then_normal ?_
  refine wp_seq ?_
  refine nxD ?_
  refine st_run [4, 1] S M rfl (by kernel_rfl) ?_; clear S a; intro a S
  refine st_y S rfl rfl rfl (y_lenR (E := 67) S rfl (M.readAll 1 rfl (by unfold maxLen; omega)) (by kernel_rfl)) ?_; clear S a; intro a S
  refine st_go [1] S rfl (by kernel_rfl) ?_; clear S a; intro a S
  refine nxC ?_
  refine wp_block ?_
  refine wp_loop_g (fun m a w' => ∃ (i : Nat) (ra : Option Addr) (rc lo2 hi2 : Nat), i ≤ ls.length ∧ m = ls.length - i ∧ Sees 38 a [(1, .int .i64 tail), (4, .slice ra i rc), (5, .pointer (some ⟨bL, 0, none⟩)), (7, .pointer (some ⟨bSt, 0, none⟩)), (21, .slice la ls.length lc), (22, .int .i64 (ls.length : Int)), (23, .int .i64 (i : Int))] ∧ Mem wc w' (rowE lo2 hi2 32 1 (.slice ra i rc) i ((rs.take i).map RB.val) :: .blk bSt #[.int .i64 sq, .int .i64 ic, .slice ba bn bc, .slice la ls.length lc, .int .i64 (scanG S0 tail).next] 63 :: rowE lo hi 67 2 (.slice la ls.length lc) ls.length (fdC ls) :: .blk bL #[.int .i64 0, .int .i64 0] 27 :: (rs.map RB.ent ++ (A ++ E)))) (ls.length) ?_ ?_
  · skip
    exact ⟨0, none, 0, _, _, Nat.zero_le _, rfl, S.sub _ rfl, M.rowNil 32 1⟩
  clear S M a; intro m a wl
  rintro ⟨i, ra, rc, lo2, hi2, hi', rfl, S, M⟩
  refine nxD ?_
  refine st_go [1] S rfl (by kernel_rfl) ?_; clear S a; intro a S
  refine nxC ?_
  refine wp_seq ?_
  refine st_if (t := 24) S rfl ?_ ?_
  · clear S; intro h24 S
    refine st_condT S rfl ?_
    refine wp_skip ?_
    refine then_normal ?_
    refine wp_seq ?_
    refine wp_block ?_
    refine wp_seq ?_
    obtain ⟨q, hq⟩ : ∃ q, ls[i]? = some q := ⟨_, List.getElem?_eq_getElem (by omega)⟩
    have hrq : rs[i]? = some q.2 := by rw [hrs, List.getElem?_map, hq]; rfl
    refine wp_region_lit ?_
    refine st_y S rfl rfl rfl (y_indexR (e := 67) (sz := 2) S (by kernel_rfl) rfl (M.readAll 2 rfl (by unfold maxLen; omega)) rfl (by first | omega | (simp; done) | (simp; omega))) ?_; clear S a; intro a S
    try simp only [Int.toNat_natCast, Nat.mul_one, Nat.zero_add] at S
    refine st_y S rfl rfl rfl (y_loadAgg S (by kernel_rfl) rfl rfl ((M.readAll 2 rfl (by unfold maxLen; omega)).at_.row (i := i) (fdC_get hq) rfl)) ?_; clear S a; intro a S
    refine st_alloc S M rfl rfl #[.int .i64 0, .slice none 0 0] (by kernel_rfl) ?_; clear S M a; intro a w5 bF S M hB
    refine st_store (sz := 2) (us := [_, _]) S M 0 rfl (by kernel_rfl) rfl rfl rfl rfl rfl rfl (by first | decide | (simp; done) | (simp; omega)) ?_; clear M; intro w6 M
    simp only [putL, List.set_cons_zero, List.set_cons_succ, Nat.reduceAdd] at M
    refine nxB ?_
    refine st_run [1, 2, 1] S M rfl (by kernel_rfl) ?_; clear S a; intro a S
    refine st_lit (ps := [(0, (Operand.tmp 29))]) (e := 32) (sz := 1) (zl := [.slice none 0 0]) (cs := [_]) S M rfl rfl (by kernel_rfl) rfl (rfl) ?_; clear S M a; intro a w7 bZ S M hB
    refine st_append (e := 32) (sz := 1) (by_ := 24) (zc := [.slice none 0 0]) S M 2 rfl rfl (by kernel_rfl) rfl (by decide) rfl rfl rfl (show Rd _ _ _ 1 _ 1 [q.2.val] from M.sliceAt 0 rfl (M.cellsAt (k := 1) 0 rfl rfl) rfl (Nat.le_refl _) (by unfold maxLen; omega)) (rfl) (by omega) (by unfold maxLen; omega) ?_; clear S M a; intro a w8 vA loA hiA S M
    obtain ⟨aA, cA, rfl, -, -⟩ := (M.readAll 0 rfl (by unfold maxLen; omega)).form
    refine st_y S rfl rfl rfl (y_assign S rfl) ?_; clear S a; intro a S
    refine wpList_nil ?_
    refine block_normal ?_
    refine nxF ?_
    (first | refine st_y S rfl rfl rfl (y_addN S rfl rfl (by omega)) ?_ | refine st_y S rfl rfl rfl (y_int S rfl rfl rfl) ?_); clear S a; intro a S
    refine st_go [1] S rfl (by kernel_rfl) ?_; clear S a; intro a S
    refine nxC ?_
    skip
    replace M := M.drop 1
    simp only [List.eraseIdx_cons_succ, List.eraseIdx_cons_zero] at M
    replace M := M.drop 1
    simp only [List.eraseIdx_cons_succ, List.eraseIdx_cons_zero] at M
    refine ⟨ls.length - (i + 1), by omega, i + 1, aA, cA, loA, hiA, by omega, rfl, S.sub _ rfl, ?_⟩
    obtain ⟨h9, e9⟩ := List.getElem?_eq_some_iff.1 hrq
    rw [List.take_succ_eq_append_getElem h9, e9, List.map_append]
    exact M
  clear S; intro h24 S
  refine st_condF S rfl ?_
  refine wp_exit ?_
  refine then_exit ?_
  refine then_exit ?_
  refine block_hit ?_
  refine then_normal ?_
  refine wp_seq ?_
  refine wp_regionK [6] #[false, false, false, false, false, false, false, false] rfl M (by kernel_rfl) ?_; clear M; intro w9 M
  refine k_pure (listed' := #[true, false, false, false, false, false, false, false]) 0 S rfl rfl rfl rfl (by kernel_rfl) rfl (fun _ d _ _ _ h => by cases d <;> exact h) (fun w => y_move S rfl) ?_; clear S a; intro a S
  refine k_pure (listed' := #[true, true, false, false, false, false, false, false]) 1 S rfl rfl rfl rfl (by kernel_rfl) rfl (fun _ d _ _ _ h => by cases d <;> exact h) (fun w => y_move S rfl) ?_; clear S a; intro a S
  refine k_pure (listed' := #[true, true, true, false, false, false, false, false]) 2 S rfl rfl rfl rfl (by kernel_rfl) rfl (fun _ d _ _ _ h => by cases d <;> exact h) (fun w => y_fieldAddr (k := 4) S (by kernel_rfl) rfl) ?_; clear S a; intro a S
  refine k_read (listed' := #[true, true, true, true, false, false, false, false]) 3 S rfl rfl rfl rfl (by kernel_rfl) rfl (fun _ d _ _ _ h => by cases d <;> exact h) (fun w hW => have M := M.grow hW; y_load S (by kernel_rfl) rfl (M.cell 1 rfl rfl)) ?_; clear S a; intro a S
  refine k_pure (listed' := #[true, true, true, true, true, false, false, false]) 4 S rfl rfl rfl rfl (by kernel_rfl) rfl (fun _ d _ _ _ h => by cases d <;> exact h) (fun w => y_build (ps := [(0, (Operand.tmp 34)), (1, (Operand.tmp 36))]) (pl := [(0, 1), (1, 1)]) (z := [.int .i64 0, .int .i64 0]) (cs := [_, _]) S (by kernel_rfl) rfl (rfl)) ?_; clear S a; intro a S
  refine k_pure (listed' := #[true, true, true, true, true, true, false, false]) 5 S rfl rfl rfl rfl (by kernel_rfl) rfl (fun _ d _ _ _ h => by cases d <;> exact h) (fun w => y_assign S rfl) ?_; clear S a; intro a S
  refine k_one (listed' := #[true, true, true, true, true, true, true, false]) 6 rfl (by kernel_rfl) rfl ?_
  refine st_store (sz := 2) (us := [_, _]) S M 3 rfl (by kernel_rfl) rfl rfl rfl rfl rfl rfl (by first | decide | (simp; done) | (simp; omega)) ?_; clear M; intro w10 M
  simp only [putL, List.set_cons_zero, List.set_cons_succ, Nat.reduceAdd] at M
  refine wpList_nil ?_; refine then_normal ?_; refine ⟨fun h => absurd h (by decide), ?_⟩
  refine k_pure (listed' := #[true, true, true, true, true, true, true, true]) 7 S rfl rfl rfl rfl (by kernel_rfl) rfl (fun _ d _ _ _ h => by cases d <;> exact h) (fun w => y_assign S rfl) ?_; clear S a; intro a S
  refine k_end (by kernel_rfl) ?_
  refine then_normal ?_
  refine wp_ret ?_
  refine end_three S rfl (res_tmp rfl) (res_agg (cs := [_, _]) (by kernel_rfl) rfl rfl (M.cellsAt (k := 2) 3 rfl rfl)) (res_tmp rfl) ?_
  obtain rfl : i = ls.length := by omega
  rw [← hrl, List.take_length] at M
  rw [← hrl]
  replace M := M.drop 1
  simp only [List.eraseIdx_cons_succ, List.eraseIdx_cons_zero] at M
  replace M := M.drop 1
  simp only [List.eraseIdx_cons_succ, List.eraseIdx_cons_zero] at M
  replace M := M.drop 1
  simp only [List.eraseIdx_cons_succ, List.eraseIdx_cons_zero] at M
  exact ⟨rs, ra, rc, _, _, rfl, hrb, hr90, by omega, M⟩
theorem Scan_any {wc w : World} {A E : List Ent} {b : Nat} {S0 : DS} (tail : Int) (hE : DkE b S0 E) (M : Mem wc w (A ++ E)) (hup : S0.down = false) (hw : ∀ k, (S0.cache k).length ≤ 1000000) (ht : 1 ≤ tail ∧ tail ≤ 4294967296) :
    Calls Try.prog 10 #[.pointer (some ⟨b, 0, none⟩), .int .i64 tail] w (ScanR wc A E tail (scanOf S0 tail)) := by
  have h := Scan_anyG tail hE M hup hw (by omega)
  rwa [scanG_eq S0 ht.2] at h

end Go.Proofs.Ytafejnbfgkkjkaa
