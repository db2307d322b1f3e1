/-
  Package coord: leave, prepares, find.
-/
import Derived.Test.YtidpeojkkfmgeaaCc
namespace Go.Proofs.Ytidpeojkkfmgeaa
open Go.RowKit Go.Sort

theorem subA_at {g i c sz : Nat} (h : i < c) : subA (some ⟨g, 0, none⟩) i c sz = some ⟨g, i * sz, none⟩ := by
  unfold subA; rw [if_neg (by omega)]; simp [Addr.add]; exact fun h => h.symm
theorem len10 {cs more : List Value} {m c k : Nat} (hl : cs.length = m * 10) (hc : (cs ++ more).length = c * 10) (hk : k < m) :
    ((cs ++ more).take (k * 10) ++ cs.drop ((k + 1) * 10) ++ (cs ++ more).drop (k * 10 + (cs.drop ((k + 1) * 10)).length)) = (cs.take (k * 10) ++ cs.drop ((k + 1) * 10)) ++ (cs ++ more).drop ((m - 1) * 10) := by
  rw [List.take_append_of_le_length (by omega)]
  congr 2
  rw [List.length_drop, hl]; omega
set_option maxHeartbeats 1000000 in
theorem deleteD_any {wc w : World} {H : List Ent} {g m c k : Nat} {cs more : List Value} (M : Mem wc w (.blk g (cs ++ more).toArray 59 :: H)) (hl : cs.length = m * 10) (h1 : allOne (cs.drop ((k + 1) * 10)) = true) (hcs : (cs ++ more).length = c * 10) (hmc : m ≤ c) (hc : c ≤ maxLen) (hk : k < m) :
    Calls Try.prog 69 #[.slice (some ⟨g, 0, none⟩) m c, .int .i64 (k : Int), .int .i64 ((k : Int) + 1)] w fun e w' => e = .returned (.slice (some ⟨g, 0, none⟩) (m - 1) c) ∧
      ∃ more', ((cs.take (k * 10) ++ cs.drop ((k + 1) * 10)) ++ more').length = c * 10 ∧ Mem wc w' (.blk g ((cs.take (k * 10) ++ cs.drop ((k + 1) * 10)) ++ more').toArray 59 :: H) := by
  refine calls_enter Try.func69 rfl 33 rfl rfl ?_; intro a S
  refine wp_seq ?_
  skip
  refine wp_region_lit ?_
  refine st_go [1] S rfl (by kernel_rfl) ?_; clear S a; intro a S
  refine nxA ?_
  refine st_go [1, 1, 1, 1] S rfl (by kernel_rfl) ?_; clear S a; intro a S
  refine st_y S rfl rfl rfl (y_lenS (E := 59) S rfl (by kernel_rfl)) ?_; clear S a; intro a S
  refine st_y S rfl rfl rfl (y_slice3 (e := 59) (sz := 10) S (by kernel_rfl) rfl rfl rfl rfl (by first | omega | (simp; done) | (simp; omega))) ?_; clear S a; intro a S
  refine nxC ?_
  refine wp_seq ?_
  refine nxD ?_
  refine st_go [1, 1, 1] S rfl (by kernel_rfl) ?_; clear S a; intro a S
  refine nxC ?_
  refine st_if (t := 16) S rfl ?_ ?_
  · clear S; intro h16 S
    exfalso; omega
  clear S; intro h16 S
  refine st_condF S rfl ?_
  refine wp_skip ?_
  refine nxE ?_
  refine st_go [1] S rfl (by kernel_rfl) ?_; clear S a; intro a S
  refine st_y S rfl rfl rfl (y_lenS (E := 59) S rfl (by kernel_rfl)) ?_; clear S a; intro a S
  refine st_go [1] S rfl (by kernel_rfl) ?_; clear S a; intro a S
  refine nxC ?_
  refine wp_seq ?_
  refine wp_regionK [6] #[false, false, false, false, false, false, false, false] rfl M (by kernel_rfl) ?_; clear M; intro w1 M
  refine k_pure (listed' := #[true, false, false, false, false, false, false, false]) 0 S rfl rfl rfl rfl (by kernel_rfl) rfl (fun _ d _ _ _ h => by cases d <;> exact h) (fun w => y_move S rfl) ?_; clear S a; intro a S
  refine k_pure (listed' := #[true, true, false, false, false, false, false, false]) 1 S rfl rfl rfl rfl (by kernel_rfl) rfl (fun _ d _ _ _ h => by cases d <;> exact h) (fun w => y_move S rfl) ?_; clear S a; intro a S
  refine k_pure (listed' := #[true, true, true, false, false, false, false, false]) 2 S rfl rfl rfl rfl (by kernel_rfl) rfl (fun _ d _ _ _ h => by cases d <;> exact h) (fun w => y_slice02 (e := 59) (sz := 10) S (by kernel_rfl) rfl rfl (by first | omega | (simp; done) | (simp; omega))) ?_; clear S a; intro a S
  refine k_pure (listed' := #[true, true, true, true, false, false, false, false]) 3 S rfl rfl rfl rfl (by kernel_rfl) rfl (fun _ d _ _ _ h => by cases d <;> exact h) (fun w => y_move S rfl) ?_; clear S a; intro a S
  refine k_pure (listed' := #[true, true, true, true, true, false, false, false]) 4 S rfl rfl rfl rfl (by kernel_rfl) rfl (fun _ d _ _ _ h => by cases d <;> exact h) (fun w => y_move S rfl) ?_; clear S a; intro a S
  refine k_pure (listed' := #[true, true, true, true, true, true, false, false]) 5 S rfl rfl rfl rfl (by kernel_rfl) rfl (fun _ d _ _ _ h => by cases d <;> exact h) (fun w => y_slice1 (e := 59) (sz := 10) S (by kernel_rfl) rfl rfl (by first | omega | (simp; done) | (simp; omega))) ?_; clear S a; intro a S
  refine k_one (listed' := #[true, true, true, true, true, true, true, false]) 6 rfl (by kernel_rfl) rfl ?_
  simp only [Int.toNat_natCast, show ((k : Int) + 1).toNat = k + 1 by omega] at S
  have hR : Rd g (g + 1) w1 10 (.slice (some ⟨g, 0, none⟩) m c) m cs := Rd.of_blk (M.blk 0 rfl) hl hmc hc (by rw [List.toList_toArray, ← hl]; exact List.take_left)
  have hcell : CellsAt w1 g ((k + 1) * 10) (cs.drop ((k + 1) * 10)) := fun j hj => by
    rw [List.length_drop] at hj
    have := hR.at_ ((k + 1) * 10 + j) (by omega)
    simp only [adr, Nat.zero_add] at this
    rw [this, List.getElem?_drop]
  obtain ⟨o2, ho2, hcell2⟩ : ∃ o2, subA (some ⟨g, 0, none⟩) (k + 1) c 10 = some ⟨g, o2, none⟩ ∧ CellsAt w1 g o2 (cs.drop ((k + 1) * 10)) := by
    rcases Nat.lt_or_ge (k + 1) c with h | h
    · exact ⟨_, subA_at h, hcell⟩
    · refine ⟨0, by unfold subA; rw [if_pos (by omega)], ?_⟩
      rw [List.drop_of_length_le (by omega)]; intro j hj; simp at hj
  rw [ho2] at S
  refine st_appendIn (e := 59) (sz := 10) (zc := [.int .i64 0, .int .i64 0, .int .i64 0, .int .i8 0, .int .i64 0, .int .i64 0, .int .i64 0, .int .i64 0, .int .i64 0, .slice none 0 0]) (by_ := 96) (news := cs.drop ((k + 1) * 10)) S M 0 rfl rfl (by kernel_rfl) rfl rfl rfl hcell2 (by rw [List.length_drop]; omega) h1 (by omega) hcs ?_; clear S M a; intro a wA S M
  rw [len10 hl hcs hk, show k + (m - (k + 1)) = m - 1 by omega] at *
  simp only [List.set_cons_zero] at M
  refine wpList_nil ?_; refine then_normal ?_; refine ⟨fun h => absurd h (by decide), ?_⟩
  refine k_pure (listed' := #[true, true, true, true, true, true, true, true]) 7 S rfl rfl rfl rfl (by kernel_rfl) rfl (fun _ d _ _ _ h => by cases d <;> exact h) (fun w => y_assign S rfl) ?_; clear S a; intro a S
  refine k_end (by kernel_rfl) ?_
  replace S := S.sub [(1, _), (2, _), (6, _), (16, _), (7, _), (0, _)] rfl
  refine then_normal ?_
  refine wp_seq ?_
  have hXl : ((cs.take (k * 10) ++ cs.drop ((k + 1) * 10)) ++ (cs ++ more).drop ((m - 1) * 10)).length = c * 10 := by
    rw [List.length_append] at hcs
    simp only [List.length_append, List.length_take, List.length_drop]; omega
  refine wp_region_lit ?_
  refine st_go [1, 1] S rfl (by kernel_rfl) ?_; clear S a; intro a S
  refine st_y S rfl rfl rfl (y_lenS (E := 59) S rfl (by kernel_rfl)) ?_; clear S a; intro a S
  refine st_go [1] S rfl (by kernel_rfl) ?_; clear S a; intro a S
  refine st_y S rfl rfl rfl (y_slice2 (e := 59) (sz := 10) S (by kernel_rfl) rfl rfl rfl (by first | omega | (simp; done) | (simp; omega))) ?_; clear S a; intro a S
  simp only [Int.toNat_natCast] at S
  rw [subA_at (by omega), show m - (m - 1) = 1 by omega] at S
  refine st_clear1N (e := 59) (sz := 10) (zc := [.int .i64 0, .int .i64 0, .int .i64 0, .int .i8 0, .int .i64 0, .int .i64 0, .int .i64 0, .int .i64 0, .int .i64 0, .slice none 0 0]) (by_ := 96) S M 0 rfl (by kernel_rfl) rfl rfl rfl (by rw [hXl]; show _ + 10 ≤ _; omega) ?_; clear M; intro wB M
  simp only [List.set_cons_zero] at M
  refine nxA ?_
  refine st_go [1, 1] S rfl (by kernel_rfl) ?_; clear S a; intro a S
  refine nxC ?_
  refine wp_ret ?_
  refine end_one S rfl (res_tmp rfl) ?_
  refine ⟨rfl, (putL ((cs.take (k * 10) ++ cs.drop ((k + 1) * 10)) ++ (cs ++ more).drop ((m - 1) * 10)) ((m - 1) * 10) [.int .i64 0, .int .i64 0, .int .i64 0, .int .i8 0, .int .i64 0, .int .i64 0, .int .i64 0, .int .i64 0, .int .i64 0, .slice none 0 0]).drop ((m - 1) * 10), ?_, ?_⟩
  · rw [List.length_append, List.length_drop, putL_length, hXl]
    simp only [List.length_append, List.length_take, List.length_drop]; omega
  · have hXm : (cs.take (k * 10) ++ cs.drop ((k + 1) * 10)).length = (m - 1) * 10 := by simp only [List.length_append, List.length_take, List.length_drop]; omega
    have e := putL_ahead (us := [.int .i64 0, .int .i64 0, .int .i64 0, .int .i8 0, .int .i64 0, .int .i64 0, .int .i64 0, .int .i64 0, .int .i64 0, .slice none 0 0]) (l := (cs.take (k * 10) ++ cs.drop ((k + 1) * 10)) ++ (cs ++ more).drop ((m - 1) * 10)) (o := (m - 1) * 10) (i := 0) (k := (m - 1) * 10) (by rw [hXl]; show _ + 10 ≤ _; omega) (by omega)
    rw [List.drop_zero, List.drop_zero] at e
    have e2 : (cs.take (k * 10) ++ cs.drop ((k + 1) * 10) ++ (cs ++ more).drop ((m - 1) * 10)).take ((m - 1) * 10) = cs.take (k * 10) ++ cs.drop ((k + 1) * 10) := by rw [← hXm, List.take_left]
    have e3 := e.trans e2
    generalize putL (cs.take (k * 10) ++ cs.drop ((k + 1) * 10) ++ (cs ++ more).drop ((m - 1) * 10)) ((m - 1) * 10) [.int .i64 0, .int .i64 0, .int .i64 0, .int .i8 0, .int .i64 0, .int .i64 0, .int .i64 0, .int .i64 0, .int .i64 0, .slice none 0 0] = Z at *
    have e4 : cs.take (k * 10) ++ cs.drop ((k + 1) * 10) ++ Z.drop ((m - 1) * 10) = Z := (congrArg (· ++ Z.drop ((m - 1) * 10)) e3.symm).trans (List.take_append_drop _ _)
    rw [e4]; exact M

section
variable {wc w : World} {H : List Ent} {b : Nat} {ds : Dl} {ml : Mls} {kl : Kl} {el : El} {es : List Ent}
set_option maxHeartbeats 400000 in
theorem leave_any (W : MacE wc w H b ds ml kl el es) (k : Nat) (hk : k < ds.length) (hl : ds.length ≤ 1000) :
    Calls Try.prog 58 #[.pointer (some ⟨b, 0, none⟩), .int .i64 (k : Int)] w (fun e w' => e = .returned (.tuple #[]) ∧ MacE wc w' H b (ds.eraseIdx k) ml kl el es) := by
  obtain ⟨la, ln, lc, llo, lhi, lcs, ma, mc, mlo, mhi, mcs, ka, kc, klo, khi, kcs, ea, ec, elo, ehi, ecs, rfl, M, hD, hM, hK, hEn⟩ := W
  have hcl : lcs.length = ds.length * 10 := hD.1
  refine calls_enter Try.func58 rfl 17 rfl rfl ?_; intro a S
  skip
  replace M := M.front 1 rfl
  simp only [List.eraseIdx_cons_succ, List.eraseIdx_cons_zero] at M
  obtain ⟨g, cap, more, hvE, hc1, hc2, hc3, M1⟩ := M.ofRow (by omega)
  simp only [Value.slice.injEq] at hvE
  obtain ⟨rfl, -, rfl⟩ := hvE
  clear M
  have M := M1
  clear M1
  refine wp_region_lit ?_
  refine st_run [1, 1, 1, 1, 1, 2, 1, 1] S M rfl (by kernel_rfl) ?_; clear S a; intro a S
  (first | refine st_y S rfl rfl rfl (y_addN S rfl rfl (by omega)) ?_ | refine st_y S rfl rfl rfl (y_int S rfl rfl rfl) ?_); clear S a; intro a S
  refine st_call (xs := [(Operand.tmp 9), (Operand.tmp 10), (Operand.tmp 12)]) S (enters_of Try.func69 (by decide) rfl) rfl rfl rfl (deleteD_any M hcl (allOne_cut hD.2.1 _).2 hc3 hc1 hc2 hk) ?_
  rintro _ w1 ⟨rfl, more2, hm2, M1⟩; refine ⟨_, rfl, ?_⟩; clear S a; intro a S; replace M := M1; clear M1
  refine st_go [1, 1, 1] S rfl (by kernel_rfl) ?_; clear S a; intro a S
  refine st_store (sz := 1) (us := [_]) S M 1 rfl (by kernel_rfl) rfl rfl rfl rfl rfl rfl (by first | decide | (simp; done) | (simp; omega)) ?_; clear M; intro w2 M
  simp only [putL, List.set_cons_zero, List.set_cons_succ, Nat.reduceAdd] at M
  refine wpList_nil ?_
  refine end_noneN S rfl ?_
  have hD' := hD.del hk
  have hle : (ds.eraseIdx k).length = ds.length - 1 := by rw [List.length_eraseIdx, if_pos hk]
  have hl2 : (lcs.take (k * 10) ++ lcs.drop ((k + 1) * 10)).length = (ds.length - 1) * 10 := by
    have : (lcs.take (k * 10) ++ lcs.drop ((k + 1) * 10)).length = (ds.eraseIdx k).length * 10 := hD'.1
    rw [this, hle]
  replace M := M.toRow (sz := 10) (m := ds.length - 1) (cap := lc) (xs := lcs.take (k * 10) ++ lcs.drop ((k + 1) * 10)) 0 rfl hl2 (by omega) hc2 (by rw [List.size_toArray, hm2]) (by rw [List.toList_toArray, ← hl2]; exact List.take_left)
  exact ⟨rfl, some ⟨g, 0, none⟩, ds.length - 1, lc, g, g + 1, _, ma, mc, mlo, mhi, mcs, ka, kc, klo, khi, kcs, ea, ec, elo, ehi, ecs, hle.symm, by rw [hle]; exact M.front 1 rfl, hD', hM, hK, hEn⟩
theorem shl_bd {c : Int} (h : 0 ≤ c ∧ c < 8) : -9223372036854775808 ≤ 1 * (2 : Int) ^ c.toNat ∧ 1 * (2 : Int) ^ c.toNat ≤ 9223372036854775807 := by
  have : c = 0 ∨ c = 1 ∨ c = 2 ∨ c = 3 ∨ c = 4 ∨ c = 5 ∨ c = 6 ∨ c = 7 := by omega
  rcases this with rfl | rfl | rfl | rfl | rfl | rfl | rfl | rfl <;> decide
def prepB (d : Dr) (k : Nat) : Msg := ⟨4, 0, k, 0, 0, d.name, 0, 0, 0, ⟨0, 0, 0, 0, 0, 0, 0, 0⟩, 0, false, 0, 0⟩
def prepM (d : Dr) (x : List Wr) (k : Nat) : Msg × List Wr :=
  if d.cs < 0 then (prepB d k, []) else if (k : Int) = d.ct then ({ prepB d k with take := 1 * 2 ^ d.cs.toNat }, x) else ({ prepB d k with give := 1 * 2 ^ d.cs.toNat }, [])
theorem MacF.beside {la : Option Addr} {ln lc llo lhi : Nat} {lcs : List Value} {a : Ent} {H2 : List Ent} (ma mc mlo mhi mcs ka kc klo khi kcs ea ec elo ehi ecs) (hln : ln = ds.length)
    (M : Mem wc w (.blk b #[.slice la ln lc, .slice ma ml.length mc, .slice ka kl.length kc, .slice ea el.length ec] 71 ::
      rowE llo lhi 59 10 (.slice la ln lc) ds.length lcs :: rowE mlo mhi 36 24 (.slice ma ml.length mc) ml.length mcs ::
      rowE klo khi 97 12 (.slice ka kl.length kc) kl.length kcs :: rowE elo ehi 66 4 (.slice ea el.length ec) el.length ecs :: a :: (H2 ++ es)))
    (hD : BkG drS lcs ds es) (hM : BkG msS mcs ml es) (hK : BkG rcS kcs kl es) (hEn : BkG edS ecs el es) : MacF la ln lc llo lhi lcs wc w H2 b ds ml kl el (a :: es) :=
  ⟨ma, mc, mlo, mhi, mcs, ka, kc, klo, khi, kcs, ea, ec, elo, ehi, ecs, hln, M.perm (((((List.perm_middle.symm.cons _).cons _).cons _).cons _).cons _),
    hD.mono fun _ h => List.mem_cons_of_mem _ h, hM.mono fun _ h => List.mem_cons_of_mem _ h, hK.mono fun _ h => List.mem_cons_of_mem _ h, hEn.mono fun _ h => List.mem_cons_of_mem _ h⟩
set_option maxHeartbeats 1000000 in
theorem prepares1F_any {la : Option Addr} {ln lc llo lhi : Nat} {lcs : List Value} {bn bx : Nat} (d : Dr) (dl : Value) (x : List Wr) (k : Nat) (hml : ml.length ≤ 100000) (hw : WrAt dl x es) (hc : d.cs < 8)
    (W : MacF la ln lc llo lhi lcs wc w (.blk bn #[.func (.func 62) #[.pointer (some ⟨b, 0, none⟩)] #[]] 69 :: .blk bx (d.cells dl) 59 :: H) b ds ml kl el es) :
    Calls Try.prog 64 #[.int .i64 (k : Int), .pointer (some ⟨bx, 0, none⟩), .pointer (some ⟨bn, 0, none⟩)] w (fun e w' => e = .returned (.tuple #[]) ∧ ∃ es', (∀ e ∈ es, e ∈ es') ∧ MacF la ln lc llo lhi lcs wc w' (.blk bn #[.func (.func 62) #[.pointer (some ⟨b, 0, none⟩)] #[]] 69 :: .blk bx (d.cells dl) 59 :: H) b ds (ml ++ [prepM d x k]) kl el es') := by
  obtain ⟨da, dc, rfl, hxl⟩ := hw.form
  obtain ⟨ma, mc, mlo, mhi, mcs, ka, kc, klo, khi, kcs, ea, ec, elo, ehi, ecs, hln, M, hD, hM, hK0, hEn⟩ := W
  refine calls_enter Try.func64 rfl 37 rfl rfl ?_; intro a S
  refine wp_seq ?_
  skip
  refine wp_region_lit ?_
  refine st_go [1, 1] S rfl (by kernel_rfl) ?_; clear S a; intro a S
  refine st_y S rfl rfl rfl (y_loadAgg (cs := [_, _, _]) S (by kernel_rfl) rfl rfl (M.cellsAt (k := 3) 6 rfl rfl)) ?_; clear S a; intro a S
  refine st_y S rfl rfl rfl (y_build (ps := [(0, (Operand.const (Value.int IntKind.i8 4))), (2, (Operand.tmp 5)), (5, (Operand.tmp 7))]) (pl := [(0, 1), (1, 1), (2, 1), (3, 1), (4, 1), (5, 3), (8, 1), (9, 1), (10, 1), (11, 8), (19, 1), (20, 1), (21, 1), (22, 1), (23, 1)]) (z := [.int .i8 0, .int .i64 0, .int .i64 0, .int .i64 0, .int .i64 0, .int .i64 0, .int .i64 0, .int .i64 0, .int .i64 0, .int .i8 0, .int .i64 0, .int .u8 0, .int .u8 0, .int .u8 0, .int .u8 0, .int .u8 0, .int .u8 0, .int .u8 0, .int .u8 0, .int .i64 0, .bool false, .int .i64 0, .int .i64 0, .slice none 0 0]) (cs := [_, _, _, _, _, _, _, _, _, _, _, _, _, _, _, _, _, _, _, _, _, _, _, _]) S (by kernel_rfl) rfl (rfl)) ?_; clear S a; intro a S
  refine st_alloc S M rfl rfl #[.int .i8 0, .int .i64 0, .int .i64 0, .int .i64 0, .int .i64 0, .int .i64 0, .int .i64 0, .int .i64 0, .int .i64 0, .int .i8 0, .int .i64 0, .int .u8 0, .int .u8 0, .int .u8 0, .int .u8 0, .int .u8 0, .int .u8 0, .int .u8 0, .int .u8 0, .int .i64 0, .bool false, .int .i64 0, .int .i64 0, .slice none 0 0] (by kernel_rfl) ?_; clear S M a; intro a w1 bP S M hB
  refine st_store (sz := 24) (us := [_, _, _, _, _, _, _, _, _, _, _, _, _, _, _, _, _, _, _, _, _, _, _, _]) S M 0 rfl (by kernel_rfl) rfl rfl rfl rfl rfl rfl (by first | decide | (simp; done) | (simp; omega)) ?_; clear M; intro w2 M
  simp only [putL, List.set_cons_zero, List.set_cons_succ, Nat.reduceAdd] at M
  refine nxC ?_
  refine wp_cut (fun a w' => ∃ bP lv es2, Sees 37 a [(2, .pointer (some ⟨bn, 0, none⟩)), (4, .pointer (some ⟨bP, 0, none⟩))] ∧ (∀ e ∈ es, e ∈ es2) ∧ WrAt lv (prepM d x k).2 es2 ∧ MacF la ln lc llo lhi lcs wc w' (.blk bP ((prepM d x k).1.cells lv) 36 :: .blk bn #[.func (.func 62) #[.pointer (some ⟨b, 0, none⟩)] #[]] 69 :: .blk bx (d.cells (.slice da x.length dc)) 59 :: H) b ds ml kl el es2) ?_ ?_
  · skip
    refine wp_block ?_
    refine nxD ?_
    refine st_run [8, 1, 8, 1, 1] S M rfl (by kernel_rfl) ?_; clear S a; intro a S
    refine nxC ?_
    refine st_if (t := 14) S rfl ?_ ?_
    · clear S; intro h14 S
      refine st_condT S rfl ?_
      refine wp_skip ?_
      refine block_normal ?_
      refine then_normal ?_
      first
        | (have e : prepM d x k = (prepB d k, []) := by unfold prepM; rw [if_pos (by omega)]
           rw [e]
           replace M := M.perm perm5
           exact ⟨bP, _, es, S.sub _ rfl, fun _ h => h, .inl ⟨rfl, rfl⟩, ma, mc, mlo, mhi, mcs, ka, kc, klo, khi, kcs, ea, ec, elo, ehi, ecs, hln, M, hD, hM, hK0, hEn⟩)
        | (have e : prepM d x k = ({ prepB d k with give := 1 * 2 ^ d.cs.toNat }, []) := by unfold prepM; rw [if_neg (by omega), if_neg (by omega)]
           rw [e]
           replace M := M.perm perm5
           exact ⟨bP, _, es, S.sub _ rfl, fun _ h => h, .inl ⟨rfl, rfl⟩, ma, mc, mlo, mhi, mcs, ka, kc, klo, khi, kcs, ea, ec, elo, ehi, ecs, hln, M, hD, hM, hK0, hEn⟩)
        | (have e : prepM d x k = ({ prepB d k with take := 1 * 2 ^ d.cs.toNat }, x) := by unfold prepM; rw [if_neg (by omega), if_pos (by omega)]
           rw [e]
           replace M := (M.perm perm15)
           refine ⟨bP, .slice a2 x.length c2, rowE lo2 hi2 80 9 (.slice a2 x.length c2) x.length (wcells x) :: es, S.sub _ rfl, fun _ h => List.mem_cons_of_mem _ h, .inr ⟨a2, c2, lo2, hi2, rfl, List.mem_cons_self .., hxl⟩, ?_⟩
           exact MacF.beside ma mc mlo mhi mcs ka kc klo khi kcs ea ec elo ehi ecs hln M hD hM hK0 hEn)
    clear S; intro h14 S
    refine st_condF S rfl ?_
    refine nxD ?_
    refine st_run [1, 8, 2, 8, 1, 1] S M rfl (by kernel_rfl) ?_; clear S a; intro a S
    refine nxC ?_
    refine st_fi (t := 19) S rfl ?_ ?_
    · clear S; intro h19 S
      refine st_condF S rfl ?_
      refine wp_region_lit ?_
      refine st_run [8, 1, 8] S M rfl (by kernel_rfl) ?_; clear S a; intro a S
      (first | refine st_y S rfl rfl rfl (y_shlN S rfl rfl (by omega) (by exact shl_bd (by omega))) ?_ | refine st_y S rfl rfl rfl (y_shl S rfl rfl (by omega)) ?_); clear S a; intro a S
      refine st_go [22] S rfl (by kernel_rfl) ?_; clear S a; intro a S
      refine st_store (sz := 1) (us := [_]) S M 0 rfl (by kernel_rfl) rfl rfl rfl rfl rfl rfl (by first | decide | (simp; done) | (simp; omega)) ?_; clear M; intro w7 M
      simp only [putL, List.set_cons_zero, List.set_cons_succ, Nat.reduceAdd] at M
      replace S := S.sub [(0, _), (1, _), (2, _), (4, _), (14, _), (19, _)] rfl
      refine wpList_nil ?_
      refine block_normal ?_
      refine then_normal ?_
      first
        | (have e : prepM d x k = (prepB d k, []) := by unfold prepM; rw [if_pos (by omega)]
           rw [e]
           replace M := M.perm perm5
           exact ⟨bP, _, es, S.sub _ rfl, fun _ h => h, .inl ⟨rfl, rfl⟩, ma, mc, mlo, mhi, mcs, ka, kc, klo, khi, kcs, ea, ec, elo, ehi, ecs, hln, M, hD, hM, hK0, hEn⟩)
        | (have e : prepM d x k = ({ prepB d k with give := 1 * 2 ^ d.cs.toNat }, []) := by unfold prepM; rw [if_neg (by omega), if_neg (by omega)]
           rw [e]
           replace M := M.perm perm5
           exact ⟨bP, _, es, S.sub _ rfl, fun _ h => h, .inl ⟨rfl, rfl⟩, ma, mc, mlo, mhi, mcs, ka, kc, klo, khi, kcs, ea, ec, elo, ehi, ecs, hln, M, hD, hM, hK0, hEn⟩)
        | (have e : prepM d x k = ({ prepB d k with take := 1 * 2 ^ d.cs.toNat }, x) := by unfold prepM; rw [if_neg (by omega), if_pos (by omega)]
           rw [e]
           replace M := (M.perm perm15)
           refine ⟨bP, .slice a2 x.length c2, rowE lo2 hi2 80 9 (.slice a2 x.length c2) x.length (wcells x) :: es, S.sub _ rfl, fun _ h => List.mem_cons_of_mem _ h, .inr ⟨a2, c2, lo2, hi2, rfl, List.mem_cons_self .., hxl⟩, ?_⟩
           exact MacF.beside ma mc mlo mhi mcs ka kc klo khi kcs ea ec elo ehi ecs hln M hD hM hK0 hEn)
    clear S; intro h19 S
    refine st_condT S rfl ?_
    refine wp_regionK [8, 10] #[false, false, false, false, false, false, false, false, false, false, false] rfl M (by kernel_rfl) ?_; clear M; intro w3 M
    refine k_pure (listed' := #[true, false, false, false, false, false, false, false, false, false, false]) 0 S rfl rfl rfl rfl (by kernel_rfl) rfl (fun _ d _ _ _ h => by cases d <;> exact h) (fun w => y_fieldAddr (k := 7) S (by kernel_rfl) rfl) ?_; clear S a; intro a S
    refine k_pure (listed' := #[true, true, false, false, false, false, false, false, false, false, false]) 1 S rfl rfl rfl rfl (by kernel_rfl) rfl (fun _ d _ _ _ h => by cases d <;> exact h) (fun w => y_fieldAddr (k := 0) S (by kernel_rfl) rfl) ?_; clear S a; intro a S
    refine k_read (listed' := #[true, true, true, false, false, false, false, false, false, false, false]) 2 S rfl rfl rfl rfl (by kernel_rfl) rfl (fun _ d _ _ _ h => by cases d <;> exact h) (fun w hW => have M := M.grow hW; y_load S (by kernel_rfl) rfl (M.cell 7 rfl rfl)) ?_; clear S a; intro a S
    (first | refine k_pure (listed' := #[true, true, true, true, false, false, false, false, false, false, false]) 3 S rfl rfl rfl rfl (by kernel_rfl) rfl (fun _ d _ _ _ h => by cases d <;> exact h) (fun w => y_shlN S rfl rfl (by omega) (by exact shl_bd (by omega))) ?_ | refine k_pure (listed' := #[true, true, true, true, false, false, false, false, false, false, false]) 3 S rfl rfl rfl rfl (by kernel_rfl) rfl (fun _ d _ _ _ h => by cases d <;> exact h) (fun w => y_shl S rfl rfl (by omega)) ?_); clear S a; intro a S
    refine k_pure (listed' := #[true, true, true, true, true, false, false, false, false, false, false]) 4 S rfl rfl rfl rfl (by kernel_rfl) rfl (fun _ d _ _ _ h => by cases d <;> exact h) (fun w => y_fieldAddr (k := 9) S (by kernel_rfl) rfl) ?_; clear S a; intro a S
    refine k_read (listed' := #[true, true, true, true, true, true, false, false, false, false, false]) 5 S rfl rfl rfl rfl (by kernel_rfl) rfl (fun _ d _ _ _ h => by cases d <;> exact h) (fun w hW => have M := M.grow hW; y_load S (by kernel_rfl) rfl (M.cell 7 rfl rfl)) ?_; clear S a; intro a S
    refine k_pure (listed' := #[true, true, true, true, true, true, false, true, false, false, false]) 7 S rfl rfl rfl rfl (by kernel_rfl) rfl (fun _ d _ _ _ h => by cases d <;> exact h) (fun w => y_fieldAddr (k := 22) S (by kernel_rfl) rfl) ?_; clear S a; intro a S
    refine k_one (listed' := #[true, true, true, true, true, true, true, true, false, false, false]) 6 rfl (by kernel_rfl) rfl ?_
    refine st_call (xs := [(Operand.tmp 30)]) S (enters_of Try.func40 (by decide) rfl) rfl rfl rfl (cloneW_any _ x _ (((hw.ws M (fun e he => by simp [he]))).wide (Nat.zero_le _) (Nat.le_refl _)) hxl) ?_
    rintro _ w4 ⟨v2, rfl, hF⟩; refine ⟨_, rfl, ?_⟩; clear S a; intro a S; have hK2 := hF.below; have hK := hK2
    obtain ⟨a2, c2, rfl, -, -⟩ := (hF.rd0 (by unfold maxLen; omega)).form
    obtain ⟨lo2, hi2, -, M⟩ := M.pushFresh hF
    refine wpList_nil ?_; refine then_normal ?_; refine ⟨fun _ => hK, ?_⟩
    refine k_one (listed' := #[true, true, true, true, true, true, true, true, true, false, false]) 8 rfl (by kernel_rfl) rfl ?_
    refine st_store (sz := 1) (us := [_]) S M 1 rfl (by kernel_rfl) rfl rfl rfl rfl rfl rfl (by first | decide | (simp; done) | (simp; omega)) ?_; clear M; intro w5 M
    simp only [putL, List.set_cons_zero, List.set_cons_succ, Nat.reduceAdd] at M
    refine wpList_nil ?_; refine then_normal ?_; refine ⟨fun h => absurd h (by decide), ?_⟩
    refine k_pure (listed' := #[true, true, true, true, true, true, true, true, true, true, false]) 9 S rfl rfl rfl rfl (by kernel_rfl) rfl (fun _ d _ _ _ h => by cases d <;> exact h) (fun w => y_fieldAddr (k := 23) S (by kernel_rfl) rfl) ?_; clear S a; intro a S
    refine k_one (listed' := #[true, true, true, true, true, true, true, true, true, true, true]) 10 rfl (by kernel_rfl) rfl ?_
    refine st_store (sz := 1) (us := [_]) S M 1 rfl (by kernel_rfl) rfl rfl rfl rfl rfl rfl (by first | decide | (simp; done) | (simp; omega)) ?_; clear M; intro w6 M
    simp only [putL, List.set_cons_zero, List.set_cons_succ, Nat.reduceAdd] at M
    refine wpList_nil ?_; refine then_normal ?_; refine ⟨fun h => absurd h (by decide), ?_⟩
    refine k_end (by kernel_rfl) ?_
    replace S := S.sub [(0, _), (1, _), (2, _), (4, _), (14, _), (19, _)] rfl
    refine block_normal ?_
    refine then_normal ?_
    first
      | (have e : prepM d x k = (prepB d k, []) := by unfold prepM; rw [if_pos (by omega)]
         rw [e]
         replace M := M.perm perm5
         exact ⟨bP, _, es, S.sub _ rfl, fun _ h => h, .inl ⟨rfl, rfl⟩, ma, mc, mlo, mhi, mcs, ka, kc, klo, khi, kcs, ea, ec, elo, ehi, ecs, hln, M, hD, hM, hK0, hEn⟩)
      | (have e : prepM d x k = ({ prepB d k with give := 1 * 2 ^ d.cs.toNat }, []) := by unfold prepM; rw [if_neg (by omega), if_neg (by omega)]
         rw [e]
         replace M := M.perm perm5
         exact ⟨bP, _, es, S.sub _ rfl, fun _ h => h, .inl ⟨rfl, rfl⟩, ma, mc, mlo, mhi, mcs, ka, kc, klo, khi, kcs, ea, ec, elo, ehi, ecs, hln, M, hD, hM, hK0, hEn⟩)
      | (have e : prepM d x k = ({ prepB d k with take := 1 * 2 ^ d.cs.toNat }, x) := by unfold prepM; rw [if_neg (by omega), if_pos (by omega)]
         rw [e]
         replace M := (M.perm perm15)
         refine ⟨bP, .slice a2 x.length c2, rowE lo2 hi2 80 9 (.slice a2 x.length c2) x.length (wcells x) :: es, S.sub _ rfl, fun _ h => List.mem_cons_of_mem _ h, .inr ⟨a2, c2, lo2, hi2, rfl, List.mem_cons_self .., hxl⟩, ?_⟩
         exact MacF.beside ma mc mlo mhi mcs ka kc klo khi kcs ea ec elo ehi ecs hln M hD hM hK0 hEn)
  clear S a M; intro a wc
  rintro ⟨bP, lv, es2, S, hes, hw2, W2⟩
  have W3 := W2
  obtain ⟨lvA, lvC, rfl, -⟩ := hw2.form
  clear hln hD hM hEn hK0
  obtain ⟨ma, mc, mlo, mhi, mcs, ka, kc, klo, khi, kcs, ea, ec, elo, ehi, ecs, hln, M, hD, hM, hK', hEn⟩ := W2
  refine wp_region_lit ?_
  refine st_run [7] S M rfl (by kernel_rfl) ?_; clear S a; intro a S
  refine st_y S rfl rfl rfl (y_loadAgg (cs := [_, _, _, _, _, _, _, _, _, _, _, _, _, _, _, _, _, _, _, _, _, _, _, _]) S (by kernel_rfl) rfl rfl (M.cellsAt (k := 24) 5 rfl rfl)) ?_; clear S a; intro a S
  refine st_callB (xs := [(Operand.tmp 35)]) (fi := [_]) (ca := []) S (enters_of Try.func62 (by decide) rfl) rfl rfl (rfl) rfl (sayF_any W3 (prepM d x k).1 _ (prepM d x k).2 hw2 hml) ?_
  rintro _ w8 ⟨rfl, W4⟩; refine ⟨_, rfl, ?_⟩; clear S a; intro a S
  refine wpList_nil ?_
  refine end_noneN S rfl ?_
  exact ⟨rfl, es2, hes, W4.less (.cons _ (List.Sublist.refl _))⟩
end
theorem nameOf_any (d : Dr) (lv : Value) (w : World) : Calls Try.prog 39 #[.agg (d.cells lv)] w fun e w' => e = .returned (.agg d.name.cells) ∧ Below w.heap.size w w' := by
  have M := Mem.start w
  refine calls_enter Try.func39 rfl 5 rfl rfl ?_; intro a S
  refine nxD ?_
  refine st_box S M rfl rfl rfl #[_, _, _, _, _, _, _, _, _, _] rfl ?_; clear S M a; intro a w1 b1 S M hB
  refine st_alloc S M rfl rfl #[.int .i64 0, .int .i64 0, .int .i64 0] (by kernel_rfl) ?_; clear S M a; intro a w2 b2 S M hB
  refine nxA ?_
  refine st_go [1] S rfl (by kernel_rfl) ?_; clear S a; intro a S
  refine st_y S rfl rfl rfl (y_loadAgg (cs := [_, _, _]) S (by kernel_rfl) rfl rfl (M.cellsAt (k := 3) 1 rfl rfl)) ?_; clear S a; intro a S
  refine st_store (sz := 3) (us := [_, _, _]) S M 0 rfl (by kernel_rfl) rfl rfl rfl rfl rfl rfl (by first | decide | (simp; done) | (simp; omega)) ?_; clear M; intro w3 M
  simp only [putL, List.set_cons_zero, List.set_cons_succ, Nat.reduceAdd] at M
  refine nxC ?_
  refine wp_ret ?_
  refine end_one S rfl (res_agg (cs := [_, _, _]) (by kernel_rfl) rfl rfl (M.cellsAt (k := 3) 0 rfl rfl)) ?_
  exact ⟨rfl, M.below⟩

end Go.Proofs.Ytidpeojkkfmgeaa
