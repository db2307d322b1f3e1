/-
  What ShardNil rests on, part 8.
-/
import Derived.Test.YtndabhdepjnbcaaGreatP7
namespace Go.Proofs.YtndabhdepjnbcaaGreat
open Go.RowKit Go.Sort
/-- what a disk opens as, where all its records are read -/
def OpenF (wc : World) (A E : List Ent) (S0 : DS) (x : Su) (l0 : Rl) (e : Ending) (w' : World) : Prop :=
  ∃ (s : St) (ps : Pl) (da : Option Addr) (dc lo hi : Nat) (cs : List Value) (es : List Ent), e = .returned (.tuple #[.agg (s.cellsL (.slice da ps.length dc)).toArray, .int .i64 0]) ∧
    Mem wc w' (rowE lo hi 75 6 (.slice da ps.length dc) ps.length cs :: (es ++ (A ++ E))) ∧ PrBk cs ps es ∧ s.ok ∧ ps.length ≤ 24 ∧ foldS (stSu x x.tail (scanG S0 x.tail).next) [] l0 = (s, ps)
set_option maxHeartbeats 4000000 in
set_option maxRecDepth 10000 in
theorem openF_any {wc w : World} {A E : List Ent} {b : Nat} {S0 : DS} (x : Su) (l0 : Rl) (hE : DkE b S0 E) (M : Mem wc w (A ++ E)) (hup : S0.down = false) (hw : ∀ k, (S0.cache k).length ≤ 1000000) (hz : ∀ k, k < 8 → zerosB (S0.get (26 + k)) = true) (hg : gsR (secD S0) = (x, 0)) (hrec : Recs l0 ((scanG S0 x.tail).l.map (·.2))) :
    Calls Tryz.prog 26 #[.pointer (some ⟨b, 0, none⟩)] w (OpenF wc A E S0 x l0) := by
  refine calls_enter Tryz.func26 rfl 92 rfl rfl ?_; intro a S
  refine nxD ?_
  refine st_alloc S M rfl rfl (zSt.cellsL (.slice none 0 0)).toArray (by kernel_rfl) ?_; clear S M a; intro a w1 bZ S M hB
  refine st_go [1] S rfl (by kernel_rfl) ?_; clear S a; intro a S
  refine nxC ?_
  refine wp_seq ?_
  refine nxD ?_
  refine st_go [1] S rfl (by kernel_rfl) ?_; clear S a; intro a S
  refine st_y S rfl rfl rfl (y_eqlPS (by kernel_rfl) S rfl) ?_; clear S a; intro a S
  refine nxC ?_
  refine st_condF S rfl ?_
  refine wp_skip ?_
  refine nxE ?_
  refine st_go [1] S rfl (by kernel_rfl) ?_; clear S a; intro a S
  refine st_call (xs := [(Operand.tmp 20)]) S (enters_of Tryz.func27 (by decide) rfl) rfl rfl rfl (getH_any (A := _ :: A) hE M hup hw) ?_
  rintro _ w2 ⟨rfl, M1⟩; refine ⟨_, rfl, ?_⟩; clear S M a; intro a S; have M := M1; clear M1
  simp only [List.cons_append] at M
  rw [hg] at S
  refine st_go [1, 1, 1] S rfl (by kernel_rfl) ?_; clear S a; intro a S
  refine st_alloc S M rfl rfl #[.int .i64 0, .int .i64 0, .int .i64 0, .int .i64 0, .int .i64 0, .int .i64 0, .int .i64 0, .int .i64 0, .int .i64 0, .int .i64 0, .int .i64 0, .int .i64 0, .int .i64 0] (by kernel_rfl) ?_; clear S M a; intro a w3 bU S M hB
  refine st_store (sz := 13) (us := [_, _, _, _, _, _, _, _, _, _, _, _, _]) S M 0 rfl (by kernel_rfl) rfl rfl rfl rfl rfl rfl (by first | decide | (simp; done) | (simp; omega)) ?_; clear M; intro w4 M
  simp only [putL, List.set_cons_zero, List.set_cons_succ, Nat.reduceAdd] at M
  refine st_go [1] S rfl (by kernel_rfl) ?_; clear S a; intro a S
  refine nxC ?_
  refine wp_seq ?_
  refine nxD ?_
  refine st_go [1, 1] S rfl (by kernel_rfl) ?_; clear S a; intro a S
  refine nxC ?_
  refine st_if (t := 25) S rfl ?_ ?_
  · clear S; intro h25 S
    exact absurd rfl h25
  clear S; intro h25 S
  refine st_condF S rfl ?_
  refine wp_skip ?_
  refine nxE ?_
  refine st_y S rfl rfl rfl (y_loadAgg (cs := [_, _, _, _, _, _, _, _, _, _, _, _, _]) S (by kernel_rfl) rfl rfl (M.cellsAt (k := 13) 0 rfl rfl)) ?_; clear S a; intro a S
  refine st_y S rfl rfl rfl (y_build (ps := [(0, (Operand.tmp 28))]) (pl := [(0, 13), (13, 2), (15, 256), (271, 1), (272, 1)]) (z := zSt.cellsL (.slice none 0 0)) (cs := (stSu x 0 0).cellsL (.slice none 0 0)) S (by kernel_rfl) rfl ((fillL_one (us := x.cellsL) (off := 0) (sz := 13) rfl rfl rfl (by rw [St.len zSt_ok]; exact (by decide : 0 + 13 ≤ 273))).trans (by rw [stSu_fill]))) ?_; clear S a; intro a S
  refine st_alloc S M rfl rfl (zSt.cellsL (.slice none 0 0)).toArray (by kernel_rfl) ?_; clear S M a; intro a w5 bX S M hB
  refine st_storeAll (sz := 273) S M 0 rfl (by kernel_rfl) rfl rfl (by with_reducible first | exact St.len zSt_ok _ | exact St.len (stSu_ok _ _ _) _ | exact St.len hs _ | exact St.len hs2 _) (by with_reducible first | exact St.one zSt_ok _ rfl | exact St.one (stSu_ok _ _ _) _ rfl | exact St.one hs _ rfl | exact St.one hs2 _ rfl) rfl (by with_reducible first | exact St.len zSt_ok _ | exact St.len (stSu_ok _ _ _) _ | exact St.len hs _ | exact St.len hs2 _) ?_; clear M; intro w6 M
  simp only [List.set_cons_zero, List.set_cons_succ] at M
  refine nxC ?_
  refine wp_seq ?_
  refine nxD ?_
  refine st_go [1] S rfl (by kernel_rfl) ?_; clear S a; intro a S
  refine nxC ?_
  refine wp_block ?_
  refine wp_loop_g (fun m a w' => ∃ (k : Nat), k ≤ 8 ∧ m = 8 - k ∧ Sees 92 a [(0, .pointer (some ⟨b, 0, none⟩)), (2, .pointer (some ⟨bZ, 0, none⟩)), (4, .pointer (some ⟨bU, 0, none⟩)), (6, .pointer (some ⟨bX, 0, none⟩)), (30, .int .i64 (k : Int))] ∧ Mem wc w' (.blk bX ((stSu x 0 0).cellsL (.slice none 0 0)).toArray 57 :: .blk bU x.cellsL.toArray 49 :: .blk bZ (zSt.cellsL (.slice none 0 0)).toArray 57 :: (A ++ E))) (8) ?_ ?_
  · skip
    exact ⟨0, by omega, rfl, S.sub _ rfl, M⟩
  clear S M a; intro m a wl
  rintro ⟨k, hk, rfl, S, M⟩
  refine nxD ?_
  refine st_go [1] S rfl (by kernel_rfl) ?_; clear S a; intro a S
  refine nxC ?_
  refine wp_seq ?_
  refine st_if (t := 31) S rfl ?_ ?_
  · clear S; intro h31 S
    refine st_condT S rfl ?_
    refine wp_skip ?_
    refine then_normal ?_
    refine wp_seq ?_
    refine wp_block ?_
    refine nxD ?_
    refine st_go [1, 1] S rfl (by kernel_rfl) ?_; clear S a; intro a S
    refine nxA ?_
    refine st_go [1, 1] S rfl (by kernel_rfl) ?_; clear S a; intro a S
    refine st_call (xs := [(Operand.tmp 34), (Operand.tmp 35)]) S (enters_of Tryz.func38 (by decide) rfl) rfl rfl rfl (getZ_any (A := _ :: _ :: _ :: A) k hE M hup hw (by omega) (hz k (by omega))) ?_
    rintro _ w7 ⟨bN, rfl, M1⟩; refine ⟨_, rfl, ?_⟩; clear S M a; intro a S; have M := M1; clear M1
    simp only [List.cons_append] at M
    refine st_go [1, 1, 1, 1, 1] S rfl (by kernel_rfl) ?_; clear S a; intro a S
    refine nxC ?_
    refine wp_seq ?_
    refine nxD ?_
    refine st_go [1, 1] S rfl (by kernel_rfl) ?_; clear S a; intro a S
    refine nxC ?_
    refine st_if (t := 40) S rfl ?_ ?_
    · clear S; intro h40 S
      exact absurd rfl h40
    clear S; intro h40 S
    refine st_condF S rfl ?_
    refine wp_skip ?_
    refine nxF ?_
    refine st_go [16, 1] S rfl (by kernel_rfl) ?_; clear S a; intro a S
    (first | refine st_y S rfl rfl rfl (y_mulN S rfl rfl (by omega)) ?_ | refine st_y S rfl rfl rfl (y_int S rfl rfl rfl) ?_); clear S a; intro a S
    refine st_go [1] S rfl (by kernel_rfl) ?_; clear S a; intro a S
    (first | refine st_y S rfl rfl rfl (y_addN S rfl rfl (by omega)) ?_ | refine st_y S rfl rfl rfl (y_int S rfl rfl rfl) ?_); clear S a; intro a S
    (first | refine st_y S rfl rfl rfl (y_mulN S rfl rfl (by omega)) ?_ | refine st_y S rfl rfl rfl (y_int S rfl rfl rfl) ?_); clear S a; intro a S
    refine st_y S rfl rfl rfl (y_sliceA2 (m := 32) (sz := 8) S (by kernel_rfl) rfl rfl rfl (by first | omega | (simp; done) | (simp; omega))) ?_; clear S a; intro a S
    refine st_go [1] S rfl (by kernel_rfl) ?_; clear S a; intro a S
    refine st_copyN (e := 53) (sz := 8) (us := zVs) S M 1 rfl rfl (by kernel_rfl) rfl rfl rfl (M.cellsAt (k := 32) 0 rfl rfl) (by rw [show zVs.length = 32 from rfl]; simp only [Nat.min_def]; split <;> omega) (by kernel_rfl) (by rw [St.len (stSu_ok _ _ _), show zVs.length = 32 from rfl]; exact (show 0 + 15 + ((k : Int) * 4).toNat * 8 + 32 ≤ 273 by omega)) ?_
    clear S M a; intro a wy S M
    rw [show 0 + 15 + ((k : Int) * 4).toNat * 8 = 15 + k * 32 by omega] at M
    simp only [List.set_cons_zero, List.set_cons_succ] at M
    replace S := S.sub [(0, _), (2, _), (4, _), (6, _), (30, _), (31, _), (7, _), (8, _), (9, _), (40, _)] rfl
    refine wpList_nil ?_
    refine block_normal ?_
    refine nxF ?_
    (first | refine st_y S rfl rfl rfl (y_addN S rfl rfl (by omega)) ?_ | refine st_y S rfl rfl rfl (y_int S rfl rfl rfl) ?_); clear S a; intro a S
    refine st_go [1] S rfl (by kernel_rfl) ?_; clear S a; intro a S
    refine nxC ?_
    skip
    replace M := M.drop 0
    simp only [List.eraseIdx_cons_succ, List.eraseIdx_cons_zero] at M
    refine ⟨8 - (k + 1), by omega, k + 1, by omega, rfl, S.sub _ rfl, ?_⟩
    have e : ((stSu x 0 0).cellsL (.slice none 0 0)).take (15 + k * 32) ++ zVs ++ ((stSu x 0 0).cellsL (.slice none 0 0)).drop (15 + k * 32 + zVs.length) = (stSu x 0 0).cellsL (.slice none 0 0) := stSu_zero x 0 0 _ (by omega)
    rw [← e]
    exact M
  clear S; intro h31 S
  refine st_condF S rfl ?_
  refine wp_exit ?_
  refine then_exit ?_
  refine then_exit ?_
  refine block_hit ?_
  refine then_normal ?_
  refine wp_seq ?_
  have htl := gsR_tail hg
  obtain ⟨sc, hsc⟩ : ∃ sc, scanG S0 x.tail = sc := ⟨_, rfl⟩
  refine wp_region_lit ?_
  refine st_run [1, 2, 2] S M rfl (by kernel_rfl) ?_; clear S a; intro a S
  refine st_call (xs := [(Operand.tmp 54), (Operand.tmp 56)]) S (enters_of Tryz.func39 (by decide) rfl) rfl rfl rfl (Scan_anyG (A := _ :: _ :: _ :: A) x.tail hE M hup hw htl) ?_
  rintro _ w8 ⟨rs, ra, rc, rlo, rhi, rfl, hrs, h90, h24, M1⟩; refine ⟨_, rfl, ?_⟩; clear S M a; intro a S
  have M := M1.perm (perm_r1 (es := rs.map RB.ent))
  simp only [List.append_eq] at M
  clear M1
  rw [hsc] at hrs S
  refine st_go [1, 1, 1, 1] S rfl (by kernel_rfl) ?_; clear S a; intro a S
  refine st_alloc S M rfl rfl #[.int .i64 0, .int .i64 0] (by kernel_rfl) ?_; clear S M a; intro a w9 bL S M hB
  refine st_go [1] S rfl (by kernel_rfl) ?_; clear S a; intro a S
  refine st_store (sz := 2) (us := [_, _]) S M 0 rfl (by kernel_rfl) rfl rfl rfl rfl rfl rfl (by first | decide | (simp; done) | (simp; omega)) ?_; clear M; intro w10 M
  simp only [putL, List.set_cons_zero, List.set_cons_succ, Nat.reduceAdd] at M
  refine st_go [1] S rfl (by kernel_rfl) ?_; clear S a; intro a S
  refine nxC ?_
  refine wp_seq ?_
  refine nxD ?_
  refine st_go [1, 1] S rfl (by kernel_rfl) ?_; clear S a; intro a S
  refine nxC ?_
  refine st_if (t := 62) S rfl ?_ ?_
  · clear S; intro h62 S
    exact absurd rfl h62
  clear S; intro h62 S
  refine st_condF S rfl ?_
  refine wp_skip ?_
  refine nxE ?_
  refine st_y S rfl rfl rfl (y_loadAgg (cs := [_, _]) S (by kernel_rfl) rfl rfl (M.cellsAt (k := 2) 0 rfl rfl)) ?_; clear S a; intro a S
  refine st_go [14] S rfl (by kernel_rfl) ?_; clear S a; intro a S
  refine st_store (sz := 2) (us := [_, _]) S M 1 rfl (by kernel_rfl) rfl rfl rfl rfl rfl rfl (by rw [St.len (stSu_ok _ _ _)]; exact (by decide : 15 ≤ 273)) ?_; clear M; intro w11 M
  simp only [putL, List.set_cons_zero, List.set_cons_succ, Nat.reduceAdd] at M
  refine nxC ?_
  refine wp_seq ?_
  refine wp_seq ?_
  rw [stSu_log] at M
  replace M := M.drop 0
  simp only [List.eraseIdx_cons_succ, List.eraseIdx_cons_zero] at M
  replace M := M.drop 1
  simp only [List.eraseIdx_cons_succ, List.eraseIdx_cons_zero] at M
  obtain ⟨dlo, dhi, M1⟩ := M.nilRow 75 6
  clear M
  obtain ⟨F0, hF0⟩ : ∃ F0, F0 = rowE rlo rhi 101 1 (.slice ra rs.length rc) rs.length (rs.map RB.val) :: (rs.map RB.ent ++ (A ++ E)) := ⟨_, rfl⟩
  have hRow : rowE rlo rhi 101 1 (.slice ra rs.length rc) rs.length (rs.map RB.val) ∈ F0 := by rw [hF0]; exact List.mem_cons_self ..
  have hEnt : ∀ r ∈ rs, r.ent ∈ F0 := fun r hr => by rw [hF0]; exact List.mem_cons_of_mem _ (List.mem_append_left _ (List.mem_map_of_mem hr))
  have hSub : (A ++ E).Sublist F0 := by rw [hF0]; exact .cons _ (List.sublist_append_right _ _)
  rw [← hF0] at M1
  have M : Mem wc w11 (.blk bX ((stSu x x.tail sc.next).cellsL (.slice none ([] : Pl).length 0)).toArray 57 :: .blk bZ (zSt.cellsL (.slice none 0 0)).toArray 57 :: rowE dlo dhi 75 6 (.slice none ([] : Pl).length 0) ([] : Pl).length [] :: ([] ++ F0)) := M1.perm (List.perm_middle (l₁ := [_, _])).symm
  clear M1 hF0
  have hle : rs.length ≤ 24 := h24
  have hll : l0.length = rs.length := by rw [hrec.len, hsc, ← hrs, List.length_map]
  refine wp_region_lit ?_
  refine st_go [1] S rfl (by kernel_rfl) ?_; clear S a; intro a S
  refine st_y S rfl rfl rfl (y_lenS (E := 101) S rfl (by kernel_rfl)) ?_; clear S a; intro a S
  refine st_go [1] S rfl (by kernel_rfl) ?_; clear S a; intro a S
  refine nxC ?_
  refine wp_block ?_
  refine wp_loop_g (fun m a w' => ∃ (k : Nat) (s : St) (ps : Pl) (da : Option Addr) (dc dlo dhi : Nat) (cs : List Value) (es : List Ent), k ≤ rs.length ∧ m = rs.length - k ∧ s.ok ∧ ps.length ≤ k ∧ foldS (stSu x x.tail sc.next) [] (l0.take k) = (s, ps) ∧ PrBk cs ps es ∧ Sees 92 a [(2, .pointer (some ⟨bZ, 0, none⟩)), (6, .pointer (some ⟨bX, 0, none⟩)), (67, .slice ra rs.length rc), (68, .int .i64 (rs.length : Int)), (69, .int .i64 (k : Int))] ∧ Mem wc w' (.blk bX (s.cellsL (.slice da ps.length dc)).toArray 57 :: .blk bZ (zSt.cellsL (.slice none 0 0)).toArray 57 :: rowE dlo dhi 75 6 (.slice da ps.length dc) ps.length cs :: (es ++ F0))) (rs.length) ?_ ?_
  · skip
    exact ⟨0, stSu x x.tail sc.next, [], none, 0, dlo, dhi, [], [], Nat.zero_le _, rfl, stSu_ok _ _ _, Nat.le_refl _, rfl, PrBk.nil', S.sub _ rfl, M⟩
  clear S M a; intro m a wl
  rintro ⟨k, s, ps, da, dc, dlo, dhi, cs, es, hk, rfl, hs, hpl, hfo, hBk, S, M⟩
  have hSub2 : (A ++ E).Sublist (es ++ F0) := hSub.trans (List.sublist_append_right _ _)
  refine nxD ?_
  refine st_go [1] S rfl (by kernel_rfl) ?_; clear S a; intro a S
  refine nxC ?_
  refine wp_seq ?_
  refine st_fi (t := 70) S rfl ?_ ?_
  · clear S; intro h70 S
    refine st_condF S rfl ?_
    refine wp_exit ?_
    refine then_exit ?_
    refine then_exit ?_
    refine block_hit ?_
    refine then_normal ?_
    refine wp_seq ?_
    obtain rfl : k = rs.length := by omega
    rw [List.take_of_length_le (by omega)] at hfo
    refine wp_region_lit ?_
    refine st_y S rfl rfl rfl (y_loadAgg (k := 273) (cs := _) S (by kernel_rfl) rfl (by with_reducible first | exact St.len zSt_ok _ | exact St.len (stSu_ok _ _ _) _ | exact St.len hs _ | exact St.len hs2 _) (M.cellsAt 0 rfl cutL_all)) ?_; clear S a; intro a S
    refine st_storeAll (sz := 273) S M 1 rfl (by kernel_rfl) rfl rfl (by with_reducible first | exact St.len zSt_ok _ | exact St.len (stSu_ok _ _ _) _ | exact St.len hs _ | exact St.len hs2 _) (by with_reducible first | exact St.one zSt_ok _ rfl | exact St.one (stSu_ok _ _ _) _ rfl | exact St.one hs _ rfl | exact St.one hs2 _ rfl) rfl (by with_reducible first | exact St.len zSt_ok _ | exact St.len (stSu_ok _ _ _) _ | exact St.len hs _ | exact St.len hs2 _) ?_; clear M; intro w17 M
    simp only [List.set_cons_zero, List.set_cons_succ] at M
    refine st_go [1] S rfl (by kernel_rfl) ?_; clear S a; intro a S
    refine nxC ?_
    refine wp_ret ?_
    refine end_two S rfl (res_agg (k := 273) (cs := _) (by kernel_rfl) rfl (by with_reducible first | exact St.len zSt_ok _ | exact St.len (stSu_ok _ _ _) _ | exact St.len hs _ | exact St.len hs2 _) (M.cellsAt 1 rfl cutL_all)) (res_tmp rfl) ?_
    exact ⟨s, ps, da, dc, dlo, dhi, cs, es, rfl, M.sub (.cons _ (.cons _ (.cons_cons _ ((List.Sublist.refl es).append hSub)))), hBk, hs, by omega, by rw [hsc]; exact hfo⟩
  clear S; intro h70 S
  refine st_condT S rfl ?_
  refine wp_skip ?_
  refine then_normal ?_
  refine wp_seq ?_
  refine wp_block ?_
  refine wp_seq ?_
  have hkl : k < rs.length := by omega
  obtain ⟨r, hr⟩ : ∃ r, rs[k]? = some r := ⟨_, List.getElem?_eq_getElem hkl⟩
  have hrm := List.mem_of_getElem? hr
  have hr90 := h90 r hrm
  obtain ⟨p, hp⟩ : ∃ p, l0[k]? = some p := ⟨_, List.getElem?_eq_getElem (by omega)⟩
  have hpr := hrec.get k p r.bs hp (by rw [hsc, ← hrs, List.getElem?_map, hr]; rfl)
  have hpm : p.1.may p.2 = true := by
    have h2 := hpr.2
    unfold takes at h2
    cases h3 : p.1.may p.2 with
    | true => rfl
    | false => rw [h3] at h2; cases h2
  refine wp_region_lit ?_
  refine st_y S rfl rfl rfl (y_indexR (e := 101) (sz := 1) S (by kernel_rfl) rfl ((M.readIn (.tail _ (.tail _ (.tail _ (List.mem_append_right _ hRow)))) (by unfold maxLen; omega))) rfl (by first | omega | (simp; done) | (simp; omega))) ?_; clear S a; intro a S
  try simp only [Int.toNat_natCast, Nat.mul_one, Nat.zero_add] at S
  refine st_y S rfl rfl rfl (y_load S (by kernel_rfl) rfl ((M.readIn (.tail _ (.tail _ (.tail _ (List.mem_append_right _ hRow)))) (by unfold maxLen; omega)).at_.one k (by rw [List.getElem?_map, hr]; rfl))) ?_; clear S a; intro a S
  refine st_go [1] S rfl (by kernel_rfl) ?_; clear S a; intro a S
  refine nxA ?_
  refine st_go [1] S rfl (by kernel_rfl) ?_; clear S a; intro a S
  refine st_call (xs := [(Operand.tmp 74)]) S (enters_of Tryz.func40 (by decide) rfl) rfl rfl rfl (readR_any r.val r.bs _ (M.readIn (.tail _ (.tail _ (.tail _ (List.mem_append_right _ (hEnt r hrm))))) (by unfold maxLen; omega))) ?_
  rintro _ w12 hP; obtain ⟨q, wx, wa, wcp, c, rfl, hF, h8, hs31, hcc⟩ := ReadRP.form hP; refine ⟨_, rfl, ?_⟩; clear S a; intro a S
  obtain ⟨wlo, whi, -, M1⟩ := M.pushFresh hF
  clear M hP hF
  have M := M1
  clear M1
  obtain ⟨rfl, rfl, rfl⟩ : c = 0 ∧ q = p.1 ∧ wx = p.2 := by
    rcases hcc with ⟨h1, h2, h3⟩ | ⟨-, -, -, h4⟩
    · have := enc_inj h2 hpm (rest := []) (by rw [h3, hpr.1, List.append_nil])
      exact ⟨h1, this.1, this.2.1⟩
    · exact absurd hpr.1 (h4 _ _ hpm)
  refine st_go [1, 1, 1] S rfl (by kernel_rfl) ?_; clear S a; intro a S
  refine st_alloc S M rfl rfl #[.int .i8 0, .int .i64 0, .int .i64 0, .int .i64 0, .bool false, .slice none 0 0, .int .i64 0, .int .i64 0, .int .i64 0, .int .i64 0, .int .i64 0, .int .i64 0] (by kernel_rfl) ?_; clear S M a; intro a w13 bY S M hB
  refine st_store (sz := 12) (us := [_, _, _, _, _, _, _, _, _, _, _, _]) S M 0 rfl (by kernel_rfl) rfl rfl rfl rfl rfl rfl (by first | decide | (simp; done) | (simp; omega)) ?_; clear M; intro w14 M
  simp only [putL, List.set_cons_zero, List.set_cons_succ, Nat.reduceAdd] at M
  refine st_go [1] S rfl (by kernel_rfl) ?_; clear S a; intro a S
  refine nxC ?_
  refine wp_seq ?_
  refine nxD ?_
  refine st_go [1, 1] S rfl (by kernel_rfl) ?_; clear S a; intro a S
  refine nxC ?_
  refine st_if (t := 79) S rfl ?_ ?_
  · clear S; intro h79 S
    exact absurd rfl h79
  clear S; intro h79 S
  refine st_condF S rfl ?_
  refine wp_skip ?_
  refine nxE ?_
  refine st_y S rfl rfl rfl (y_loadAgg (k := 273) (cs := _) S (by kernel_rfl) rfl (by with_reducible first | exact St.len zSt_ok _ | exact St.len (stSu_ok _ _ _) _ | exact St.len hs _ | exact St.len hs2 _) (M.cellsAt 2 rfl cutL_all)) ?_; clear S a; intro a S
  refine st_y S rfl rfl rfl (y_loadAgg (cs := [_, _, _, _, _, _, _, _, _, _, _, _]) S (by kernel_rfl) rfl rfl (M.cellsAt (k := 12) 0 rfl rfl)) ?_; clear S a; intro a S
  refine st_call (xs := [(Operand.tmp 82), (Operand.tmp 83)]) S (enters_of Tryz.func41 (by decide) rfl) rfl rfl rfl (apply_any s hs _ cs ps _ ((hBk.prs M (List.mem_of_getElem? (show _[4]? = _ from rfl)) (fun e he => by simp [he]) (by unfold maxLen; omega)).wide (Nat.zero_le _) (Nat.le_refl _)) (by omega) hBk.short p.1 wa wcp p.2 (M.readAll 1 rfl (by unfold maxLen; omega)) (by omega) (by omega)) ?_
  rintro _ w15 hA; obtain ⟨s2, ps2, c2, da2, dc2, lo2, hi2, cs2, es2, rfl, hs2, M2, hBk2, hc2⟩ := apply_form hA (by omega); refine ⟨_, rfl, ?_⟩; clear S a hA; intro a S; have hK := M2.below
  obtain ⟨rfl, rfl, rfl⟩ : c2 = 0 ∧ s2 = appSt s ps p.1 p.2 ∧ ps2 = (stepO ps p.1 p.2).1 := by
    rcases hc2 with ⟨-, h1, h2, h3⟩ | ⟨h1, -⟩
    · exact ⟨h1, h2, h3⟩
    · rw [hpr.2] at h1; cases h1
  replace M := (M.join M2).perm perm_r5
  clear M2
  refine st_go [1, 1, 1] S rfl (by kernel_rfl) ?_; clear S a; intro a S
  refine st_storeAll (sz := 273) S M 2 rfl (by kernel_rfl) rfl rfl (by with_reducible first | exact St.len zSt_ok _ | exact St.len (stSu_ok _ _ _) _ | exact St.len hs _ | exact St.len hs2 _) (by with_reducible first | exact St.one zSt_ok _ rfl | exact St.one (stSu_ok _ _ _) _ rfl | exact St.one hs _ rfl | exact St.one hs2 _ rfl) rfl (by with_reducible first | exact St.len zSt_ok _ | exact St.len (stSu_ok _ _ _) _ | exact St.len hs _ | exact St.len hs2 _) ?_; clear M; intro w16 M
  simp only [List.set_cons_zero, List.set_cons_succ] at M
  refine st_go [1] S rfl (by kernel_rfl) ?_; clear S a; intro a S
  replace S := S.sub [(2, _), (6, _), (67, _), (68, _), (69, _), (70, _), (13, _), (14, _), (79, _), (15, _)] rfl
  refine nxA ?_
  refine st_go [1, 1] S rfl (by kernel_rfl) ?_; clear S a; intro a S
  refine nxC ?_
  refine st_if (t := 88) S rfl ?_ ?_
  · clear S; intro h88 S
    exact absurd rfl h88
  clear S; intro h88 S
  refine st_condF S rfl ?_
  refine wp_skip ?_
  refine block_normal ?_
  refine nxF ?_
  (first | refine st_y S rfl rfl rfl (y_addN S rfl rfl (by omega)) ?_ | refine st_y S rfl rfl rfl (y_int S rfl rfl rfl) ?_); clear S a; intro a S
  refine st_go [1] S rfl (by kernel_rfl) ?_; clear S a; intro a S
  refine nxC ?_
  skip
  have hsl := stepP_len ps p.1 p.2
  replace M := M.drop 0
  simp only [List.eraseIdx_cons_succ, List.eraseIdx_cons_zero] at M
  replace M := M.drop 0
  simp only [List.eraseIdx_cons_succ, List.eraseIdx_cons_zero] at M
  replace M := M.drop 2
  simp only [List.eraseIdx_cons_succ, List.eraseIdx_cons_zero] at M
  exact ⟨rs.length - (k + 1), by omega, k + 1, _, _, da2, dc2, lo2, hi2, cs2, es2, by omega, rfl, hs2, by omega, by rw [List.take_add_one, hp, show (some p).toList = [p] from rfl, foldS_snoc, hfo], hBk2, S.sub _ rfl, M.sub (.cons_cons _ (.cons_cons _ (.cons_cons _ ((List.Sublist.refl es2).append (List.sublist_append_right es F0)))))⟩
theorem gs_new : gsR (secD DS.new) = (suFirst, 0) := by
  have hz : ∀ k, k < 2 → zerosB (secD DS.new k) = true := fun k hk => by
    have e : k = 0 ∨ k = 1 := by omega
    rcases e with rfl | rfl <;> decide +kernel
  have hl : ∀ k, k < 2 → (secD DS.new k).length = 64 := fun k hk => by
    have e : k = 0 ∨ k = 1 := by omega
    rcases e with rfl | rfl <;> decide +kernel
  have hb : bestN (secD DS.new) 2 = none := by
    rw [bestH_zero (hz 1 (by omega)) (hl 1 (by omega)), bestH_zero (hz 0 (by omega)) (hl 0 (by omega))]; rfl
  unfold gsR
  rw [hb, hz 0 (by omega), hz 1 (by omega)]; rfl
theorem scan_new : (scanG DS.new 1).l = [] ∧ (scanG DS.new 1).next = 1 := by
  rw [scanG_eq DS.new (by omega)]
  have hend : Ends 1 0 (secsOf DS.new 1) := fun y r hy f ld hf => by
    have h1 : (secsOf DS.new 1)[0]? = some y := by rw [hy]; rfl
    rw [secsOf_get DS.new 1 (by omega), secAt_new] at h1
    rw [← Option.some.inj h1, readF_zero] at hf; cases hf
  exact scan_end (nx := 1) (l := []) hend
theorem home_new (k : Nat) (h : k < 8) : zerosB (DS.new.get (26 + k)) = true := by
  have e : k = 0 ∨ k = 1 ∨ k = 2 ∨ k = 3 ∨ k = 4 ∨ k = 5 ∨ k = 6 ∨ k = 7 := by omega
  rcases e with rfl | rfl | rfl | rfl | rfl | rfl | rfl | rfl <;> decide +kernel
end Go.Proofs.YtndabhdepjnbcaaGreat

namespace Go.Proofs.YtndabhdepjnbcaaGreat
open Go.RowKit Go.Sort
theorem write_leS {S0 : DS} (hw : ∀ k, (S0.cache k).length ≤ 1000) (k : Int) (bs : List UInt8) (j : Int) : ((S0.write k bs).cache j).length ≤ 1000000 := by have := write_cache_le (k := k) (bs := bs) hw j; omega
theorem fillL_cons {pl : Nat → Option (Nat × Nat)} {l us : List Value} {i off sz : Nat} {v : Value} {r : List (Nat × Value)} (hp : pl i = some (off, sz)) (hu : v.cells.toList = us) (hsz : us.length = sz) (hle : off + sz ≤ l.length) : fillL pl l ((i, v) :: r) = fillL pl (putL l off us) r := by
  subst hu
  rw [fillL]
  simp only [hp]
  have h1 : Nat.beq v.cells.toList.length sz = true := by rw [hsz]; exact Nat.beq_refl sz
  have h2 : Nat.ble (off + sz) l.length = true := Nat.ble_eq_true_of_le hle
  rw [h1, h2]; rfl
abbrev zShC : List Value := [.pointer none] ++ (zSt.cellsL (.slice none 0 0) ++ [])
theorem zShC_len : zShC.length = 274 := by
  unfold zShC; rw [List.length_append, List.length_append, St.len zSt_ok]; rfl
theorem fill_sh (bd : Nat) (s : Sh) (dv : Value) (hl : s.h.length = 32) : fillL (fun i => [(0, 1), (1, 273)][i]?) zShC [(0, pB bd), (1, .agg (s.st.cellsL dv).toArray)] = some (shC bd s dv) := by
  have l1 : (s.st.cellsL dv).length = 273 := St.len (stX_ok _ _ _ _ hl) _
  have e0 : putL zShC 0 [pB bd] = [pB bd] ++ (zSt.cellsL (.slice none 0 0) ++ []) := rfl
  rw [fillL_cons (us := [pB bd]) (off := 0) (sz := 1) rfl rfl rfl (by rw [zShC_len]; omega), e0, fillL_one (us := s.st.cellsL dv) (off := 1) (sz := 273) rfl rfl l1 (by rw [List.length_append, List.length_append, St.len zSt_ok]; exact Nat.le_refl _)]
  congr 1
  rw [putL_eq _ _ _ (by rw [List.length_append, List.length_append, St.len zSt_ok, l1]; exact Nat.le_refl _), l1, List.drop_of_length_le (by rw [List.length_append, List.length_append, St.len zSt_ok]; exact Nat.le_refl _)]
  unfold shC
  rw [List.append_nil, List.append_nil, List.append_nil]; rfl
/-- a store of an empty disk -/
def sh0 : Sh := ⟨suFirst, 1, 1, List.replicate 32 zV8, 0, []⟩
set_option maxHeartbeats 1000000 in
set_option maxRecDepth 10000 in
theorem shOpen0_any {wc w : World} {A E : List Ent} {bd : Nat} (hE : DkE bd DS.new E) (M : Mem wc w (A ++ E)) :
    Calls Tryz.prog 9 #[pB bd] w fun e w' => ∃ b, e = .returned (.tuple #[pB b, .int .i64 0]) ∧ ShM wc w' A b bd sh0 DS.new := by
  have hok : sh0.st.ok := stX_ok _ _ _ _ rfl
  refine calls_enter Tryz.func9 rfl 20 rfl rfl ?_; intro a S
  refine nxD ?_
  refine st_go [1, 1] S rfl (by kernel_rfl) ?_; clear S a; intro a S
  refine nxC ?_
  refine wp_seq ?_
  refine nxD ?_
  refine st_go [1] S rfl (by kernel_rfl) ?_; clear S a; intro a S
  refine st_y S rfl rfl rfl (y_eqlPS (by kernel_rfl) S rfl) ?_; clear S a; intro a S
  refine nxC ?_
  refine st_condF S rfl ?_
  refine wp_skip ?_
  refine nxE ?_
  refine st_go [1] S rfl (by kernel_rfl) ?_; clear S a; intro a S
  refine st_call (xs := [(Operand.tmp 9)]) S (enters_of Tryz.func26 (by decide) rfl) rfl rfl rfl (openF_any suFirst [] hE M rfl (fun k => Nat.zero_le _) home_new gs_new (by rw [show suFirst.tail = 1 from rfl, scan_new.1]; exact Recs.nil)) ?_
  rintro _ w1 ⟨s2, ps2, da, dc, lo, hi, cs, es, rfl, M1, hBk, hs2, hp2, hfo⟩; refine ⟨_, rfl, ?_⟩; clear S M a; intro a S; have M := M1; clear M1
  obtain ⟨rfl, rfl⟩ : s2 = sh0.st ∧ ps2 = [] := by
    rw [show suFirst.tail = 1 from rfl, scan_new.2] at hfo
    exact ⟨(congrArg Prod.fst hfo).symm, (congrArg Prod.snd hfo).symm⟩
  refine st_go [1, 1, 1] S rfl (by kernel_rfl) ?_; clear S a; intro a S
  refine st_alloc S M rfl rfl (zSt.cellsL (.slice none 0 0)).toArray (by kernel_rfl) ?_; clear S M a; intro a w2 bW S M hB
  refine st_storeAll (sz := 273) S M 0 rfl (by kernel_rfl) rfl rfl (by with_reducible first | exact St.len hok _ | exact St.len zSt_ok _ | exact shC_len (s := sh0) rfl | exact zShC_len) (by with_reducible first | exact St.one hok _ rfl | exact St.one zSt_ok _ rfl) rfl (by with_reducible first | exact St.len hok _ | exact St.len zSt_ok _ | exact shC_len (s := sh0) rfl | exact zShC_len) ?_; clear M; intro w3 M
  simp only [List.set_cons_zero, List.set_cons_succ] at M
  refine st_go [1] S rfl (by kernel_rfl) ?_; clear S a; intro a S
  refine nxC ?_
  refine wp_seq ?_
  refine nxD ?_
  refine st_go [1, 1] S rfl (by kernel_rfl) ?_; clear S a; intro a S
  refine nxC ?_
  refine st_if (t := 14) S rfl ?_ ?_
  · clear S; intro h14 S
    exact absurd rfl h14
  clear S; intro h14 S
  refine st_condF S rfl ?_
  refine wp_skip ?_
  refine nxE ?_
  refine st_go [1] S rfl (by kernel_rfl) ?_; clear S a; intro a S
  refine st_y S rfl rfl rfl (y_loadAgg (k := 273) (cs := _) S (by kernel_rfl) rfl (by with_reducible first | exact St.len hok _ | exact St.len zSt_ok _ | exact shC_len (s := sh0) rfl | exact zShC_len) (M.cellsAt 0 rfl cutL_all)) ?_; clear S a; intro a S
  refine st_y S rfl rfl rfl (y_build (ps := [(0, (Operand.tmp 16)), (1, (Operand.tmp 17))]) (pl := [(0, 1), (1, 273)]) (z := zShC) (cs := shC bd sh0 (.slice da ([] : Pl).length dc)) S (by kernel_rfl) rfl (fill_sh bd sh0 _ rfl)) ?_; clear S a; intro a S
  refine st_box S M rfl rfl rfl _ rfl ?_; clear S M a; intro a w4 bX S M hB
  refine st_go [1, 1] S rfl (by kernel_rfl) ?_; clear S a; intro a S
  refine nxC ?_
  refine wp_ret ?_
  refine end_two S rfl (res_tmp rfl) (res_tmp rfl) ?_
  skip
  replace M := M.drop 1
  simp only [List.eraseIdx_cons_succ, List.eraseIdx_cons_zero] at M
  exact ⟨bX, rfl, da, dc, lo, hi, cs, es, E, hE, hBk, M⟩
set_option maxHeartbeats 1000000 in
theorem superS_any {wc w : World} {A E es : List Ent} {b bd bO lo hi dc : Nat} {s : Sh} {S0 : DS} {da : Option Addr} {cs : List Value} (y : Su) (hE : DkE bd S0 E)
    (M : Mem wc w (.blk bO y.cellsL.toArray 49 :: shE b bd s (.slice da s.ps.length dc) :: rowE lo hi 75 6 (.slice da s.ps.length dc) s.ps.length cs :: (es ++ (A ++ E)))) (hup : S0.down = false) (hw : ∀ k, (S0.cache k).length ≤ 1000) (hm : ({ y with gen := y.gen + 1 } : Su).may) (hg : 0 ≤ y.gen) :
    Calls Tryz.prog 28 #[pB b, pB bO] w fun e w' => e = .returned (.int .i64 0) ∧ ∃ E', DkE bd (S0.write ((y.gen + 1) % 2) (supS { y with gen := y.gen + 1 })).flush E' ∧ Mem wc w' (.blk bO ({ y with gen := y.gen + 1 } : Su).cellsL.toArray 49 :: shE b bd s (.slice da s.ps.length dc) :: rowE lo hi 75 6 (.slice da s.ps.length dc) s.ps.length cs :: (es ++ (A ++ E'))) := by
  have hgm : y.gen + 1 ≤ 1099511627776 := hm.2.2.1
  refine calls_enter Tryz.func28 rfl 34 rfl rfl ?_; intro a S
  refine wp_seq ?_
  skip
  refine wp_region_lit ?_
  refine st_go [1] S rfl (by kernel_rfl) ?_; clear S a; intro a S
  refine nxC ?_
  refine wp_seq ?_
  refine nxD ?_
  refine st_run [1, 1, 1, 1, 1] S M rfl (by kernel_rfl) ?_; clear S a; intro a S
  refine nxC ?_
  refine st_if (t := 10) S rfl ?_ ?_
  · clear S; intro h10 S
    exfalso; omega
  clear S; intro h10 S
  refine st_condF S rfl ?_
  refine wp_skip ?_
  refine nxE ?_
  refine st_run [1, 1, 1, 1] S M rfl (by kernel_rfl) ?_; clear S a; intro a S
  (first | refine st_y S rfl rfl rfl (y_addN S rfl rfl (by omega)) ?_ | refine st_y S rfl rfl rfl (y_int S rfl rfl rfl) ?_); clear S a; intro a S
  refine st_go [1, 1] S rfl (by kernel_rfl) ?_; clear S a; intro a S
  refine st_store (sz := 1) (us := [_]) S M 0 rfl (by kernel_rfl) rfl rfl rfl rfl rfl rfl (by first | decide | (simp; done) | (simp; omega)) ?_; clear M; intro w1 M
  simp only [putL, List.set_cons_zero, List.set_cons_succ, Nat.reduceAdd] at M
  refine nxC ?_
  refine wp_seq ?_
  refine wp_seq ?_
  refine wp_regionK [7] #[false, false, false, false, false, false, false, false, false] rfl M (by kernel_rfl) ?_; clear M; intro w2 M
  refine k_pure 0 S rfl (fun w => y_move S rfl) ?_; clear S a; intro a S
  refine k_pure 1 S rfl (fun w => y_nilCheck S rfl) ?_; clear S a; intro a S
  refine k_pure 2 S rfl (fun w => y_fieldAddr (k := 0) S (by kernel_rfl) rfl) ?_; clear S a; intro a S
  refine k_read 3 S rfl (fun w hW => have M := M.grow hW; y_load S (by kernel_rfl) rfl (M.cell 1 rfl (shC_d _ _ _))) ?_; clear S a; intro a S
  refine k_pure 4 S rfl (fun w => y_move S rfl) ?_; clear S a; intro a S
  refine k_pure 5 S rfl (fun w => y_nilCheck S rfl) ?_; clear S a; intro a S
  refine k_read 6 S rfl (fun w hW => have M := M.grow hW; y_loadAgg (cs := [_, _, _, _, _, _, _, _, _, _, _, _, _]) S (by kernel_rfl) rfl rfl (M.cellsAt (k := 13) 0 rfl rfl)) ?_; clear S a; intro a S
  refine k_one 7 rfl (by kernel_rfl) ?_
  refine st_call (xs := [(Operand.tmp 21), (Operand.tmp 24)]) S (enters_of Tryz.func47 (by decide) rfl) rfl rfl rfl (putSuper_any (A := _ :: _ :: _ :: (es ++ A)) { y with gen := y.gen + 1 } hE (by simpa only [List.cons_append, List.append_assoc] using M) hup hm (fun k => by have := hw k; omega)) ?_
  rintro _ w3 ⟨rfl, E1, hE1, M1⟩; refine ⟨_, rfl, ?_⟩; clear S M a; intro a S; have M := M1; clear M1
  simp only [List.cons_append, List.append_assoc] at M
  refine wpList_nil ?_; refine then_normal ?_; refine ⟨fun h => absurd h (by decide), ?_⟩
  refine k_pure 8 S rfl (fun w => y_assign S rfl) ?_; clear S a; intro a S
  refine k_end (by kernel_rfl) ?_
  replace S := S.sub [(0, _), (1, _), (4, _), (10, _), (5, _)] rfl
  refine nxE ?_
  refine st_go [1, 1] S rfl (by kernel_rfl) ?_; clear S a; intro a S
  refine nxC ?_
  refine st_if (t := 27) S rfl ?_ ?_
  · clear S; intro h27 S
    exact absurd rfl h27
  clear S; intro h27 S
  refine st_condF S rfl ?_
  refine wp_skip ?_
  refine nxE ?_
  refine st_go [1, 1, 1] S rfl (by kernel_rfl) ?_; clear S a; intro a S
  refine st_y S rfl rfl rfl (y_load S (by kernel_rfl) rfl (M.cell 1 rfl (shC_d _ _ _))) ?_; clear S a; intro a S
  refine st_call (xs := [(Operand.tmp 32)]) S (enters_of Tryz.func48 (by decide) rfl) rfl rfl rfl (flush_any (A := _ :: _ :: _ :: (es ++ A)) hE1 (by simpa only [List.cons_append, List.append_assoc] using M) hup (write_leS hw _ _)) ?_
  rintro _ w4 ⟨rfl, E2, hE2, M1⟩; refine ⟨_, rfl, ?_⟩; clear S M a; intro a S; have M := M1; clear M1
  simp only [List.cons_append, List.append_assoc] at M
  refine st_go [1] S rfl (by kernel_rfl) ?_; clear S a; intro a S
  refine nxC ?_
  refine wp_ret ?_
  refine end_one S rfl (res_tmp rfl) ?_
  exact ⟨rfl, E2, hE2, M⟩
/-- an incarnation begins: y is the superblock on the disk -/
def Sh.begun (s : Sh) (y : Su) : Sh := { s with x := { s.x with inc := s.x.inc + 1, gen := y.gen + 1 } }
def begSu (s : Sh) (y : Su) : Su := { y with inc := s.x.inc + 1, gen := y.gen + 1 }
theorem shC_begun (bd : Nat) (s : Sh) (y : Su) (dv : Value) : ((shC bd s dv).set 4 (.int .i64 (s.x.inc + 1))).set 1 (.int .i64 (y.gen + 1)) = shC bd (s.begun y) dv := rfl
set_option maxHeartbeats 1000000 in
theorem begin11_any {wc w : World} {A : List Ent} {b bd : Nat} {s : Sh} {S0 : DS} (y : Su) (hM : ShM wc w A b bd s S0) (hup : S0.down = false) (hw : ∀ k, (S0.cache k).length ≤ 1000) (hg : gsR (secD S0) = (y, 0)) (hm : (begSu s y).may) (hi : 0 ≤ s.x.inc) (hy : 0 ≤ y.gen) (hl : s.h.length = 32) :
    Calls Tryz.prog 11 #[pB b] w fun e w' => e = .returned (.tuple #[.int .i64 (s.x.inc + 1), .int .i64 0]) ∧ ShM wc w' A b bd (s.begun y) (S0.write ((y.gen + 1) % 2) (supS (begSu s y))).flush := by
  obtain ⟨da, dc, lo, hi9, cs, es, E, hE, hBk, M⟩ := hM
  have him : s.x.inc + 1 ≤ 1048576 := hm.2.2.2.2.2.2.2.2.1
  refine calls_enter Tryz.func11 rfl 56 rfl rfl ?_; intro a S
  refine wp_seq ?_
  skip
  refine wp_region_lit ?_
  refine st_go [1, 1] S rfl (by kernel_rfl) ?_; clear S a; intro a S
  refine nxC ?_
  refine wp_seq ?_
  refine nxD ?_
  refine st_go [1] S rfl (by kernel_rfl) ?_; clear S a; intro a S
  refine st_y S rfl rfl rfl (y_eqlPS (by kernel_rfl) S rfl) ?_; clear S a; intro a S
  refine nxC ?_
  refine st_condF S rfl ?_
  refine wp_skip ?_
  refine then_normal ?_
  refine wp_seq ?_
  refine nxD ?_
  refine st_go [1, 1, 2, 1, 4] S rfl (by kernel_rfl) ?_; clear S a; intro a S
  refine st_y S rfl rfl rfl (y_load S (by kernel_rfl) rfl (M.cell 0 rfl (shC_inc _ _ _))) ?_; clear S a; intro a S
  refine st_go [1] S rfl (by kernel_rfl) ?_; clear S a; intro a S
  refine nxC ?_
  refine st_if (t := 15) S rfl ?_ ?_
  · clear S; intro h15 S
    exfalso; omega
  clear S; intro h15 S
  refine st_condF S rfl ?_
  refine wp_skip ?_
  refine nxE ?_
  refine st_go [1, 1, 1] S rfl (by kernel_rfl) ?_; clear S a; intro a S
  refine st_y S rfl rfl rfl (y_load S (by kernel_rfl) rfl (M.cell 0 rfl (shC_d _ _ _))) ?_; clear S a; intro a S
  refine st_call (xs := [(Operand.tmp 20)]) S (enters_of Tryz.func27 (by decide) rfl) rfl rfl rfl (getH_any (A := _ :: _ :: (es ++ A)) hE (by simpa only [List.cons_append, List.append_assoc] using M) hup (fun k => by have := hw k; omega)) ?_
  rintro _ w1 ⟨rfl, M1⟩; refine ⟨_, rfl, ?_⟩; clear S M a; intro a S; have M := M1; clear M1
  simp only [List.cons_append, List.append_assoc] at M
  rw [hg] at S
  refine st_go [1, 1, 1] S rfl (by kernel_rfl) ?_; clear S a; intro a S
  refine st_alloc S M rfl rfl #[.int .i64 0, .int .i64 0, .int .i64 0, .int .i64 0, .int .i64 0, .int .i64 0, .int .i64 0, .int .i64 0, .int .i64 0, .int .i64 0, .int .i64 0, .int .i64 0, .int .i64 0] (by kernel_rfl) ?_; clear S M a; intro a w2 bO S M hB
  refine st_store (sz := 13) (us := [_, _, _, _, _, _, _, _, _, _, _, _, _]) S M 0 rfl (by kernel_rfl) rfl rfl rfl rfl rfl rfl (by first | decide | (simp; done) | (simp; omega)) ?_; clear M; intro w3 M
  simp only [putL, List.set_cons_zero, List.set_cons_succ, Nat.reduceAdd] at M
  refine st_go [1] S rfl (by kernel_rfl) ?_; clear S a; intro a S
  replace S := S.sub [(0, _), (2, _), (3, _), (8, _), (15, _), (4, _), (5, _)] rfl
  refine nxC ?_
  refine wp_seq ?_
  refine nxD ?_
  refine st_go [1, 1] S rfl (by kernel_rfl) ?_; clear S a; intro a S
  refine nxC ?_
  refine st_if (t := 25) S rfl ?_ ?_
  · clear S; intro h25 S
    exact absurd rfl h25
  clear S; intro h25 S
  refine st_condF S rfl ?_
  refine wp_skip ?_
  refine nxE ?_
  refine st_go [1, 1, 2, 1, 4] S rfl (by kernel_rfl) ?_; clear S a; intro a S
  refine st_y S rfl rfl rfl (y_load S (by kernel_rfl) rfl (M.cell 1 rfl (shC_inc _ _ _))) ?_; clear S a; intro a S
  (first | refine st_y S rfl rfl rfl (y_addN S rfl rfl (by omega)) ?_ | refine st_y S rfl rfl rfl (y_int S rfl rfl rfl) ?_); clear S a; intro a S
  refine st_go [4] S rfl (by kernel_rfl) ?_; clear S a; intro a S
  refine st_store (sz := 1) (us := [_]) S M 0 rfl (by kernel_rfl) rfl rfl rfl rfl rfl rfl (by first | decide | (simp; done) | (simp; omega)) ?_; clear M; intro w4 M
  simp only [putL, List.set_cons_zero, List.set_cons_succ, Nat.reduceAdd] at M
  refine nxC ?_
  refine wp_seq ?_
  refine nxD ?_
  refine st_go [1] S rfl (by kernel_rfl) ?_; clear S a; intro a S
  refine st_call (xs := [(Operand.tmp 35), (Operand.tmp 4)]) S (enters_of Tryz.func28 (by decide) rfl) rfl rfl rfl (superS_any (s := s) { y with inc := s.x.inc + 1 } hE M hup hw hm hy) ?_
  rintro _ w5 ⟨rfl, E2, hE2, M1⟩; refine ⟨_, rfl, ?_⟩; clear S M a; intro a S; have M := M1; clear M1
  refine st_go [1] S rfl (by kernel_rfl) ?_; clear S a; intro a S
  refine nxA ?_
  refine st_go [1, 1] S rfl (by kernel_rfl) ?_; clear S a; intro a S
  refine nxC ?_
  refine st_if (t := 38) S rfl ?_ ?_
  · clear S; intro h38 S
    exact absurd rfl h38
  clear S; intro h38 S
  refine st_condF S rfl ?_
  refine wp_skip ?_
  refine nxE ?_
  refine st_run [1, 1, 4, 1, 1, 1, 1, 2, 1, 4] S M rfl (by kernel_rfl) ?_; clear S a; intro a S
  refine st_store (sz := 1) (us := [_]) S M 1 rfl (by kernel_rfl) rfl rfl rfl rfl rfl rfl (by rw [shC_len hl]; exact (by decide : 5 ≤ 274)) ?_; clear M; intro w6 M
  simp only [putL, List.set_cons_zero, List.set_cons_succ, Nat.reduceAdd] at M
  refine st_go [1, 2, 1, 1] S rfl (by kernel_rfl) ?_; clear S a; intro a S
  refine st_store (sz := 1) (us := [_]) S M 1 rfl (by kernel_rfl) rfl rfl rfl rfl rfl rfl (by rw [List.length_set, shC_len hl]; exact (by decide : 2 ≤ 274)) ?_; clear M; intro w7 M
  simp only [putL, List.set_cons_zero, List.set_cons_succ, Nat.reduceAdd] at M
  replace S := S.sub [(0, _), (2, _), (3, _), (8, _), (15, _), (4, _), (5, _), (25, _), (6, _), (38, _)] rfl
  refine nxA ?_
  refine st_run [4, 1, 1, 1] S M rfl (by kernel_rfl) ?_; clear S a; intro a S
  refine nxC ?_
  refine wp_ret ?_
  refine end_two S rfl (res_tmp rfl) (res_tmp rfl) ?_
  rw [shC_begun] at M
  exact ⟨rfl, da, dc, lo, hi9, cs, es, E2, hE2, hBk, M.drop 0⟩
theorem shC_home {bd : Nat} {s : Sh} {dv : Value} {k : Nat} {v : V8} (hl : s.h.length = 32) (hk : s.h[k]? = some v) : cutL (shC bd s dv).toArray.toList (16 + k * 8) 8 = some v.cellsL := by
  have hlt := (List.getElem?_eq_some_iff.1 hk).1
  have e : shC bd s dv = (pB bd :: (s.st.pre ++ hcells (s.h.take k))) ++ (v.cellsL ++ (hcells (s.h.drop (k + 1)) ++ [dv, .int .i64 s.k])) := by
    unfold shC
    rw [List.append_nil]
    show pB bd :: (s.st.pre ++ (hcells s.h ++ [dv, .int .i64 s.k])) = _
    rw [hcells_split hk]; simp only [List.append_assoc, List.cons_append]
  have l0 : (pB bd :: (s.st.pre ++ hcells (s.h.take k))).length = 16 + k * 8 := by
    rw [List.length_cons, List.length_append, hcells_length, List.length_take, St.pre_len (stX_ok _ _ _ _ hl)]; omega
  have := cutL_mid (pB bd :: (s.st.pre ++ hcells (s.h.take k))) v.cellsL (hcells (s.h.drop (k + 1)) ++ [dv, .int .i64 s.k])
  rw [l0, ← e] at this
  exact this
theorem read11_any {wc w : World} {H : List Ent} {b bd : Nat} {s : Sh} {dv : Value} (k : Nat) (v : V8) (M : Mem wc w (shE b bd s dv :: H)) (hl : s.h.length = 32) (hk : s.h[k]? = some v) :
    Calls Tryz.prog 16 #[pB b, .int .i64 (k : Int)] w fun e w' => e = .returned (.tuple #[.agg v.cellsL.toArray, .int .i64 0]) ∧ Mem wc w' (shE b bd s dv :: H) := by
  have hlt := (List.getElem?_eq_some_iff.1 hk).1
  refine calls_enter Tryz.func16 rfl 23 rfl rfl ?_; intro a S
  refine wp_seq ?_
  skip
  refine wp_region_lit ?_
  refine st_alloc S M rfl rfl #[.int .u8 0, .int .u8 0, .int .u8 0, .int .u8 0, .int .u8 0, .int .u8 0, .int .u8 0, .int .u8 0] (by kernel_rfl) ?_; clear S M a; intro a w1 bZ S M hB
  refine st_go [1] S rfl (by kernel_rfl) ?_; clear S a; intro a S
  refine nxC ?_
  refine wp_seq ?_
  refine nxD ?_
  refine st_go [1] S rfl (by kernel_rfl) ?_; clear S a; intro a S
  refine st_y S rfl rfl rfl (y_eqlPS (by kernel_rfl) S rfl) ?_; clear S a; intro a S
  refine nxC ?_
  refine st_condF S rfl ?_
  refine wp_skip ?_
  refine then_normal ?_
  refine wp_seq ?_
  refine nxD ?_
  refine st_go [1, 1, 1] S rfl (by kernel_rfl) ?_; clear S a; intro a S
  refine st_if (t := 11) S rfl ?_ ?_
  · clear S; intro h11 S
    exfalso; first | omega | (simp at h11; omega)
  clear S; intro h11 S
  refine st_go [1, 1, 1] S rfl (by kernel_rfl) ?_; clear S a; intro a S
  refine nxC ?_
  refine st_if (t := 14) S rfl ?_ ?_
  · clear S; intro h14 S
    first | (exfalso; omega) | (simp at h14; omega)
  clear S; intro h14 S
  refine st_condF S rfl ?_
  refine wp_skip ?_
  refine nxE ?_
  refine st_go [1, 1, 1, 2, 16] S rfl (by kernel_rfl) ?_; clear S a; intro a S
  refine st_y S rfl rfl rfl (y_indexA (m := 32) (sz := 8) S (by kernel_rfl) rfl rfl (by first | omega | (simp; done) | (simp; omega))) ?_; clear S a; intro a S
  try simp only [Int.toNat_natCast, Nat.mul_one, Nat.zero_add] at S
  rw [show 1 + 15 + k * 8 = 16 + k * 8 by omega] at S
  refine st_y S rfl rfl rfl (y_loadAgg (cs := v.cellsL) S (by kernel_rfl) rfl rfl (M.cellsAt (k := 8) 1 rfl (shC_home hl hk))) ?_; clear S a; intro a S
  refine st_store (sz := 8) (us := [_, _, _, _, _, _, _, _]) S M 0 rfl (by kernel_rfl) rfl rfl rfl rfl rfl rfl (by first | decide | (simp; done) | (simp; omega)) ?_; clear M; intro w2 M
  simp only [putL, List.set_cons_zero, List.set_cons_succ, Nat.reduceAdd] at M
  refine st_go [1] S rfl (by kernel_rfl) ?_; clear S a; intro a S
  replace S := S.sub [(0, _), (1, _), (4, _), (7, _), (14, _), (5, _)] rfl
  refine nxC ?_
  refine wp_ret ?_
  refine end_two S rfl (res_agg (cs := [_, _, _, _, _, _, _, _]) (by kernel_rfl) rfl rfl (M.cellsAt (k := 8) 0 rfl rfl)) (res_tmp rfl) ?_
  exact ⟨rfl, M.drop 0⟩
end Go.Proofs.YtndabhdepjnbcaaGreat

namespace Go.Proofs.YtndabhdepjnbcaaGreat
open Go.RowKit Go.Sort
variable {ds : List Deferred}
/-- cells in a row of one's own are set -/
theorem st_storeRow {P : Program} {ops : Array Oper} {Q : Exit → Act → World → Prop} {rest : List Oper} {n : Nat} {a : Act} {L : List (Nat × Value)} {w w0 : World} {H : List Ent} {x y : Operand} {T : TypeId} {lo hi e sz m j o' kk : Nat} {v u : Value} {cs us : List Value} {bb : Nat}
    (S : SeesD ds n a L) (M : Mem w0 w H) (pos : Nat) {t : TypeId} {p : String} {ed : Array Edge} {g : Option (Nat × Bool)} (hg : gd ops L ⟨none, .store T x y, t, p, ed, g⟩ = some true) (hT : (P.info? T).map (·.size) = some kk)
    (hx : val L x = some (.pointer (some ⟨bb, o', none⟩))) (hb : bb = (adr v).block) (ho : o' = (adr v).off + j) (hy : val L y = some u) (hu : u.cells.toList = us) (hsz : us.length = kk) (h1 : allOne us = true) (hp : H[pos]? = some (rowE lo hi e sz v m cs)) (hm : 0 < m) (hcl : cs.length = m * sz) (hle : j + us.length ≤ cs.length)
    (k : ∀ w' lo' hi', Mem w0 w' (rowE lo' hi' e sz v m (putL cs j us) :: H.eraseIdx pos) → wpList P ops Q rest a w') : wpList P ops Q (⟨none, .store T x y, t, p, ed, g⟩ :: rest) a w := by
  obtain ⟨gb, cap, more, rfl, hc1, hc2, hc3, M1⟩ := (M.front pos hp).ofRow hm
  simp only [adr] at hb ho
  subst hb ho
  rw [Nat.zero_add] at hx
  refine st_store (us := us) S M1 0 hg hT hx hy hu hsz h1 rfl (by rw [List.length_append]; omega) fun w' M2 => ?_
  simp only [List.set_cons_zero] at M2
  have e1 : putL (cs ++ more) j us = putL cs j us ++ more := by
    rw [putL_eq _ _ _ (by rw [List.length_append]; omega), putL_eq _ _ _ hle, List.take_append_of_le_length (by omega), List.drop_append_of_le_length (by omega)]
    simp only [List.append_assoc]
  rw [e1] at M2
  have hl : (putL cs j us).length = m * sz := by rw [putL_length]; exact hcl
  exact k w' _ _ (M2.toRow (sz := sz) (m := m) (cap := cap) (xs := putL cs j us) 0 rfl hl hc1 hc2 (by rw [List.size_toArray, List.length_append, hl, ← hc3, List.length_append, hcl]) (by rw [List.toList_toArray, ← hl]; exact List.take_left))
end Go.Proofs.YtndabhdepjnbcaaGreat

namespace Go.Proofs.YtndabhdepjnbcaaGreat
open Go.RowKit Go.Sort
theorem cloneP_any (v : Value) (m : Nat) (cs : List Value) (w : World) (hv : Rd 0 w.heap.size w 6 v m cs) (hl : m ≤ 1000000) (h1 : allOne cs = true) : Calls Tryz.prog 57 #[v] w fun e w' => ∃ v', e = .returned v' ∧ Fresh w w' 75 6 v' m cs := by
  have M := Mem.start w
  refine calls_enter Tryz.func57 rfl 8 rfl rfl ?_; intro a S
  refine nxD ?_
  refine st_go [1] S rfl (by kernel_rfl) ?_; clear S a; intro a S
  refine nxC ?_
  refine wp_seq ?_
  refine nxD ?_
  refine st_go [1] S rfl (by kernel_rfl) ?_; clear S a; intro a S
  refine st_y S rfl rfl rfl (y_eqlNil (e := 75) S rfl (M.arg hv) (by kernel_rfl)) ?_; clear S a; intro a S
  refine nxC ?_
  refine st_split (t := 4) S rfl ?_ ?_
  · clear S; intro h4 S
    refine st_condT S rfl ?_
    refine nxD ?_
    refine st_go [1] S rfl (by kernel_rfl) ?_; clear S a; intro a S
    refine nxC ?_
    refine wp_ret ?_
    refine then_ret ?_
    refine end_one S rfl (res_tmp rfl) ?_
    obtain ⟨rfl, h0, h1⟩ := hv.nilV h4
    exact ⟨_, rfl, by rw [h1, h0]; exact M.freshNil _ _⟩
  clear S; intro h4 S
  refine st_condF S rfl ?_
  refine wp_skip ?_
  refine nxE ?_
  refine st_lit0 (e := 75) (sz := 6) (by_ := 64) (zc := [.int .i64 0, .int .i64 0, .int .i64 0, .slice none 0 0, .int .i64 0, .int .i64 0]) S M rfl rfl (by kernel_rfl) ?_; clear S M a; intro a w1 b1 S M hB
  refine st_go [1] S rfl (by kernel_rfl) ?_; clear S a; intro a S
  replace M := M.toRow (sz := 6) (m := 0) (cap := 0) (xs := []) 0 rfl rfl (Nat.le_refl _) (Nat.zero_le _) rfl rfl
  refine st_append (e := 75) (sz := 6) (by_ := 64) (zc := [.int .i64 0, .int .i64 0, .int .i64 0, .slice none 0 0, .int .i64 0, .int .i64 0]) S M 0 rfl rfl (by kernel_rfl) rfl (by decide) rfl rfl rfl (M.arg hv) (h1) (by omega) (by unfold maxLen; omega) ?_; clear S M a; intro a w2 vA loA hiA S M
  refine st_go [1] S rfl (by kernel_rfl) ?_; clear S a; intro a S
  refine nxC ?_
  refine wp_ret ?_
  refine end_one S rfl (res_tmp rfl) ?_
  exact ⟨_, rfl, by have := M.fresh 0 rfl; rwa [Nat.zero_add, List.nil_append] at this⟩
theorem putL_wr {p : Pr} {lv v' : Value} {ck rest : List Value} {k : Nat} (hk : ck.length = k * 6) : putL (ck ++ (p.cellsL lv ++ rest)) (k * 6 + 3) [v'] = (ck ++ p.cellsL v') ++ rest := by
  rw [putL_eq _ _ _ (by simp only [List.length_append, hk]; show _ ≤ k * 6 + (6 + _); simp; omega)]
  have e1 : (ck ++ (p.cellsL lv ++ rest)).take (k * 6 + 3) = ck ++ [.int .i64 p.name.stamp, .int .i64 p.name.inc, .int .i64 p.name.try_] := by
    rw [List.take_append, hk, List.take_of_length_le (by omega), Nat.add_sub_cancel_left]; rfl
  have e2 : (ck ++ (p.cellsL lv ++ rest)).drop (k * 6 + 3 + [v'].length) = [.int .i64 p.give, .int .i64 p.take] ++ rest := by
    rw [show k * 6 + 3 + [v'].length = ck.length + 4 by rw [hk]; rfl, List.drop_append, List.drop_of_length_le (by omega), List.nil_append, Nat.add_sub_cancel_left]; rfl
  rw [e1, e2]; simp
set_option maxHeartbeats 1000000 in
theorem copied11_any (da : Option Addr) (dc : Nat) (cs : List Value) (ps : Pl) (w : World) (hd : PrsC cs 0 w.heap.size w (.slice da ps.length dc) ps) (hps : ps.length ≤ 1000) (hws : ∀ (i : Nat) (q : Pr × List Wr), ps[i]? = some q → q.2.length ≤ 1000000) (hcl : cs.length = ps.length * 6) (h1 : allOne cs = true) :
    Calls Tryz.prog 34 #[.slice da ps.length dc] w fun e w' => ∃ (ra : Option Addr) (rc lo hi : Nat) (cs2 : List Value) (es2 : List Ent), e = .returned (.slice ra ps.length rc) ∧ Mem w w' (rowE lo hi 75 6 (.slice ra ps.length rc) ps.length cs2 :: es2) ∧ PrBk cs2 ps es2 := by
  have M := Mem.start w
  refine calls_enter Tryz.func34 rfl 24 rfl rfl ?_; intro a S
  refine nxD ?_
  refine st_go [1] S rfl (by kernel_rfl) ?_; clear S a; intro a S
  refine nxA ?_
  refine st_go [1] S rfl (by kernel_rfl) ?_; clear S a; intro a S
  refine st_call (xs := [(Operand.tmp 5)]) S (enters_of Tryz.func57 (by decide) rfl) rfl rfl rfl (cloneP_any _ ps.length cs _ (M.argW hd.1) (by omega) h1) ?_
  rintro _ w1 ⟨v2, rfl, hF⟩; refine ⟨_, rfl, ?_⟩; clear S a; intro a S
  obtain ⟨lo, hi, -, M1⟩ := M.pushFresh hF; clear M; have M := M1; clear M1
  obtain ⟨ra, rc, rfl, -, -⟩ := (M.readAll 0 rfl (by unfold maxLen; omega)).form
  refine st_go [1] S rfl (by kernel_rfl) ?_; clear S a; intro a S
  refine nxC ?_
  refine wp_seq ?_
  refine nxD ?_
  refine st_go [1] S rfl (by kernel_rfl) ?_; clear S a; intro a S
  refine st_y S rfl rfl rfl (y_lenS (E := 75) S rfl (by kernel_rfl)) ?_; clear S a; intro a S
  refine st_go [1] S rfl (by kernel_rfl) ?_; clear S a; intro a S
  refine nxC ?_
  refine wp_block ?_
  refine wp_loop_g (fun m a w' => ∃ (k : Nat) (ck : List Value) (es : List Ent) (lo hi : Nat), k ≤ ps.length ∧ m = ps.length - k ∧ PrBk ck (ps.take k) es ∧ Sees 24 a [(3, .slice ra ps.length rc), (8, .int .i64 (ps.length : Int)), (9, .int .i64 (k : Int))] ∧ Mem w w' (rowE lo hi 75 6 (.slice ra ps.length rc) ps.length (ck ++ cs.drop (k * 6)) :: es)) (ps.length) ?_ ?_
  · skip
    exact ⟨0, [], [], lo, hi, Nat.zero_le _, rfl, PrBk.nil, S.sub _ rfl, by rw [Nat.zero_mul, List.drop_zero]; exact M⟩
  clear S M a; intro m a wl
  rintro ⟨k, ck, es, lo, hi, hk, rfl, hBk, S, M⟩
  refine nxD ?_
  refine st_go [1] S rfl (by kernel_rfl) ?_; clear S a; intro a S
  refine nxC ?_
  refine wp_seq ?_
  refine st_fi (t := 10) S rfl ?_ ?_
  · clear S; intro h10 S
    refine st_condF S rfl ?_
    refine wp_exit ?_
    refine then_exit ?_
    refine then_exit ?_
    refine block_hit ?_
    refine nxE ?_
    refine st_go [1, 1] S rfl (by kernel_rfl) ?_; clear S a; intro a S
    refine nxC ?_
    refine wp_ret ?_
    refine end_one S rfl (res_tmp rfl) ?_
    obtain rfl : k = ps.length := by omega
    rw [List.take_length] at hBk
    rw [List.drop_of_length_le (by omega), List.append_nil] at M
    exact ⟨ra, rc, lo, hi, ck, es, rfl, M, hBk⟩
  clear S; intro h10 S
  refine st_condT S rfl ?_
  refine wp_skip ?_
  refine then_normal ?_
  refine wp_seq ?_
  refine wp_block ?_
  refine nxD ?_
  refine st_go [1, 1] S rfl (by kernel_rfl) ?_; clear S a; intro a S
  refine nxC ?_
  have hk' : k < ps.length := by omega
  obtain ⟨q, hq⟩ : ∃ q, ps[k]? = some q := ⟨_, List.getElem?_eq_getElem hk'⟩
  obtain ⟨ad, cp, hrow, hw⟩ := hd.sl hq
  have hck : ck.length = k * 6 := by rw [hBk.1, List.length_take, Nat.min_eq_left hk]
  have hdr : cs.drop (k * 6) = q.1.cellsL (.slice ad q.2.length cp) ++ cs.drop ((k + 1) * 6) := by
    rw [← hrow, show (k + 1) * 6 = k * 6 + 6 by omega, ← List.drop_drop, List.take_append_drop]
  have hrl : (ck ++ cs.drop (k * 6)).length = ps.length * 6 := by rw [List.length_append, hck, List.length_drop, hcl]; omega
  have hrow2 : ((ck ++ cs.drop (k * 6)).drop (k * 6)).take 6 = q.1.cellsL (.slice ad q.2.length cp) := by
    rw [List.drop_append_of_le_length (by omega), List.drop_of_length_le (by omega), List.nil_append]; exact hrow
  refine wp_region_lit ?_
  refine st_go [1, 1, 1, 1] S rfl (by kernel_rfl) ?_; clear S a; intro a S
  refine st_y S rfl rfl rfl (y_indexR (e := 75) (sz := 6) S (by kernel_rfl) rfl ((M.readAll 0 rfl (by unfold maxLen; omega))) rfl (by first | omega | (simp; done) | (simp; omega))) ?_; clear S a; intro a S
  try simp only [Int.toNat_natCast, Nat.mul_one, Nat.zero_add] at S
  refine st_go [4] S rfl (by kernel_rfl) ?_; clear S a; intro a S
  refine st_y S rfl rfl rfl (y_load S (by kernel_rfl) rfl (((M.readAll 0 rfl (by unfold maxLen; omega)).at_.row (i := k) hrow2 rfl) 3 (by show 3 < 6; omega))) ?_; clear S a; intro a S
  refine st_call (xs := [(Operand.tmp 18)]) S (enters_of Tryz.func58 (by decide) rfl) rfl rfl rfl (cloneW_any _ q.2 _ (M.argW hw) (hws k q hq)) ?_
  rintro _ w2 ⟨v3, rfl, hF⟩; refine ⟨_, rfl, ?_⟩; clear S a; intro a S
  obtain ⟨wa, wcp, rfl, -, -⟩ := (hF.rd (by have := hws k q hq; unfold maxLen; omega)).form
  obtain ⟨lo1, hi1, -, M1⟩ := M.pushFresh hF; clear M; have M := M1; clear M1
  refine st_y S rfl rfl rfl (y_indexR (e := 75) (sz := 6) S (by kernel_rfl) rfl ((M.readAll 1 rfl (by unfold maxLen; omega))) rfl (by first | omega | (simp; done) | (simp; omega))) ?_; clear S a; intro a S
  try simp only [Int.toNat_natCast, Nat.mul_one, Nat.zero_add] at S
  refine st_go [4] S rfl (by kernel_rfl) ?_; clear S a; intro a S
  refine st_storeRow (v := .slice ra ps.length rc) (sz := 6) (m := ps.length) (j := k * 6 + 3) (us := [.slice wa q.2.length wcp]) S M 1 rfl (by kernel_rfl) rfl rfl (by first | rfl | omega | (simp only [Int.toNat_natCast]; omega)) rfl rfl rfl rfl rfl (by omega) hrl (by rw [hrl]; show k * 6 + 3 + 1 ≤ _; omega) ?_; clear M; intro wz lo9 hi9 M
  simp only [List.eraseIdx_cons_succ, List.eraseIdx_cons_zero] at M
  rw [hdr, putL_wr hck] at M
  refine wpList_nil ?_
  refine block_normal ?_
  refine nxF ?_
  (first | refine st_y S rfl rfl rfl (y_addN S rfl rfl (by omega)) ?_ | refine st_y S rfl rfl rfl (y_int S rfl rfl rfl) ?_); clear S a; intro a S
  refine st_go [1] S rfl (by kernel_rfl) ?_; clear S a; intro a S
  refine nxC ?_
  skip
  have hB2 := hBk.more (q := q) (ad := wa) (cp := wcp) (lo := lo1) (hi := hi1) (hws k q hq)
  rw [← take_snocP hq] at hB2
  exact ⟨ps.length - (k + 1), by omega, k + 1, _, _, lo9, hi9, by omega, rfl, hB2, S.sub _ rfl, M⟩
set_option maxHeartbeats 1000000 in
set_option maxRecDepth 10000 in
theorem doubt11_any {wc w : World} {H : List Ent} {b bd : Nat} {s : Sh} {da : Option Addr} {dc : Nat} {cs : List Value} {es : List Ent} (M : Mem wc w (shE b bd s (.slice da s.ps.length dc) :: H)) (hd : ∀ W pre, Mem wc W (pre ++ (shE b bd s (.slice da s.ps.length dc) :: H)) → PrsC cs 0 W.heap.size W (.slice da s.ps.length dc) s.ps) (hBk : PrBk cs s.ps es) (hl : s.h.length = 32) (hps : s.ps.length ≤ 8) :
    Calls Tryz.prog 20 #[pB b] w fun e w' => ∃ (ra : Option Addr) (rc lo hi : Nat) (cs2 : List Value) (es2 : List Ent), e = .returned (.slice ra s.ps.length rc) ∧ PrBk cs2 s.ps es2 ∧ Mem wc w' (rowE lo hi 75 6 (.slice ra s.ps.length rc) s.ps.length cs2 :: (es2 ++ (shE b bd s (.slice da s.ps.length dc) :: H))) := by
  refine calls_enter Tryz.func20 rfl 11 rfl rfl ?_; intro a S
  refine wp_seq ?_
  skip
  refine wp_region_lit ?_
  refine st_go [1] S rfl (by kernel_rfl) ?_; clear S a; intro a S
  refine nxC ?_
  refine wp_seq ?_
  refine nxD ?_
  refine st_go [1] S rfl (by kernel_rfl) ?_; clear S a; intro a S
  refine st_y S rfl rfl rfl (y_eqlPS (by kernel_rfl) S rfl) ?_; clear S a; intro a S
  refine nxC ?_
  refine st_condF S rfl ?_
  refine wp_skip ?_
  refine nxE ?_
  refine st_go [1, 1, 2, 272] S rfl (by kernel_rfl) ?_; clear S a; intro a S
  refine st_y S rfl rfl rfl (y_load S (by kernel_rfl) rfl (M.cell 0 rfl (shC_doubt hl))) ?_; clear S a; intro a S
  refine st_call (xs := [(Operand.tmp 9)]) S (enters_of Tryz.func34 (by decide) rfl) rfl rfl rfl (copied11_any da dc cs s.ps _ (hd _ [] M) (by omega) hBk.short hBk.1 hBk.2.1) ?_
  rintro _ w1 ⟨ra, rc, lo2, hi2, cs2, es2, rfl, M2, hB2⟩; refine ⟨_, rfl, ?_⟩; clear S a; intro a S
  replace M := M.join M2
  refine st_go [1] S rfl (by kernel_rfl) ?_; clear S a; intro a S
  refine nxC ?_
  refine wp_ret ?_
  refine end_one S rfl (res_tmp rfl) ?_
  exact ⟨ra, rc, lo2, hi2, cs2, es2, rfl, hB2, M⟩
end Go.Proofs.YtndabhdepjnbcaaGreat

namespace Go.Proofs.YtndabhdepjnbcaaGreat
open Go.RowKit Go.Sort
/-- where an act has led -/
structure WentTo (wc : World) (A : List Ent) (b bd : Nat) (s s' : Sh) (N : Int) (w' : World) : Prop where
  it : ∃ S', ShI S' s' N ∧ ShM wc w' A b bd s' S'
  inc : s'.x.inc = s.x.inc
theorem come_pre {s s1 : Sh} {S0 S1 : DS} {N : Int} (hI : ShI S0 s N) (hN : N + 1 ≤ 1000) (h : (s1 = s ∧ S1 = S0) ∨ (s1 = s.save ∧ S1 = s.saveD S0)) : ShI S1 s1 (N + 1) ∧ s1.ps = s.ps ∧ s1.h = s.h ∧ s1.x.inc = s.x.inc ∧ s1.x.owned = s.x.owned := by
  rcases h with ⟨rfl, rfl⟩ | ⟨rfl, rfl⟩
  · exact ⟨hI.mono (by omega) hN, rfl, rfl, rfl, rfl⟩
  · exact ⟨hI.save hN, rfl, rfl, rfl, rfl⟩
theorem go_prep {wc w' : World} {A : List Ent} {b bd : Nat} {s : Sh} {S0 : DS} {N : Int} {r : Rc} {x : List Wr} (hI : ShI S0 s N) (hN : N + 2 ≤ 1000) (hok : PrepOk s r x) (h8 : wQ s.ps + (nOf (r.enc x).length + 1) ≤ 8) (h : ComeP wc A b bd s S0 r x (wQ s.ps + (nOf (r.enc x).length + 1) : Nat) w') :
    ∃ s', s'.h = s.h ∧ s'.ps = s.ps ++ [(prOf r, x)] ∧ WentTo wc A b bd s s' (N + 2) w' := by
  obtain ⟨s1, S1, h1, h2, hM⟩ := h
  obtain ⟨hm, hk, hf⟩ := hok
  obtain ⟨hI1, e1, e2, e3, -⟩ := come_pre hI (by omega) h1
  have hst : stepO s1.ps r x = (s1.ps ++ [(prOf r, x)], []) := by unfold stepO; rw [if_neg (by omega), if_pos hk, e1, hf]
  have hpr : prRc (prOf r) = r := prRc_prOf hm hk
  have hmq : mayQ (prOf r, x) := by unfold mayQ; rw [hpr]; exact hm
  have hsq : secQ (prOf r, x) = nOf (r.enc x).length := by unfold secQ encQ; rw [hpr]
  have hW : wQ (s1.ps ++ [(prOf r, x)]) = wQ s.ps + (nOf (r.enc x).length + 1) := by
    unfold wQ; rw [wtP_snoc, hsq, e1, List.length_append, List.length_singleton]; omega
  have hm1 := hI1.mq
  refine ⟨s1.keep r x, by show onF s1.h (stepO s1.ps r x).2 = _; rw [hst]; exact e2, by show (stepO s1.ps r x).1 = _; rw [hst, e1], ⟨⟨_, ?_, hM⟩, e3⟩⟩
  have := hI1.keep (r := r) (x := x) (fl := true) (by omega) hm (by
    rw [hst]; intro q hq
    rcases List.mem_append.1 hq with hq | hq
    · exact hm1 q hq
    · rw [List.mem_singleton.1 hq]; exact hmq) (by rw [hst]; show wQ _ ≤ 8; rw [hW]; exact h8) (by rw [hst]; show s1.n + _ + ((wQ (s1.ps ++ [(prOf r, x)]) : Nat) : Int) ≤ _; rw [hW]; omega)
  rw [show N + 2 = N + 1 + 1 by omega]; exact this
theorem wQ_erase {ps : Pl} {k : Nat} {q : Pr × List Wr} (hq : ps[k]? = some q) : wQ (ps.eraseIdx k) + (secQ q + 1) = wQ ps := by
  have hl := (List.getElem?_eq_some_iff.1 hq).1
  have h1 : wtP ps = wtP (ps.take (k + 1)) + wtP (ps.drop (k + 1)) := by rw [← wtP_append, List.take_append_drop]
  unfold wQ
  rw [List.eraseIdx_eq_take_drop_succ, wtP_append, h1, wtP_take hq, List.length_append, List.length_take, List.length_drop]
  omega
theorem go_out {wc w' : World} {A : List Ent} {b bd : Nat} {s : Sh} {S0 : DS} {N : Int} {nm : Nm} {y : Bool} {k : Nat} (hI : ShI S0 s N) (hN : N + 2 ≤ 1000) (hf : findP nm s.ps = some k) (hM : ShM wc w' A b bd (s.keep (r3 nm y) []) (s.keepD S0 (r3 nm y) [] y)) :
    ∃ q, s.ps[k]? = some q ∧ q.1.name = nm ∧ (s.keep (r3 nm y) []).h = onF s.h (if y = true then q.2 else []) ∧ (s.keep (r3 nm y) []).ps = s.ps.eraseIdx k ∧ WentTo wc A b bd s (s.keep (r3 nm y) []) (N + 2) w' := by
  obtain ⟨q, hq, hqn⟩ := findP_name hf
  have hmq := hI.mq q (List.mem_of_getElem? hq)
  have hm : (r3 nm y).may [] = true := r3_may y (by rw [← hqn]; exact mayQ_name hmq)
  have hno : nOf ((r3 nm y).enc []).length ≤ 2 := by have := enc_len hm; unfold nOf; omega
  have hst : stepO s.ps (r3 nm y) [] = (s.ps.eraseIdx k, if y = true then q.2 else []) := by
    unfold stepO
    rw [if_neg (show ¬ (3 : Int) = 1 by decide), if_neg (show ¬ (3 : Int) = 2 by decide), show (r3 nm y).name = nm from rfl, hf]
    simp only [hq]
  have hw := hI.w8
  have hwe := wQ_erase hq
  have hrm := hI.room
  have hsq := secQ_le hmq
  have e8 : wQ s.ps = wtP s.ps + s.ps.length := rfl
  refine ⟨q, hq, hqn, by show onF s.h (stepO s.ps (r3 nm y) []).2 = _; rw [hst], by show (stepO s.ps (r3 nm y) []).1 = _; rw [hst], ⟨⟨_, ?_, hM⟩, rfl⟩⟩
  have := hI.keep (r := r3 nm y) (x := []) (fl := y) (by omega) hm (by
    rw [hst]; intro p hp
    exact hI.mq p (List.mem_of_mem_eraseIdx hp)) (by rw [hst]; show wQ (s.ps.eraseIdx k) ≤ 8; omega) (by rw [hst]; show s.n + _ + ((wQ (s.ps.eraseIdx k) : Nat) : Int) ≤ _; omega)
  exact this.mono (by omega) hN
def sh1 : Sh := sh0.begun suFirst
theorem sh1_may : (begSu sh0 suFirst).may := by unfold Su.may; refine ⟨fun k hk => ?_, by decide⟩; rcases lt8 hk with rfl | rfl | rfl | rfl | rfl | rfl | rfl | rfl <;> decide
theorem sh1_I : ShI (DS.new.write ((suFirst.gen + 1) % 2) (supS (begSu sh0 suFirst))).flush sh1 2 := by
  refine ⟨rfl, fun k => by show ((0 : Nat) : Int) ≤ _; decide, rfl, fun q hq => (by cases hq), sh1_may, by decide, by decide, by decide, by decide, by decide, by decide⟩
end Go.Proofs.YtndabhdepjnbcaaGreat

namespace Go.Proofs.YtndabhdepjnbcaaGreat
open Go.RowKit Go.Sort
def wkV (z : UInt8) : V8 := ⟨z, 0, 0, 0, 0, 0, 0, 0⟩
def wkW (z : UInt8) : List Wr := (List.range 8).map fun i : Nat => (⟨3 * (i : Int), wkV z⟩ : Wr)
theorem wkW_take (z : UInt8) {k : Nat} (h : k < 8) : (wkW z).take (k + 1) = (wkW z).take k ++ [⟨3 * (k : Int), wkV z⟩] := by
  have e : (wkW z)[k]? = some ⟨3 * (k : Int), wkV z⟩ := by
    unfold wkW
    rw [List.getElem?_map, List.getElem?_range h]; rfl
  rw [List.take_add_one, e]; rfl
theorem writes11_any (z : UInt8) (w : World) : Calls Tryz.prog 25 #[.int .u8 (z.toNat : Int)] w fun e w' => ∃ (oa : Option Addr) (oc : Nat), e = .returned (.slice oa 8 oc) ∧ Fresh w w' 60 9 (.slice oa 8 oc) 8 (wcells (wkW z)) := by
  have M := Mem.start w
  refine calls_enter Tryz.func25 rfl 18 rfl rfl ?_; intro a S
  refine nxD ?_
  refine st_go [1] S rfl (by kernel_rfl) ?_; clear S a; intro a S
  refine nxA ?_
  refine st_go [1] S rfl (by kernel_rfl) ?_; clear S a; intro a S
  refine nxC ?_
  refine wp_seq ?_
  refine nxD ?_
  refine st_go [1] S rfl (by kernel_rfl) ?_; clear S a; intro a S
  refine nxC ?_
  refine wp_block ?_
  refine wp_loop_g (fun m a w' => ∃ (k : Nat) (oa : Option Addr) (oc lo hi : Nat), k ≤ 8 ∧ m = 8 - k ∧ Sees 18 a [(0, .int .u8 (z.toNat : Int)), (3, .slice oa k oc), (4, .int .i64 (k : Int))] ∧ Mem w w' [rowE lo hi 60 9 (.slice oa k oc) k (wcells ((wkW z).take k))]) (8) ?_ ?_
  · skip
    exact ⟨0, none, 0, _, _, Nat.zero_le _, rfl, S.sub _ rfl, M.rowNil 60 9⟩
  clear S M a; intro m a wl
  rintro ⟨k, oa, oc, lo, hi, hk, rfl, S, M⟩
  refine wp_seq ?_
  refine nxD ?_
  refine st_go [1, 1] S rfl (by kernel_rfl) ?_; clear S a; intro a S
  refine nxC ?_
  refine st_fi (t := 6) S rfl ?_ ?_
  · clear S; intro h6 S
    refine st_condF S rfl ?_
    refine wp_exit ?_
    refine then_exit ?_
    refine then_exit ?_
    refine block_hit ?_
    refine nxE ?_
    refine st_go [1, 1] S rfl (by kernel_rfl) ?_; clear S a; intro a S
    refine nxC ?_
    refine wp_ret ?_
    refine end_one S rfl (res_tmp rfl) ?_
    obtain rfl : k = 8 := by omega
    rw [show (wkW z).take 8 = wkW z from rfl] at M
    exact ⟨oa, oc, rfl, M.fresh 0 rfl⟩
  clear S; intro h6 S
  refine st_condT S rfl ?_
  refine wp_skip ?_
  refine then_normal ?_
  refine wp_seq ?_
  refine wp_block ?_
  refine wp_region_lit ?_
  refine st_go [1, 1] S rfl (by kernel_rfl) ?_; clear S a; intro a S
  (first | refine st_y S rfl rfl rfl (y_mulN S rfl rfl (by omega)) ?_ | refine st_y S rfl rfl rfl (y_int S rfl rfl rfl) ?_); clear S a; intro a S
  refine st_go [1] S rfl (by kernel_rfl) ?_; clear S a; intro a S
  refine st_y S rfl rfl rfl (y_buildA (ps := [(0, (Operand.tmp 12))]) (sz := 1) (z := [.int .u8 0, .int .u8 0, .int .u8 0, .int .u8 0, .int .u8 0, .int .u8 0, .int .u8 0, .int .u8 0]) (cs := [_, _, _, _, _, _, _, _]) S (by kernel_rfl) rfl rfl) ?_; clear S a; intro a S
  refine st_y S rfl rfl rfl (y_build (ps := [(0, (Operand.tmp 11)), (1, (Operand.tmp 13))]) (pl := [(0, 1), (1, 8)]) (z := [.int .i64 0, .int .u8 0, .int .u8 0, .int .u8 0, .int .u8 0, .int .u8 0, .int .u8 0, .int .u8 0, .int .u8 0]) (cs := [_, _, _, _, _, _, _, _, _]) S (by kernel_rfl) rfl (rfl)) ?_; clear S a; intro a S
  refine st_lit (ps := [(0, (Operand.tmp 14))]) (e := 60) (sz := 9) (zl := [.int .i64 0, .int .u8 0, .int .u8 0, .int .u8 0, .int .u8 0, .int .u8 0, .int .u8 0, .int .u8 0, .int .u8 0]) (cs := [_, _, _, _, _, _, _, _, _]) S M rfl rfl (by kernel_rfl) rfl (rfl) ?_; clear S M a; intro a w1 bZ S M hB
  refine st_append (e := 60) (sz := 9) (by_ := 16) (zc := [.int .i64 0, .int .u8 0, .int .u8 0, .int .u8 0, .int .u8 0, .int .u8 0, .int .u8 0, .int .u8 0, .int .u8 0]) S M 1 rfl rfl (by kernel_rfl) rfl (by decide) rfl rfl rfl (show Rd _ _ _ 9 _ 1 [.int .i64 (3 * (k : Int)), .int .u8 (z.toNat : Int), .int .u8 0, .int .u8 0, .int .u8 0, .int .u8 0, .int .u8 0, .int .u8 0, .int .u8 0] from M.sliceAt 0 rfl (M.cellsAt (k := 9) 0 rfl rfl) rfl (Nat.le_refl _) (by unfold maxLen; omega)) (rfl) (by omega) (by unfold maxLen; omega) ?_; clear S M a; intro a w2 vA loA hiA S M
  obtain ⟨aA, cA, rfl, -, -⟩ := (M.readAll 0 rfl (by unfold maxLen; omega)).form
  replace M := M.drop 1
  simp only [List.eraseIdx_cons_succ, List.eraseIdx_cons_zero] at M
  refine st_y S rfl rfl rfl (y_assign S rfl) ?_; clear S a; intro a S
  refine wpList_nil ?_
  refine block_normal ?_
  refine nxF ?_
  refine st_go [1] S rfl (by kernel_rfl) ?_; clear S a; intro a S
  (first | refine st_y S rfl rfl rfl (y_addN S rfl rfl (by omega)) ?_ | refine st_y S rfl rfl rfl (y_int S rfl rfl rfl) ?_); clear S a; intro a S
  refine st_go [1] S rfl (by kernel_rfl) ?_; clear S a; intro a S
  refine nxC ?_
  skip
  refine ⟨8 - (k + 1), by omega, k + 1, aA, cA, loA, hiA, by omega, rfl, S.sub _ rfl, ?_⟩
  rw [wkW_take z (by omega), show wcells ((wkW z).take k ++ [⟨3 * (k : Int), wkV z⟩]) = wcells ((wkW z).take k) ++ [.int .i64 (3 * (k : Int)), .int .u8 (z.toNat : Int), .int .u8 0, .int .u8 0, .int .u8 0, .int .u8 0, .int .u8 0, .int .u8 0, .int .u8 0] by rw [wcells_append]; rfl]
  exact M
/-! ### wakes, plainly -/
def wkR (k : Nat) : Rc := { Rc.zero with kind := 2, name := ⟨(k : Int) + 1, 1, 1⟩ }
def wkX (k : Nat) : List Wr := wkW (byteOf ((k : Int) + 1))
def psW : Nat → Pl
  | 0 => []
  | 1 => [(prOf (wkR 0), wkX 0)]
  | _ => [(prOf (wkR 0), wkX 0), (prOf (wkR 1), wkX 1)]
def gotW (k : Nat) : Int := if k < 2 then 0 else 50
def zHm : List V8 := List.replicate 32 zV8
theorem lt3 {k : Nat} (h : k < 3) : k = 0 ∨ k = 1 ∨ k = 2 := by omega
theorem wkR_may {k : Nat} (h : k < 3) : (wkR k).may (wkX k) = true := by
  rcases lt3 h with rfl | rfl | rfl <;> decide +kernel
theorem wkR_no {k : Nat} (h : k < 3) : nOf ((wkR k).enc (wkX k)).length = 2 := by
  rcases lt3 h with rfl | rfl | rfl <;> decide +kernel
theorem wkR_find {k : Nat} (h : k < 3) : findP (wkR k).name (psW k) = none := by
  rcases lt3 h with rfl | rfl | rfl <;> decide +kernel
theorem psW_w {k : Nat} (h : k < 3) : wQ (psW k) = 3 * min k 2 := by
  rcases lt3 h with rfl | rfl | rfl <;> decide +kernel
theorem wkStep {w w' : World} {A : List Ent} {b bd : Nat} {s : Sh} {S0 : DS} {er : Int} {k : Nat} (hk : k < 3) (hps : s.ps = psW k) (hh : s.h = zHm) (hinc : s.x.inc = 1) (hI : ShI S0 s (2 + 2 * (k : Int)))
    (h : (er = 0 ∧ PrepOk s (wkR k) (wkX k) ∧ wQ s.ps + (nOf ((wkR k).enc (wkX k)).length + 1) ≤ 8 ∧ ComeP w A b bd s S0 (wkR k) (wkX k) (wQ s.ps + (nOf ((wkR k).enc (wkX k)).length + 1) : Nat) w') ∨ (er ≠ 0 ∧ (PrepOk s (wkR k) (wkX k) → er = 50 ∧ 8 < wQ s.ps + (nOf ((wkR k).enc (wkX k)).length + 1)) ∧ ShM w w' A b bd s S0)) :
    er = gotW k ∧ ∃ s' S', s'.ps = psW (k + 1) ∧ s'.h = zHm ∧ s'.x.inc = 1 ∧ ShI S' s' (2 + 2 * ((k + 1 : Nat) : Int)) ∧ ShM w w' A b bd s' S' := by
  have hok : PrepOk s (wkR k) (wkX k) := ⟨wkR_may hk, rfl, by rw [hps]; exact wkR_find hk⟩
  have hw : wQ s.ps = 3 * min k 2 := by rw [hps]; exact psW_w hk
  have hn := wkR_no hk
  have hN : 2 + 2 * (k : Int) + 2 = 2 + 2 * ((k + 1 : Nat) : Int) := by omega
  rcases h with ⟨h1, -, h2, h3⟩ | ⟨h1, h2, h3⟩
  · obtain ⟨s', e1, e2, ⟨S', hI', hM'⟩, e3⟩ := go_prep hI (by omega) hok h2 h3
    rw [hN] at hI'
    refine ⟨?_, s', S', ?_, e1.trans hh, e3.trans hinc, hI', hM'⟩
    · unfold gotW; rw [if_pos (by omega)]; exact h1
    · rw [e2, hps]
      have : k = 0 ∨ k = 1 := by omega
      rcases this with rfl | rfl <;> rfl
  · obtain ⟨h4, h5⟩ := h2 hok
    have h6 : k = 2 := by omega
    subst h6
    refine ⟨h4, s, S0, hps, hh, hinc, hI.mono (by omega) (by omega), h3⟩
def got3 : List Int := [0, 0, 50]
theorem got3_take {k : Nat} (h : k < 3) : (got3.take (k + 1)).map (fun z => Value.int .i64 z) = (got3.take k).map (fun z => Value.int .i64 z) ++ [.int .i64 (gotW k)] := by
  rcases lt3 h with rfl | rfl | rfl <;> rfl
set_option maxHeartbeats 2000000 in
theorem wakes11_any (w : World) : Calls Tryz.prog 8 #[] w fun e w' => e = .returned (.bool true) ∧ Below w.heap.size w w' := by
  have M := Mem.start w
  refine calls_enter Tryz.func8 rfl 98 rfl rfl ?_; intro a S
  refine nxD ?_
  refine st_go [1] S rfl (by kernel_rfl) ?_; clear S a; intro a S
  refine nxA ?_
  refine st_call (xs := []) S (enters_of Tryz.func10 (by decide) rfl) rfl rfl rfl (new_any _) ?_
  rintro _ w1 ⟨bd, E, rfl, hE, M1⟩; refine ⟨_, rfl, ?_⟩; clear S a; intro a S; replace M := M.join M1; clear M1
  rw [List.append_nil] at M
  refine st_call (xs := [(Operand.tmp 11)]) S (enters_of Tryz.func9 (by decide) rfl) rfl rfl rfl (shOpen0_any (A := []) hE M) ?_
  rintro _ w2 ⟨b, rfl, hM⟩; refine ⟨_, rfl, ?_⟩; clear S M a; intro a S
  obtain ⟨da, dc, lo, hi, cs, es, E, hE, hBk, M⟩ := ShM.open (P := []) hM
  simp only [List.nil_append] at M
  refine st_go [1, 1, 1, 1, 1] S rfl (by kernel_rfl) ?_; clear S a; intro a S
  refine nxC ?_
  refine wp_seq ?_
  refine nxD ?_
  refine st_go [1, 1, 1] S rfl (by kernel_rfl) ?_; clear S a; intro a S
  refine st_if (t := 17) S rfl ?_ ?_
  · clear S; intro h17 S
    exact absurd rfl h17
  clear S; intro h17 S
  refine st_go [1] S rfl (by kernel_rfl) ?_; clear S a; intro a S
  refine st_y S rfl rfl rfl (y_eqlPS (by kernel_rfl) S rfl) ?_; clear S a; intro a S
  refine st_go [1] S rfl (by kernel_rfl) ?_; clear S a; intro a S
  refine nxC ?_
  refine st_condF S rfl ?_
  refine wp_skip ?_
  refine nxE ?_
  refine st_go [1] S rfl (by kernel_rfl) ?_; clear S a; intro a S
  refine st_call (xs := [(Operand.tmp 22)]) S (enters_of Tryz.func11 (by decide) rfl) rfl rfl rfl (begin11_any (A := []) suFirst (ShM.close (P := []) hE hBk M) rfl (fun k => Nat.zero_le _) gs_new sh1_may (by decide) (by decide) rfl) ?_
  rintro _ w3 ⟨rfl, hM⟩; refine ⟨_, rfl, ?_⟩; clear S M a; intro a S
  obtain ⟨da, dc, lo, hi, cs, es, E, hE, hBk, M⟩ := ShM.open (P := []) hM
  simp only [List.nil_append] at M
  have hM1 : ShM w w3 [] b bd sh1 _ := hM
  refine st_go [1, 1, 1, 1, 1] S rfl (by kernel_rfl) ?_; clear S a; intro a S
  replace S := S.sub [(0, _), (1, _), (2, _), (20, _), (3, _), (4, _)] rfl
  refine nxA ?_
  refine st_go [1] S rfl (by kernel_rfl) ?_; clear S a; intro a S
  refine nxC ?_
  refine wp_seq ?_
  refine nxD ?_
  refine st_go [1] S rfl (by kernel_rfl) ?_; clear S a; intro a S
  refine nxC ?_
  refine wp_block ?_
  refine wp_loop_g (fun m a w' => ∃ (k : Nat) (s : Sh) (S1 : DS) (ga : Option Addr) (gc lo hi : Nat), k ≤ 3 ∧ m = 3 - k ∧ s.ps = psW k ∧ s.h = zHm ∧ s.x.inc = 1 ∧ ShI S1 s (2 + 2 * (k : Int)) ∧ Sees 98 a [(1, pB b), (3, .int .i64 1), (4, .int .i64 0), (5, .slice ga k gc), (6, .int .i64 ((k : Int) + 1))] ∧ ShM w w' ([rowE lo hi 35 1 (.slice ga k gc) k ((got3.take k).map fun z => .int .i64 z)] ++ []) b bd s S1) (3) ?_ ?_
  · skip
    exact ⟨0, sh1, _, none, 0, _, _, Nat.zero_le _, rfl, rfl, rfl, rfl, sh1_I, S.sub _ rfl, ShM.close (P := [_]) hE hBk (M.rowNil 35 1)⟩
  clear S M a; intro m a wl
  rintro ⟨k, s, S1, ga, gc, lo, hi, hk, rfl, hps, hh, hinc, hI, S, hM⟩
  have hl : s.h.length = 32 := hI.hl
  obtain ⟨da, dc, lo1, hi1, cs, es, E, hE, hBk, M⟩ := ShM.open hM
  simp only [List.nil_append, List.cons_append] at M
  refine wp_seq ?_
  refine nxD ?_
  refine st_go [1, 1] S rfl (by kernel_rfl) ?_; clear S a; intro a S
  refine nxC ?_
  refine st_if (t := 27) S rfl ?_ ?_
  · clear S; intro h27 S
    refine st_condT S rfl ?_
    refine wp_skip ?_
    refine then_normal ?_
    refine wp_seq ?_
    refine wp_block ?_
    have hk3 : k < 3 := by omega
    refine wp_region_lit ?_
    refine st_go [1, 1, 1] S rfl (by kernel_rfl) ?_; clear S a; intro a S
    refine st_y S rfl rfl rfl (y_build (ps := [(0, (Operand.tmp 32)), (1, (Operand.const (Value.int IntKind.i64 1))), (2, (Operand.const (Value.int IntKind.i64 1)))]) (pl := [(0, 1), (1, 1), (2, 1)]) (z := [.int .i64 0, .int .i64 0, .int .i64 0]) (cs := [_, _, _]) S (by kernel_rfl) rfl (rfl)) ?_; clear S a; intro a S
    refine st_go [1] S rfl (by kernel_rfl) ?_; clear S a; intro a S
    refine st_y S rfl rfl rfl (y_to8 S rfl (by kernel_rfl) (by kernel_rfl)) ?_; clear S a; intro a S
    refine st_call (xs := [(Operand.tmp 35)]) S (enters_of Tryz.func25 (by decide) rfl) rfl rfl rfl (writes11_any (byteOf ((k : Int) + 1)) _) ?_
    rintro _ w4 ⟨wa, wc9, rfl, hF⟩; refine ⟨_, rfl, ?_⟩; clear S a; intro a S
    obtain ⟨lo2, hi2, -, M1⟩ := M.pushFresh hF; clear M; have M := M1; clear M1
    refine st_y S rfl rfl rfl (y_build (ps := [(0, (Operand.const (Value.int IntKind.i8 2))), (1, (Operand.tmp 33)), (3, (Operand.tmp 36))]) (pl := [(0, 1), (1, 3), (4, 1), (5, 1), (6, 1), (7, 1), (8, 1), (9, 2), (11, 1)]) (z := [.int .i8 0, .int .i64 0, .int .i64 0, .int .i64 0, .bool false, .slice none 0 0, .int .i64 0, .int .i64 0, .int .i64 0, .int .i64 0, .int .i64 0, .int .i64 0]) (cs := [_, _, _, _, _, _, _, _, _, _, _, _]) S (by kernel_rfl) rfl (rfl)) ?_; clear S a; intro a S
    refine st_call (xs := [(Operand.tmp 31), (Operand.tmp 37)]) S (enters_of Tryz.func13 (by decide) rfl) rfl rfl rfl (prepare11_any (A := [_, _] ++ []) (N := 2 + 2 * (k : Int)) (wkR k) wa wc9 (wkX k) (ShM.close (P := [_, _]) hE hBk M) hI (by omega) (by omega) (by show (0 : Int) ≤ _; omega) (fun W M9 => M9.readAll 0 rfl (by show (8 : Nat) ≤ maxLen; unfold maxLen; omega))) ?_
    rintro _ w5 ⟨er, rfl, hP⟩; refine ⟨_, rfl, ?_⟩; clear S M a; intro a S
    obtain ⟨rfl, s', S', hps', hh', hinc', hI', hM'⟩ := wkStep hk3 hps hh hinc hI hP
    obtain ⟨da2, dc2, lo3, hi3, cs2, es2, E2, hE2, hBk2, M⟩ := ShM.open (P := [_, _]) hM'
    simp only [List.nil_append, List.cons_append] at M
    replace M := M.drop 0
    simp only [List.eraseIdx_cons_succ, List.eraseIdx_cons_zero] at M
    refine st_lit (ps := [(0, (Operand.tmp 38))]) (e := 35) (sz := 1) (zl := [.int .i64 0]) (cs := [_]) S M rfl rfl (by kernel_rfl) rfl (rfl) ?_; clear S M a; intro a w6 bZ S M hB
    refine st_append (e := 35) (sz := 1) (by_ := 8) (zc := [.int .i64 0]) S M 1 rfl rfl (by kernel_rfl) rfl (by decide) rfl rfl rfl (show Rd _ _ _ 1 _ 1 [.int .i64 (gotW k)] from M.sliceAt 0 rfl (M.cellsAt (k := 1) 0 rfl rfl) rfl (Nat.le_refl _) (by unfold maxLen; omega)) (rfl) (by omega) (by unfold maxLen; omega) ?_; clear S M a; intro a w7 vA loA hiA S M
    obtain ⟨aA, cA, rfl, -, -⟩ := (M.readAll 0 rfl (by unfold maxLen; omega)).form
    replace M := M.drop 1
    simp only [List.eraseIdx_cons_succ, List.eraseIdx_cons_zero] at M
    refine st_y S rfl rfl rfl (y_assign S rfl) ?_; clear S a; intro a S
    refine wpList_nil ?_
    refine block_normal ?_
    refine nxF ?_
    refine st_go [1] S rfl (by kernel_rfl) ?_; clear S a; intro a S
    (first | refine st_y S rfl rfl rfl (y_addN S rfl rfl (by omega)) ?_ | refine st_y S rfl rfl rfl (y_int S rfl rfl rfl) ?_); clear S a; intro a S
    refine st_go [1] S rfl (by kernel_rfl) ?_; clear S a; intro a S
    replace S := S.sub [(1, _), (3, _), (4, _), (27, _), (5, _), (6, _)] rfl
    refine nxC ?_
    skip
    replace M := M.ord [2, 2, 2] (by simp only [ordO, oG, oS, oE, oZ, oB] <;> rfl)
    exact ⟨3 - (k + 1), by omega, k + 1, s', S', aA, cA, loA, hiA, by omega, rfl, hps', hh', hinc', hI', S.sub _ rfl, by rw [got3_take hk3]; exact ShM.close (P := [_]) hE2 hBk2 M⟩
  clear S; intro h27 S
  refine st_condF S rfl ?_
  refine wp_exit ?_
  refine then_exit ?_
  refine then_exit ?_
  refine block_hit ?_
  refine then_normal ?_
  refine wp_seq ?_
  obtain rfl : k = 3 := by omega
  have hf2 : findP (⟨2, 1, 1⟩ : Nm) s.ps = some 1 := by rw [hps]; decide +kernel
  refine wp_region_lit ?_
  refine st_go [1] S rfl (by kernel_rfl) ?_; clear S a; intro a S
  refine st_y S rfl rfl rfl (y_build (ps := [(0, (Operand.const (Value.int IntKind.i64 2))), (1, (Operand.const (Value.int IntKind.i64 1))), (2, (Operand.const (Value.int IntKind.i64 1)))]) (pl := [(0, 1), (1, 1), (2, 1)]) (z := [.int .i64 0, .int .i64 0, .int .i64 0]) (cs := [_, _, _]) S (by kernel_rfl) rfl (rfl)) ?_; clear S a; intro a S
  refine st_call (xs := [(Operand.tmp 41), (Operand.tmp 42), (Operand.const (Value.bool true))]) S (enters_of Tryz.func14 (by decide) rfl) rfl rfl rfl (outcome11_any (A := [_] ++ []) (⟨2, 1, 1⟩ : Nm) true (ShM.close (P := [_]) hE hBk M) hI (by omega)) ?_
  rintro _ w8 ⟨er, rfl, hP⟩; refine ⟨_, rfl, ?_⟩; clear S M a; intro a S
  obtain ⟨rfl, hM2⟩ : er = 0 ∧ ShM w w8 ([rowE lo hi 35 1 (.slice ga 3 gc) 3 ((got3.take 3).map fun z => .int .i64 z)] ++ []) b bd (s.keep (r3 ⟨2, 1, 1⟩ true) []) (s.keepD S1 (r3 ⟨2, 1, 1⟩ true) [] true) := by
    rcases hP with ⟨h1, -, h2⟩ | ⟨-, -, h1, -⟩
    · exact ⟨h1, h2⟩
    · rw [hf2] at h1; cases h1
  obtain ⟨q, hq, -, hh2, hps2, ⟨S2, hI2, hM3⟩, hinc2⟩ := go_out hI (by decide) hf2 hM2
  obtain ⟨s2, hs2⟩ : ∃ s2, s.keep (r3 ⟨2, 1, 1⟩ true) [] = s2 := ⟨_, rfl⟩
  rw [hs2] at hh2 hps2 hI2 hM3 hinc2
  have hl2 : s2.h.length = 32 := hI2.hl
  have hp1 : s2.ps.length = 1 := by rw [hps2, hps]; rfl
  have hq2 : q = (prOf (wkR 1), wkX 1) := by rw [hps] at hq; exact (Option.some.inj hq).symm
  have h3 : s2.h[3]? = some (wkV 2) := by rw [hh2, hh, hq2]; kernel_rfl
  have hf9 : findP (⟨9, 1, 1⟩ : Nm) s2.ps = none := by rw [hps2, hps]; decide +kernel
  obtain ⟨da, dc, lo1, hi1, cs, es, E, hE, hBk, M⟩ := ShM.open (P := [_]) hM3
  simp only [List.nil_append, List.cons_append] at M
  refine st_go [1] S rfl (by kernel_rfl) ?_; clear S a; intro a S
  refine nxC ?_
  refine wp_seq ?_
  skip
  replace M := M.front 1 rfl
  simp only [List.eraseIdx_cons_succ, List.eraseIdx_cons_zero] at M
  refine wp_region_lit ?_
  refine st_go [1] S rfl (by kernel_rfl) ?_; clear S a; intro a S
  refine st_call (xs := [(Operand.tmp 45), (Operand.const (Value.int IntKind.i64 3))]) S (enters_of Tryz.func16 (by decide) rfl) rfl rfl rfl (read11_any 3 (wkV 2) M hl2 h3) ?_
  rintro _ w9 ⟨rfl, M1⟩; refine ⟨_, rfl, ?_⟩; clear S M a; intro a S; have M := M1; clear M1
  refine st_go [1, 1, 1] S rfl (by kernel_rfl) ?_; clear S a; intro a S
  refine st_alloc S M rfl rfl #[.int .u8 0, .int .u8 0, .int .u8 0, .int .u8 0, .int .u8 0, .int .u8 0, .int .u8 0, .int .u8 0] (by kernel_rfl) ?_; clear S M a; intro a w10 bV S M hB
  refine st_store (sz := 8) (us := [_, _, _, _, _, _, _, _]) S M 0 rfl (by kernel_rfl) rfl rfl rfl rfl rfl rfl (by first | decide | (simp; done) | (simp; omega)) ?_; clear M; intro w11 M
  simp only [putL, List.set_cons_zero, List.set_cons_succ, Nat.reduceAdd] at M
  refine st_go [1] S rfl (by kernel_rfl) ?_; clear S a; intro a S
  refine nxA ?_
  refine st_go [1, 1, 1] S rfl (by kernel_rfl) ?_; clear S a; intro a S
  refine st_fi (t := 51) S rfl ?_ ?_
  · clear S; intro h51 S
    all_goals (first | exact absurd rfl h51 | (simp at h51; done))
  clear S; intro h51 S
  refine st_go [1, 1, 1, 1] S rfl (by kernel_rfl) ?_; clear S a; intro a S
  refine st_fi (t := 55) S rfl ?_ ?_
  · clear S; intro h55 S
    all_goals (first | exact absurd rfl h55 | (simp at h55; done))
  clear S; intro h55 S
  refine st_go [1] S rfl (by kernel_rfl) ?_; clear S a; intro a S
  refine st_y S rfl rfl rfl (y_indexR (e := 35) (sz := 1) S (by kernel_rfl) rfl (M.readAll 2 rfl (by unfold maxLen; omega)) rfl (by first | omega | (simp; done) | (simp; omega))) ?_; clear S a; intro a S
  refine st_y S rfl rfl rfl (y_load S (by kernel_rfl) rfl ((M.readAll 2 rfl (by unfold maxLen; omega)).at_.one 0 rfl)) ?_; clear S a; intro a S
  refine st_go [1, 1, 1] S rfl (by kernel_rfl) ?_; clear S a; intro a S
  refine st_fi (t := 61) S rfl ?_ ?_
  · clear S; intro h61 S
    all_goals (first | exact absurd rfl h61 | (simp at h61; done))
  clear S; intro h61 S
  refine st_go [1] S rfl (by kernel_rfl) ?_; clear S a; intro a S
  refine st_y S rfl rfl rfl (y_indexR (e := 35) (sz := 1) S (by kernel_rfl) rfl (M.readAll 2 rfl (by unfold maxLen; omega)) rfl (by first | omega | (simp; done) | (simp; omega))) ?_; clear S a; intro a S
  refine st_y S rfl rfl rfl (y_load S (by kernel_rfl) rfl ((M.readAll 2 rfl (by unfold maxLen; omega)).at_.one 1 rfl)) ?_; clear S a; intro a S
  refine st_go [1, 1, 1] S rfl (by kernel_rfl) ?_; clear S a; intro a S
  refine st_fi (t := 67) S rfl ?_ ?_
  · clear S; intro h67 S
    all_goals (first | exact absurd rfl h67 | (simp at h67; done))
  clear S; intro h67 S
  refine st_go [1] S rfl (by kernel_rfl) ?_; clear S a; intro a S
  refine st_y S rfl rfl rfl (y_indexR (e := 35) (sz := 1) S (by kernel_rfl) rfl (M.readAll 2 rfl (by unfold maxLen; omega)) rfl (by first | omega | (simp; done) | (simp; omega))) ?_; clear S a; intro a S
  refine st_y S rfl rfl rfl (y_load S (by kernel_rfl) rfl ((M.readAll 2 rfl (by unfold maxLen; omega)).at_.one 2 rfl)) ?_; clear S a; intro a S
  refine st_go [1, 1, 1] S rfl (by kernel_rfl) ?_; clear S a; intro a S
  refine st_fi (t := 73) S rfl ?_ ?_
  · clear S; intro h73 S
    all_goals (first | exact absurd rfl h73 | (simp at h73; done))
  clear S; intro h73 S
  refine st_go [1, 1, 1, 1] S rfl (by kernel_rfl) ?_; clear S a; intro a S
  refine st_fi (t := 77) S rfl ?_ ?_
  · clear S; intro h77 S
    all_goals (first | exact absurd rfl h77 | (simp at h77; done))
  clear S; intro h77 S
  refine st_go [1, 1, 1, 1] S rfl (by kernel_rfl) ?_; clear S a; intro a S
  refine st_fi (t := 81) S rfl ?_ ?_
  · clear S; intro h81 S
    all_goals (first | exact absurd rfl h81 | (simp at h81; done))
  clear S; intro h81 S
  refine st_y S rfl rfl rfl (y_indexA (m := 8) (sz := 1) S (by kernel_rfl) rfl rfl (by first | omega | (simp; done) | (simp; omega))) ?_; clear S a; intro a S
  refine st_run [1, 1, 1, 1] S M rfl (by kernel_rfl) ?_; clear S a; intro a S
  refine st_fi (t := 86) S rfl ?_ ?_
  · clear S; intro h86 S
    all_goals (first | exact absurd rfl h86 | (simp at h86; done))
  clear S; intro h86 S
  refine st_go [1] S rfl (by kernel_rfl) ?_; clear S a; intro a S
  skip
  replace M := M.front 1 rfl
  simp only [List.eraseIdx_cons_succ, List.eraseIdx_cons_zero] at M
  refine st_call (xs := [(Operand.tmp 87)]) S (enters_of Tryz.func20 (by decide) rfl) rfl rfl rfl (doubt11_any M (fun W pre M9 => DoubtRd (A := []) (E := E) (pre := pre ++ [_, _, _]) hBk (by omega) (by simpa only [List.cons_append, List.nil_append, List.append_assoc] using M9)) hBk hl2 (by omega)) ?_
  rintro _ w12 ⟨ra, rc, lo7, hi7, cs7, es7, rfl, -, M1⟩; refine ⟨_, rfl, ?_⟩; clear S M a; intro a S
  have M := (M1.drop 0).sub (List.sublist_append_right es7 _)
  clear M1
  rw [hp1] at S
  refine st_y S rfl rfl rfl (y_lenS (E := 75) S rfl (by kernel_rfl)) ?_; clear S a; intro a S
  refine st_go [1, 1, 1] S rfl (by kernel_rfl) ?_; clear S a; intro a S
  refine st_fi (t := 92) S rfl ?_ ?_
  · clear S; intro h92 S
    all_goals (first | exact absurd rfl h92 | (simp at h92; done))
  clear S; intro h92 S
  refine st_go [1] S rfl (by kernel_rfl) ?_; clear S a; intro a S
  refine st_y S rfl rfl rfl (y_build (ps := [(0, (Operand.const (Value.int IntKind.i64 9))), (1, (Operand.const (Value.int IntKind.i64 1))), (2, (Operand.const (Value.int IntKind.i64 1)))]) (pl := [(0, 1), (1, 1), (2, 1)]) (z := [.int .i64 0, .int .i64 0, .int .i64 0]) (cs := [_, _, _]) S (by kernel_rfl) rfl (rfl)) ?_; clear S a; intro a S
  skip
  replace M := M.ord [2, 2] (by simp only [ordO, oG, oS, oE, oZ, oB] <;> rfl)
  refine st_call (xs := [(Operand.tmp 93), (Operand.tmp 94), (Operand.const (Value.bool true))]) S (enters_of Tryz.func14 (by decide) rfl) rfl rfl rfl (outcome11_any (A := [_, _] ++ []) (⟨9, 1, 1⟩ : Nm) true (ShM.close (P := [_, _]) hE hBk M) hI2 (by rw [hinc2, hinc]; decide)) ?_
  rintro _ w13 ⟨er, rfl, hP⟩; refine ⟨_, rfl, ?_⟩; clear S M a; intro a S
  obtain ⟨rfl, hM4⟩ : er = 110 ∧ ShM w w13 ([_, _] ++ []) b bd s2 S2 := by
    rcases hP with ⟨-, ⟨k, h1⟩, -⟩ | ⟨-, h1, -, h2⟩
    · rw [hf9] at h1; cases h1
    · exact ⟨h1, h2⟩
  obtain ⟨da8, dc8, lo8, hi8, cs8, es8, E8, hE8, hBk8, M⟩ := ShM.open (P := []) hM4.drop
  simp only [List.nil_append] at M
  refine st_go [1, 1, 1] S rfl (by kernel_rfl) ?_; clear S a; intro a S
  replace S := S.sub [(1, _), (3, _), (4, _), (5, _), (6, _), (27, _), (7, _), (8, _), (9, _), (0, _)] rfl
  refine nxC ?_
  refine wp_ret ?_
  refine end_one S rfl (res_tmp rfl) ?_
  exact ⟨rfl, M.below⟩
end Go.Proofs.YtndabhdepjnbcaaGreat

namespace Go.Proofs.YtndabhdepjnbcaaGreat
open Go.RowKit Go.Sort
theorem shReadNil (n : Int) (w : World) : Calls Tryz.prog 16 #[.pointer none, .int .i64 n] w fun e w' => e = .returned (.tuple #[.agg zV8.cellsL.toArray, .int .i64 1]) ∧ Below w.heap.size w w' := by
  have M := Mem.start w
  refine calls_enter Tryz.func16 rfl 23 rfl rfl ?_; intro a S
  refine nxD ?_
  refine st_alloc S M rfl rfl #[.int .u8 0, .int .u8 0, .int .u8 0, .int .u8 0, .int .u8 0, .int .u8 0, .int .u8 0, .int .u8 0] (by kernel_rfl) ?_; clear S M a; intro a w1 bZ S M hB
  refine st_go [1] S rfl (by kernel_rfl) ?_; clear S a; intro a S
  refine nxC ?_
  refine wp_seq ?_
  refine nxD ?_
  refine st_go [1] S rfl (by kernel_rfl) ?_; clear S a; intro a S
  refine st_y S rfl rfl rfl (y_eqlPN (by kernel_rfl) S rfl) ?_; clear S a; intro a S
  refine nxC ?_
  refine st_condT S rfl ?_
  refine nxD ?_
  refine st_y S rfl rfl rfl (y_buildA (ps := []) (sz := 1) (z := [.int .u8 0, .int .u8 0, .int .u8 0, .int .u8 0, .int .u8 0, .int .u8 0, .int .u8 0, .int .u8 0]) (cs := [_, _, _, _, _, _, _, _]) S (by kernel_rfl) rfl rfl) ?_; clear S a; intro a S
  refine st_store (sz := 8) (us := [_, _, _, _, _, _, _, _]) S M 0 rfl (by kernel_rfl) rfl rfl rfl rfl rfl rfl (by first | decide | (simp; done) | (simp; omega)) ?_; clear M; intro w2 M
  simp only [putL, List.set_cons_zero, List.set_cons_succ, Nat.reduceAdd] at M
  refine st_go [1] S rfl (by kernel_rfl) ?_; clear S a; intro a S
  refine nxC ?_
  refine wp_ret ?_
  refine then_ret ?_
  refine end_two S rfl (res_agg (cs := [_, _, _, _, _, _, _, _]) (by kernel_rfl) rfl rfl (M.cellsAt (k := 8) 0 rfl rfl)) (res_tmp rfl) ?_
  exact ⟨rfl, M.below⟩
theorem shBeginNil (w : World) : Calls Tryz.prog 11 #[.pointer none] w fun e w' => e = .returned (.tuple #[.int .i64 0, .int .i64 1]) ∧ Below w.heap.size w w' := by
  have M := Mem.start w
  refine calls_enter Tryz.func11 rfl 56 rfl rfl ?_; intro a S
  refine nxD ?_
  refine st_go [1, 1] S rfl (by kernel_rfl) ?_; clear S a; intro a S
  refine nxC ?_
  refine wp_seq ?_
  refine nxD ?_
  refine st_go [1] S rfl (by kernel_rfl) ?_; clear S a; intro a S
  refine st_y S rfl rfl rfl (y_eqlPN (by kernel_rfl) S rfl) ?_; clear S a; intro a S
  refine nxC ?_
  refine st_condT S rfl ?_
  refine nxD ?_
  refine st_go [1, 1] S rfl (by kernel_rfl) ?_; clear S a; intro a S
  refine nxC ?_
  refine wp_ret ?_
  refine then_ret ?_
  refine end_two S rfl (res_tmp rfl) (res_tmp rfl) ?_
  exact ⟨rfl, M.below⟩
theorem shOpenNil (w : World) : Calls Tryz.prog 9 #[.pointer none] w fun e w' => e = .returned (.tuple #[.pointer none, .int .i64 1]) ∧ Below w.heap.size w w' := by
  have M := Mem.start w
  refine calls_enter Tryz.func9 rfl 20 rfl rfl ?_; intro a S
  refine nxD ?_
  refine st_go [1, 1] S rfl (by kernel_rfl) ?_; clear S a; intro a S
  refine nxC ?_
  refine wp_seq ?_
  refine nxD ?_
  refine st_go [1] S rfl (by kernel_rfl) ?_; clear S a; intro a S
  refine st_y S rfl rfl rfl (y_eqlPN (by kernel_rfl) S rfl) ?_; clear S a; intro a S
  refine nxC ?_
  refine st_condT S rfl ?_
  refine nxD ?_
  refine st_go [1, 1] S rfl (by kernel_rfl) ?_; clear S a; intro a S
  refine nxC ?_
  refine wp_ret ?_
  refine then_ret ?_
  refine end_two S rfl (res_tmp rfl) (res_tmp rfl) ?_
  exact ⟨rfl, M.below⟩
theorem shLocalNil (r : Rc) (va : Option Addr) (vn vc : Nat) (w : World) : Calls Tryz.prog 12 #[.pointer none, .agg (r.cells (.slice va vn vc))] w fun e w' => e = .returned (.int .i64 1) ∧ Below w.heap.size w w' := by
  have M := Mem.start w
  refine calls_enter Tryz.func12 rfl 48 rfl rfl ?_; intro a S
  refine nxD ?_
  refine st_box S M rfl rfl rfl #[_, _, _, _, _, _, _, _, _, _, _, _] rfl ?_; clear S M a; intro a w1 bRr S M hB
  refine st_go [1] S rfl (by kernel_rfl) ?_; clear S a; intro a S
  refine nxC ?_
  refine wp_seq ?_
  refine nxD ?_
  refine st_go [1] S rfl (by kernel_rfl) ?_; clear S a; intro a S
  refine st_y S rfl rfl rfl (y_eqlPN (by kernel_rfl) S rfl) ?_; clear S a; intro a S
  refine nxC ?_
  refine st_condT S rfl ?_
  refine nxD ?_
  refine st_go [1] S rfl (by kernel_rfl) ?_; clear S a; intro a S
  refine nxC ?_
  refine wp_ret ?_
  refine then_ret ?_
  refine end_one S rfl (res_tmp rfl) ?_
  exact ⟨rfl, M.below⟩
theorem shPrepareNil (r : Rc) (va : Option Addr) (vn vc : Nat) (w : World) : Calls Tryz.prog 13 #[.pointer none, .agg (r.cells (.slice va vn vc))] w fun e w' => e = .returned (.int .i64 1) ∧ Below w.heap.size w w' := by
  have M := Mem.start w
  refine calls_enter Tryz.func13 rfl 62 rfl rfl ?_; intro a S
  refine nxD ?_
  refine st_box S M rfl rfl rfl #[_, _, _, _, _, _, _, _, _, _, _, _] rfl ?_; clear S M a; intro a w1 bRr S M hB
  refine st_go [1] S rfl (by kernel_rfl) ?_; clear S a; intro a S
  refine nxC ?_
  refine wp_seq ?_
  refine nxD ?_
  refine st_go [1] S rfl (by kernel_rfl) ?_; clear S a; intro a S
  refine st_y S rfl rfl rfl (y_eqlPN (by kernel_rfl) S rfl) ?_; clear S a; intro a S
  refine nxC ?_
  refine st_condT S rfl ?_
  refine nxD ?_
  refine st_go [1] S rfl (by kernel_rfl) ?_; clear S a; intro a S
  refine nxC ?_
  refine wp_ret ?_
  refine then_ret ?_
  refine end_one S rfl (res_tmp rfl) ?_
  exact ⟨rfl, M.below⟩
theorem shOutcomeNil (nm : Nm) (y : Bool) (w : World) : Calls Tryz.prog 14 #[.pointer none, .agg nm.cells, .bool y] w fun e w' => e = .returned (.int .i64 1) ∧ Below w.heap.size w w' := by
  have M := Mem.start w
  refine calls_enter Tryz.func14 rfl 35 rfl rfl ?_; intro a S
  refine nxD ?_
  refine st_box S M rfl rfl rfl #[_, _, _] rfl ?_; clear S M a; intro a w1 bRr S M hB
  refine st_go [1] S rfl (by kernel_rfl) ?_; clear S a; intro a S
  refine nxC ?_
  refine wp_seq ?_
  refine nxD ?_
  refine st_go [1] S rfl (by kernel_rfl) ?_; clear S a; intro a S
  refine st_y S rfl rfl rfl (y_eqlPN (by kernel_rfl) S rfl) ?_; clear S a; intro a S
  refine nxC ?_
  refine st_condT S rfl ?_
  refine nxD ?_
  refine st_go [1] S rfl (by kernel_rfl) ?_; clear S a; intro a S
  refine nxC ?_
  refine wp_ret ?_
  refine then_ret ?_
  refine end_one S rfl (res_tmp rfl) ?_
  exact ⟨rfl, M.below⟩
theorem shCheckNil (w : World) : Calls Tryz.prog 17 #[.pointer none] w fun e w' => e = .returned (.int .i64 1) ∧ Below w.heap.size w w' := by
  have M := Mem.start w
  refine calls_enter Tryz.func17 rfl 14 rfl rfl ?_; intro a S
  refine nxD ?_
  refine st_go [1] S rfl (by kernel_rfl) ?_; clear S a; intro a S
  refine nxC ?_
  refine wp_seq ?_
  refine nxD ?_
  refine st_go [1] S rfl (by kernel_rfl) ?_; clear S a; intro a S
  refine st_y S rfl rfl rfl (y_eqlPN (by kernel_rfl) S rfl) ?_; clear S a; intro a S
  refine nxC ?_
  refine st_condT S rfl ?_
  refine nxD ?_
  refine st_go [1] S rfl (by kernel_rfl) ?_; clear S a; intro a S
  refine nxC ?_
  refine wp_ret ?_
  refine then_ret ?_
  refine end_one S rfl (res_tmp rfl) ?_
  exact ⟨rfl, M.below⟩
theorem shOwnNil (n : Int) (w : World) : Calls Tryz.prog 18 #[.pointer none, .int .i64 n] w fun e w' => e = .returned (.int .i64 1) ∧ Below w.heap.size w w' := by
  have M := Mem.start w
  refine calls_enter Tryz.func18 rfl 55 rfl rfl ?_; intro a S
  refine nxD ?_
  refine st_go [1] S rfl (by kernel_rfl) ?_; clear S a; intro a S
  refine nxC ?_
  refine wp_seq ?_
  refine nxD ?_
  refine st_go [1] S rfl (by kernel_rfl) ?_; clear S a; intro a S
  refine st_y S rfl rfl rfl (y_eqlPN (by kernel_rfl) S rfl) ?_; clear S a; intro a S
  refine nxC ?_
  refine st_condT S rfl ?_
  refine nxD ?_
  refine st_go [1] S rfl (by kernel_rfl) ?_; clear S a; intro a S
  refine nxC ?_
  refine wp_ret ?_
  refine then_ret ?_
  refine end_one S rfl (res_tmp rfl) ?_
  exact ⟨rfl, M.below⟩
theorem shOwnsNil (n : Int) (w : World) : Calls Tryz.prog 19 #[.pointer none, .int .i64 n] w fun e w' => e = .returned (.bool false) ∧ Below w.heap.size w w' := by
  have M := Mem.start w
  refine calls_enter Tryz.func19 rfl 25 rfl rfl ?_; intro a S
  refine nxD ?_
  refine st_go [1] S rfl (by kernel_rfl) ?_; clear S a; intro a S
  refine nxC ?_
  refine wp_seq ?_
  refine nxD ?_
  refine st_go [1] S rfl (by kernel_rfl) ?_; clear S a; intro a S
  refine st_y S rfl rfl rfl (y_eqlPN (by kernel_rfl) S rfl) ?_; clear S a; intro a S
  refine st_go [1, 0, 0, 1, 1, 0, 0, 1] S rfl (by kernel_rfl) ?_; clear S a; intro a S
  refine nxC ?_
  refine st_condT S rfl ?_
  refine nxD ?_
  refine st_go [1] S rfl (by kernel_rfl) ?_; clear S a; intro a S
  refine nxC ?_
  refine wp_ret ?_
  refine then_ret ?_
  refine end_one S rfl (res_tmp rfl) ?_
  exact ⟨rfl, M.below⟩
theorem shDoubtNil (w : World) : Calls Tryz.prog 20 #[.pointer none] w fun e w' => e = .returned (.slice none 0 0) ∧ Below w.heap.size w w' := by
  have M := Mem.start w
  refine calls_enter Tryz.func20 rfl 11 rfl rfl ?_; intro a S
  refine nxD ?_
  refine st_go [1] S rfl (by kernel_rfl) ?_; clear S a; intro a S
  refine nxC ?_
  refine wp_seq ?_
  refine nxD ?_
  refine st_go [1] S rfl (by kernel_rfl) ?_; clear S a; intro a S
  refine st_y S rfl rfl rfl (y_eqlPN (by kernel_rfl) S rfl) ?_; clear S a; intro a S
  refine nxC ?_
  refine st_condT S rfl ?_
  refine nxD ?_
  refine st_go [1] S rfl (by kernel_rfl) ?_; clear S a; intro a S
  refine nxC ?_
  refine wp_ret ?_
  refine then_ret ?_
  refine end_one S rfl (res_tmp rfl) ?_
  exact ⟨rfl, M.below⟩
set_option maxHeartbeats 1000000 in
theorem shardNil_any (r : Rc) (va : Option Addr) (vn vc : Nat) (n : Int) (w : World) : Calls Tryz.prog 4 #[.agg (r.cells (.slice va vn vc)), .int .i64 n] w fun e w' => e = .returned (.bool true) ∧ Below w.heap.size w w' := by
  have M := Mem.start w
  refine calls_enter Tryz.func4 rfl 84 rfl rfl ?_; intro a S
  refine nxD ?_
  refine st_box S M rfl rfl rfl #[_, _, _, _, _, _, _, _, _, _, _, _] rfl ?_; clear S M a; intro a w1 bRr S M hB
  refine st_go [1] S rfl (by kernel_rfl) ?_; clear S a; intro a S
  refine nxA ?_
  refine st_go [1] S rfl (by kernel_rfl) ?_; clear S a; intro a S
  refine nxA ?_
  refine st_go [1, 1] S rfl (by kernel_rfl) ?_; clear S a; intro a S
  refine st_call (xs := [(Operand.tmp 13), (Operand.tmp 14)]) S (enters_of Tryz.func16 (by decide) rfl) rfl rfl rfl (shReadNil _ _) ?_
  rintro _ w2 ⟨rfl, hK⟩; refine ⟨_, rfl, ?_⟩; clear S a; intro a S; replace M := M.grow hK
  refine st_go [1, 1, 1] S rfl (by kernel_rfl) ?_; clear S a; intro a S
  refine st_alloc S M rfl rfl #[.int .u8 0, .int .u8 0, .int .u8 0, .int .u8 0, .int .u8 0, .int .u8 0, .int .u8 0, .int .u8 0] (by kernel_rfl) ?_; clear S M a; intro a w3 bV S M hB
  refine st_store (sz := 8) (us := [_, _, _, _, _, _, _, _]) S M 0 rfl (by kernel_rfl) rfl rfl rfl rfl rfl rfl (by first | decide | (simp; done) | (simp; omega)) ?_; clear M; intro w4 M
  simp only [putL, List.set_cons_zero, List.set_cons_succ, Nat.reduceAdd] at M
  refine st_go [1] S rfl (by kernel_rfl) ?_; clear S a; intro a S
  refine nxA ?_
  refine st_go [1] S rfl (by kernel_rfl) ?_; clear S a; intro a S
  refine st_call (xs := [(Operand.tmp 19)]) S (enters_of Tryz.func11 (by decide) rfl) rfl rfl rfl (shBeginNil _) ?_
  rintro _ w5 ⟨rfl, hK⟩; refine ⟨_, rfl, ?_⟩; clear S a; intro a S; replace M := M.grow hK
  refine st_go [1, 1, 1, 1, 1] S rfl (by kernel_rfl) ?_; clear S a; intro a S
  refine nxA ?_
  refine st_call (xs := [(Operand.const (Value.pointer none))]) S (enters_of Tryz.func9 (by decide) rfl) rfl rfl rfl (shOpenNil _) ?_
  rintro _ w6 ⟨rfl, hK⟩; refine ⟨_, rfl, ?_⟩; clear S a; intro a S; replace M := M.grow hK
  refine st_go [1, 1, 1, 1, 1] S rfl (by kernel_rfl) ?_; clear S a; intro a S
  replace S := S.sub [(0, _), (1, _), (2, _), (4, _), (5, _), (7, _), (8, _), (9, _), (11, _)] rfl
  refine nxA ?_
  refine st_go [1] S rfl (by kernel_rfl) ?_; clear S a; intro a S
  refine st_y S rfl rfl rfl (y_loadAgg (cs := [_, _, _, _, _, _, _, _, _, _, _, _]) S (by kernel_rfl) rfl rfl (M.cellsAt (k := 12) 1 rfl rfl)) ?_; clear S a; intro a S
  refine st_call (xs := [(Operand.tmp 27), (Operand.tmp 28)]) S (enters_of Tryz.func12 (by decide) rfl) rfl rfl rfl (shLocalNil r va vn vc _) ?_
  rintro _ w7 ⟨rfl, hK⟩; refine ⟨_, rfl, ?_⟩; clear S a; intro a S; replace M := M.grow hK
  refine st_go [1, 1] S rfl (by kernel_rfl) ?_; clear S a; intro a S
  refine st_fi (t := 31) S rfl ?_ ?_
  · clear S; intro h31 S
    all_goals (first | exact absurd rfl h31 | (simp at h31; done))
  clear S; intro h31 S
  refine st_go [1] S rfl (by kernel_rfl) ?_; clear S a; intro a S
  refine st_y S rfl rfl rfl (y_loadAgg (cs := [_, _, _, _, _, _, _, _, _, _, _, _]) S (by kernel_rfl) rfl rfl (M.cellsAt (k := 12) 1 rfl rfl)) ?_; clear S a; intro a S
  refine st_call (xs := [(Operand.tmp 32), (Operand.tmp 33)]) S (enters_of Tryz.func13 (by decide) rfl) rfl rfl rfl (shPrepareNil r va vn vc _) ?_
  rintro _ w8 ⟨rfl, hK⟩; refine ⟨_, rfl, ?_⟩; clear S a; intro a S; replace M := M.grow hK
  refine st_go [1, 1, 1] S rfl (by kernel_rfl) ?_; clear S a; intro a S
  refine st_fi (t := 37) S rfl ?_ ?_
  · clear S; intro h37 S
    all_goals (first | exact absurd rfl h37 | (simp at h37; done))
  clear S; intro h37 S
  refine st_go [1, 2] S rfl (by kernel_rfl) ?_; clear S a; intro a S
  refine st_y S rfl rfl rfl (y_loadAgg (cs := [_, _, _]) S (by kernel_rfl) rfl rfl (M.cellsAt (k := 3) 1 rfl rfl)) ?_; clear S a; intro a S
  refine st_call (xs := [(Operand.tmp 38), (Operand.tmp 40), (Operand.const (Value.bool true))]) S (enters_of Tryz.func14 (by decide) rfl) rfl rfl rfl (shOutcomeNil r.name true _) ?_
  rintro _ w9 ⟨rfl, hK⟩; refine ⟨_, rfl, ?_⟩; clear S a; intro a S; replace M := M.grow hK
  refine st_go [1, 1, 1] S rfl (by kernel_rfl) ?_; clear S a; intro a S
  refine st_fi (t := 44) S rfl ?_ ?_
  · clear S; intro h44 S
    all_goals (first | exact absurd rfl h44 | (simp at h44; done))
  clear S; intro h44 S
  refine st_go [1] S rfl (by kernel_rfl) ?_; clear S a; intro a S
  refine st_call (xs := [(Operand.tmp 45)]) S (enters_of Tryz.func17 (by decide) rfl) rfl rfl rfl (shCheckNil _) ?_
  rintro _ w10 ⟨rfl, hK⟩; refine ⟨_, rfl, ?_⟩; clear S a; intro a S; replace M := M.grow hK
  refine st_go [1, 1, 1] S rfl (by kernel_rfl) ?_; clear S a; intro a S
  refine st_fi (t := 49) S rfl ?_ ?_
  · clear S; intro h49 S
    all_goals (first | exact absurd rfl h49 | (simp at h49; done))
  clear S; intro h49 S
  refine st_go [1] S rfl (by kernel_rfl) ?_; clear S a; intro a S
  refine st_call (xs := [(Operand.tmp 50), (Operand.const (Value.int IntKind.i64 1))]) S (enters_of Tryz.func18 (by decide) rfl) rfl rfl rfl (shOwnNil _ _) ?_
  rintro _ w11 ⟨rfl, hK⟩; refine ⟨_, rfl, ?_⟩; clear S a; intro a S; replace M := M.grow hK
  refine st_go [1, 1, 1] S rfl (by kernel_rfl) ?_; clear S a; intro a S
  refine st_fi (t := 54) S rfl ?_ ?_
  · clear S; intro h54 S
    all_goals (first | exact absurd rfl h54 | (simp at h54; done))
  clear S; intro h54 S
  refine st_go [1, 1, 1, 1] S rfl (by kernel_rfl) ?_; clear S a; intro a S
  refine st_fi (t := 58) S rfl ?_ ?_
  · clear S; intro h58 S
    all_goals (first | exact absurd rfl h58 | (simp at h58; done))
  clear S; intro h58 S
  refine st_go [1, 1, 1, 1] S rfl (by kernel_rfl) ?_; clear S a; intro a S
  refine st_fi (t := 62) S rfl ?_ ?_
  · clear S; intro h62 S
    all_goals (first | exact absurd rfl h62 | (simp at h62; done))
  clear S; intro h62 S
  refine st_go [1, 1, 1, 1] S rfl (by kernel_rfl) ?_; clear S a; intro a S
  refine st_fi (t := 66) S rfl ?_ ?_
  · clear S; intro h66 S
    all_goals (first | exact absurd rfl h66 | (simp at h66; done))
  clear S; intro h66 S
  refine st_go [1, 1, 1, 1] S rfl (by kernel_rfl) ?_; clear S a; intro a S
  refine st_fi (t := 70) S rfl ?_ ?_
  · clear S; intro h70 S
    all_goals (first | exact absurd rfl h70 | (simp at h70; done))
  clear S; intro h70 S
  refine st_go [1] S rfl (by kernel_rfl) ?_; clear S a; intro a S
  refine st_call (xs := [(Operand.tmp 71), (Operand.const (Value.int IntKind.i64 0))]) S (enters_of Tryz.func19 (by decide) rfl) rfl rfl rfl (shOwnsNil _ _) ?_
  rintro _ w12 ⟨rfl, hK⟩; refine ⟨_, rfl, ?_⟩; clear S a; intro a S; replace M := M.grow hK
  refine st_go [1, 1, 1] S rfl (by kernel_rfl) ?_; clear S a; intro a S
  refine st_fi (t := 75) S rfl ?_ ?_
  · clear S; intro h75 S
    all_goals (first | exact absurd rfl h75 | (simp at h75; done))
  clear S; intro h75 S
  refine st_go [1] S rfl (by kernel_rfl) ?_; clear S a; intro a S
  refine st_call (xs := [(Operand.tmp 76)]) S (enters_of Tryz.func20 (by decide) rfl) rfl rfl rfl (shDoubtNil _) ?_
  rintro _ w13 ⟨rfl, hK⟩; refine ⟨_, rfl, ?_⟩; clear S a; intro a S; replace M := M.grow hK
  refine st_y S rfl rfl rfl (y_lenS (E := 75) S rfl (by kernel_rfl)) ?_; clear S a; intro a S
  refine st_go [1, 1, 1] S rfl (by kernel_rfl) ?_; clear S a; intro a S
  refine st_fi (t := 81) S rfl ?_ ?_
  · clear S; intro h81 S
    all_goals (first | exact absurd rfl h81 | (simp at h81; done))
  clear S; intro h81 S
  refine st_call (xs := []) S (enters_of Tryz.func8 (by decide) rfl) rfl rfl rfl (wakes11_any _) ?_
  rintro _ w14 ⟨rfl, hK⟩; refine ⟨_, rfl, ?_⟩; clear S a; intro a S; replace M := M.grow hK
  refine st_go [1, 1] S rfl (by kernel_rfl) ?_; clear S a; intro a S
  replace S := S.sub [(0, _), (1, _), (2, _), (5, _), (7, _), (8, _), (9, _), (11, _), (4, _)] rfl
  refine nxC ?_
  refine wp_ret ?_
  refine end_one S rfl (res_tmp rfl) ?_
  exact ⟨rfl, M.below⟩
end Go.Proofs.YtndabhdepjnbcaaGreat

namespace Go.Proofs.YtndabhdepjnbcaaGreat
open Go.ChangeShapes Go.WideShapes Go.ChangeAt Go.RowKit Go.Joins
theorem Tryz.own : ownKnob Tryz.prog.godebug = none := by kernel_rfl
theorem Tryz.laidOut : laidOutB Tryz.prog = true := by kernel_rfl
section
variable {H : Type} {enc : TypeId × Value → H} {P : Program}
/-- arguments read as they read, through the same places, where what lay lies as it lay -/
theorem trodAll_stays (hl : laidOutB P = true) {W W' : World} (hb : Below W.heap.size W W') {sp : Nat → Bool} : ∀ (ts : List TypeId) (vs : List Value) (ds : List (DataW H)) (ps : List MemPlace),
    (∀ t ∈ ts, P.readableRec t = true ∧ t < P.types.size) → (∀ p ∈ ps, p.block < W.heap.size ∧ sp p.block = true) →
    DataW.TrodAll enc P W 0 (fun _ => true) true ts vs ds ps → DataW.TrodAll enc P W' 0 sp true ts vs ds ps
  | [], vs, ds, ps, _, _, h => by
    obtain ⟨rfl, rfl, rfl⟩ := trodAll_nil h
    exact trodAll_mk0
  | t :: ts, vs, ds, ps, ht, hp, h => by
    obtain ⟨v, vs', d, ds', p, q, rfl, rfl, rfl, h0, h1⟩ := trodAll_cons h
    exact trodAll_cons_mk (WideElems.Trod_stays hl (ht t (by simp)).1 (ht t (by simp)).2 h0 (fun x hx => hb.same (hp x (by simp [hx])).1) (fun x hx => (hp x (by simp [hx])).2))
      (trodAll_stays hl hb ts vs' ds' q (fun t' h' => ht t' (by simp [h'])) (fun x hx => hp x (by simp [hx])) h1)
/-- A LAW's conclusion: true came back, nothing that lay has turned, the specification says 'true, the arguments as they were' -/
theorem law_post {f : Func} {s : ChangeSpec} {apart fresh handsOn again : Bool} {W W' : World} {args : Array Value} {ds gs : List (DataW H)} {before : List MemPlace} {tb : TypeId}
    (hl : laidOutB P = true) (hts : ∀ t ∈ f.params.toList, P.readableRec t = true ∧ t < P.types.size) (hv : s.vars = []) (hrt : f.resultTypes = #[tb]) (htb : P.underlying tb = some .bool)
    (hs : ∀ ds : List (DataW H), ds.length = f.params.size → s.fn H ds = { results := [.lit (.bool true)], args := ds })
    (hW : DataW.Whole enc P f.params.toList s.vars apart W args.toList ds gs before) (hb : Below W.heap.size W W') : s.post enc P f apart fresh handsOn again W args (.bool true) W' := by
  have hlt : ∀ p ∈ before, p.block < W.heap.size := fun p hp => hW.lt p hp
  have hW' := hW
  obtain ⟨p, q, hA, hV, rfl, hfz, hnd⟩ := hW
  rw [hv] at hV
  obtain ⟨rfl, rfl⟩ := trodVars_none hV
  have hlen : ds.length = f.params.size := by
    have : ∀ (ts : List TypeId) (vs : List Value) (ds : List (DataW H)) (ps : List MemPlace), DataW.TrodAll enc P W 0 (fun _ => true) true ts vs ds ps → ds.length = ts.length := by
      intro ts
      induction ts with
      | nil => intro vs ds ps h; obtain ⟨_, rfl, _⟩ := trodAll_nil h; rfl
      | cons t ts ih => intro vs ds ps h; obtain ⟨v, vs', d, ds', p, q, _, rfl, _, _, h1⟩ := trodAll_cons h; simp [ih _ _ _ h1]
    simpa using this _ _ _ _ hA
  have e := hs ds hlen
  have args_read : ∀ sp : Nat → Bool, (∀ x ∈ p ++ [], sp x.block = true) → DataW.TrodAll enc P W' 0 sp true f.params.toList args.toList ds p := fun sp hsp =>
    trodAll_stays hl hb _ _ _ _ hts (fun x hx => ⟨hlt x (by simp [hx]), hsp x (by simp [hx])⟩) hA
  have res_read : ∀ (b : Nat) (sp : Nat → Bool) (hd : Bool), DataW.TrodAll enc P W' b sp hd f.resultTypes.toList (Value.resultList f.resultTypes.size (.bool true)) [.lit (.bool true)] [] := fun b sp hd => by
    rw [hrt]; exact trodAll_mk1 (shut_bool htb _)
  have no_vars : ∀ sp : Nat → Bool, DataW.TrodVars enc P W' sp s.vars ([] : List (DataW H)) [] := fun sp => by rw [hv]; rfl
  have hold : ∀ x ∈ p ++ [], (fun b => decide (b < W.heap.size)) x.block = true := fun x hx => by simpa using hlt x hx
  have e' : s.fn H (ds ++ []) = { results := [.lit (.bool true)], args := ds } := by rw [List.append_nil]; exact e
  refine ⟨ds, [], p ++ [], [], p, [], hW', ?_, ?_, ?_, World.keptBut_mono (fun x hx => ⟨hx, ?_⟩) (hb.frame (· ∈ p ++ [])), fun _ => ?_⟩
  · rw [e']; exact res_read _ _ _
  · rw [e']; exact args_read _ hold
  · rw [e']; exact no_vars _
  · exact Or.inr (by simpa using hx)
  · refine ⟨ok_one hrt rfl (okWide_bool_mk htb _), _, _, ([] ++ p) ++ [], ⟨[] ++ p, [], trodAll_append (args_read _ (fun _ _ => rfl)) (res_read _ _ _), no_vars _, rfl, fun b off hx => ?_, fun ha => by simpa using hnd ha⟩, fun x hx _ => by simpa using hx⟩
    have hin : MemPlace.cell b off ∈ p ++ [] := by simpa using hx
    rw [hb.frozen (hlt _ hin)]
    exact hfz b off hin
end
end Go.Proofs.YtndabhdepjnbcaaGreat
namespace Go.Proofs.YtndabhdepjnbcaaGreat
open Go.ChangeShapes Go.WideShapes Go.ChangeAt Go.RowKit Go.Joins
section
variable {H : Type} {enc : TypeId × Value → H} {P : Program} {W : World} {base : Nat} {t : TypeId} {v : Value} {d : DataW H} {ps : List MemPlace}
theorem cells_one {x : Value} (h : v.cells.toList = [x]) (hna : ∀ cs, v ≠ .agg cs) : v = x := by
  cases v <;> first | exact absurd rfl (hna _) | (simp [Value.cells] at h; exact h)
theorem arg_int {k : IntKind} (ht : P.underlying t = some (.int k)) (hv : Value.okWide P W .any base t v) (h : DataW.Trod enc P W 0 (fun _ => true) true t v d ps) : ∃ n, v = .int k n ∧ k.min ≤ n ∧ n ≤ k.max := by
  obtain ⟨fuel, h⟩ := h
  obtain ⟨n, e, _, _⟩ := DataW.trod_int ht h
  unfold Value.okWide at hv
  simp only [ht] at hv
  have hv' : Cell.okWide P W .any base t v := hv
  unfold Cell.okWide at hv'
  simp only [ht] at hv'
  have hna : ∀ cs, v ≠ .agg cs := fun cs hc => by subst hc; simp [Cell.ok, ht] at hv'
  have := cells_one e hna
  subst this
  simp only [Cell.ok, ht] at hv'
  exact ⟨n, rfl, hv'.2⟩
end
end Go.Proofs.YtndabhdepjnbcaaGreat
namespace Go.Proofs.YtndabhdepjnbcaaGreat
open Go.ChangeShapes Go.WideShapes Go.ChangeAt Go.RowKit Go.Joins
section
variable {H : Type} {enc : TypeId × Value → H} {P : Program} {W : World} {base : Nat} {t : TypeId} {v : Value} {d : DataW H} {ps : List MemPlace}
end
end Go.Proofs.YtndabhdepjnbcaaGreat
namespace Go.Proofs.YtndabhdepjnbcaaGreat
open Go.ChangeShapes Go.WideShapes Go.ChangeAt Go.RowKit Go.Joins
section
variable {H : Type} {enc : TypeId × Value → H} {P : Program} {W : World} {t : TypeId} {cs : List Value}
/-- these cells read as data of the type t -/
def Rdt (enc : TypeId × Value → H) (P : Program) (W : World) (t : TypeId) (cs : List Value) : Prop := ∃ n x, DataW.trod enc P W 0 (fun _ => true) true n t cs = some x
theorem Rdt.int {k : IntKind} (h : Rdt enc P W t cs) (ht : P.underlying t = some (.int k)) : ∃ z, cs = [.int k z] ∧ k.min ≤ z ∧ z ≤ k.max := by
  obtain ⟨n, x, h⟩ := h
  obtain ⟨z, e, -, hw⟩ := DataW.trod_int ht h
  simp only [Lit.wf, Bool.and_eq_true, decide_eq_true_eq] at hw
  exact ⟨z, e, hw⟩
theorem Rdt.i64 (h : Rdt enc P W t cs) (ht : P.underlying t = some (.int .i64)) : ∃ z, cs = [.int .i64 z] ∧ -9223372036854775808 ≤ z ∧ z ≤ 9223372036854775807 := by
  obtain ⟨z, e, h1, h2⟩ := h.int ht
  have e1 : IntKind.i64.min = -9223372036854775808 := rfl
  have e2 : IntKind.i64.max = 9223372036854775807 := rfl
  exact ⟨z, e, by omega, by omega⟩
theorem Rdt.u8 (h : Rdt enc P W t cs) (ht : P.underlying t = some (.int .u8)) : ∃ b : UInt8, cs = [.int .u8 (b.toNat : Int)] := by
  obtain ⟨z, e, h1, h2⟩ := h.int ht
  have e1 : IntKind.u8.min = 0 := rfl
  have e2 : IntKind.u8.max = 255 := rfl
  refine ⟨UInt8.ofNat z.toNat, ?_⟩
  rw [e]; simp; omega
theorem Rdt.bool (h : Rdt enc P W t cs) (ht : P.underlying t = some .bool) : ∃ b, cs = [.bool b] := by
  obtain ⟨n, x, h⟩ := h
  obtain ⟨b, e, -⟩ := DataW.trod_bool ht h
  exact ⟨b, e⟩
theorem Rdt.len_struct {fs : Array Field} (h : Rdt enc P W t cs) (ht : P.underlying t = some (.struct fs)) : cs.length = P.cellsOf t := by
  obtain ⟨n, x, h⟩ := h
  obtain ⟨xs, m, -, -, hl, -, -⟩ := DataW.trod_struct ht h
  exact hl
theorem Rdt.field {fs : Array Field} (h : Rdt enc P W t cs) (ht : P.underlying t = some (.struct fs)) (i : Nat) {f : Field} (hf : fs[i]? = some f) {k : Nat} (hk : P.cellsOf f.type = k) : Rdt enc P W f.type ((cs.drop f.offset).take k) := by
  obtain ⟨n, x, h⟩ := h
  obtain ⟨xs, m, -, -, hl, hlen, hx⟩ := DataW.trod_struct ht h
  have hlt : i < xs.length := by rw [hlen]; exact (Array.getElem?_eq_some_iff.1 hf).1
  subst hk
  exact ⟨m, xs[i], by rw [← List.getElem?_eq_getElem hlt]; exact hx i f hf⟩
theorem Rdt.len_array {m : Nat} {e : TypeId} (h : Rdt enc P W t cs) (ht : P.underlying t = some (.array m e)) : cs.length = P.cellsOf t := by
  obtain ⟨n, x, h⟩ := h
  obtain ⟨xs, m, -, -, hl, -, -⟩ := DataW.trod_array ht h
  exact hl
theorem Rdt.elem {m : Nat} {e : TypeId} (h : Rdt enc P W t cs) (ht : P.underlying t = some (.array m e)) {k : Nat} (hk : P.cellsOf e = k) (i : Nat) (hi : i < m) : Rdt enc P W e ((cs.drop (i * k)).take k) := by
  obtain ⟨n, x, h⟩ := h
  obtain ⟨xs, q, -, -, hl, hlen, hx⟩ := DataW.trod_array ht h
  have hlt : i < xs.length := by rw [hlen]; exact hi
  subst hk
  exact ⟨q, xs[i], by rw [← List.getElem?_eq_getElem hlt]; exact hx i hi⟩
theorem list_of {α : Type} {Q : Nat → α → Prop} : ∀ (n : Nat), (∀ i, i < n → ∃ a, Q i a) → ∃ xs : List α, xs.length = n ∧ ∀ i a, xs[i]? = some a → Q i a
  | 0, _ => ⟨[], rfl, fun i a h => by simp at h⟩
  | n + 1, h => by
    obtain ⟨xs, hl, hx⟩ := list_of n (fun i hi => h i (by omega))
    obtain ⟨a, ha⟩ := h n (by omega)
    refine ⟨xs ++ [a], by simp [hl], fun i b hb => ?_⟩
    rcases Nat.lt_or_ge i n with hi | hi
    · rw [List.getElem?_append_left (by omega)] at hb; exact hx i b hb
    · rw [List.getElem?_append_right (by omega)] at hb
      have : i - xs.length = 0 := by
        rcases Nat.eq_zero_or_pos (i - xs.length) with h0 | h0
        · exact h0
        · rw [List.getElem?_eq_none (by simp; omega)] at hb; cases hb
      rw [this] at hb
      obtain rfl : a = b := by simpa using hb
      obtain rfl : i = n := by omega
      exact ha
theorem addr_add2 (ad : Addr) (m j : Nat) : (ad.add m).add j = ad.add (m + j) := by
  unfold Addr.add
  by_cases h1 : m = 0
  · subst h1; simp
  · by_cases h2 : j = 0
    · subst h2; simp
    · simp [h1, h2, Nat.add_assoc]
theorem flat_get {sz : Nat} : ∀ (l : List (List Value)) (i j : Nat) (r : List Value), (∀ r ∈ l, r.length = sz) → l[i]? = some r → j < sz → l.flatten[i * sz + j]? = r[j]?
  | [], i, j, r, _, h, _ => by simp at h
  | x :: l, 0, j, r, hl, h, hj => by
    obtain rfl : x = r := by simpa using h
    have := hl x (by simp)
    rw [Nat.zero_mul, Nat.zero_add, List.flatten_cons, List.getElem?_append_left (by omega)]
  | x :: l, i + 1, j, r, hl, h, hj => by
    have hx := hl x (by simp)
    have := flat_get l i j r (fun q hq => hl q (by simp [hq])) (by simpa using h) hj
    rw [List.flatten_cons, List.getElem?_append_right (by rw [hx, Nat.succ_mul]; omega), ← this, hx]
    congr 1; rw [Nat.succ_mul]; omega
theorem flat_len {sz : Nat} : ∀ (l : List (List Value)), (∀ r ∈ l, r.length = sz) → l.flatten.length = l.length * sz
  | [], _ => by simp
  | x :: l, hl => by rw [List.flatten_cons, List.length_append, flat_len l (fun q hq => hl q (by simp [hq])), hl x (by simp), List.length_cons, Nat.succ_mul]; omega
/-- a slice of any elements: it reads as rows, each of which is some element -/
theorem Rdt.rows {α : Type} {Φ : α → List Value → Prop} {e sz : Nat} (h : Rdt enc P W t cs) (ht : P.underlying t = some (.slice e)) (hc : P.cellsOf e = sz) (hsz : 0 < sz) (hl : ∀ a cs, Φ a cs → cs.length = sz) (he : ∀ cs, Rdt enc P W e cs → ∃ a, Φ a cs) :
    ∃ u css, ∃ xs : List α, cs = [u] ∧ Rd 0 W.heap.size W sz u xs.length css ∧ ∀ i a, xs[i]? = some a → Φ a ((css.drop (i * sz)).take sz) := by
  obtain ⟨n, x, h⟩ := h
  rcases DataW.trod_slice ht h with ⟨rfl, -⟩ | ⟨ad, len, cap, elems, rest, m, -, rfl, -, -, hlc, hcm, hlen, hel, -, -⟩
  · exact ⟨_, [], [], rfl, Rd.nil _ _ _ _, fun i a h => by simp at h⟩
  · have each : ∀ i, i < len → ∃ q : α × List Value, W.cells? 0 (ad.add (i * sz)) sz = some q.2 ∧ Φ q.1 q.2 := fun i hi => by
      have h1 := hel i hi
      rw [hc, List.getElem?_eq_getElem (by omega)] at h1
      obtain ⟨r, h2, h3⟩ := Option.bind_eq_some_iff.1 h1
      obtain ⟨a, ha⟩ := he r ⟨m, _, h3⟩
      exact ⟨(a, r), h2, ha⟩
    obtain ⟨qs, hql, hq⟩ := list_of len each
    have hrl : ∀ r ∈ qs.map (·.2), r.length = sz := fun r hr => by
      obtain ⟨q, hq1, rfl⟩ := List.mem_map.1 hr
      obtain ⟨i, hi⟩ := List.getElem?_of_mem hq1
      exact hl _ _ (hq i q hi).2
    have hcell : ∀ i j (r : List Value), (qs.map (·.2))[i]? = some r → j < sz → W.cell? (ad.add (i * sz + j)) = r[j]? := fun i j r hr hj => by
      rw [List.getElem?_map, Option.map_eq_some_iff] at hr
      obtain ⟨q, hq1, rfl⟩ := hr
      obtain ⟨-, h2, h3⟩ := World.cells?_some (hq i q hq1).1
      have := h3 j hj
      rw [← this, addr_add2]
    have hfl := flat_len (qs.map (·.2)) hrl
    rw [List.length_map, hql] at hfl
    have hsp : 0 < len → ad.spot = none ∧ ad.block < W.heap.size := fun h0 => by
      obtain ⟨q, hq0⟩ : ∃ q, qs[0]? = some q := ⟨_, List.getElem?_eq_getElem (by omega)⟩
      have hr0 : (qs.map (·.2))[0]? = some q.2 := by simp [hq0]
      have h1 := hcell 0 0 q.2 hr0 hsz
      have hq2 := hrl q.2 (List.mem_of_getElem? hr0)
      rw [Nat.zero_mul, Nat.add_zero, show ad.add 0 = ad from rfl, List.getElem?_eq_getElem (by omega)] at h1
      refine ⟨?_, block_lt_of_cell h1⟩
      unfold World.cell? at h1
      split at h1
      · split at h1
        · cases h1
        · rename_i hs; simpa using hs
      · cases h1
    refine ⟨_, (qs.map (·.2)).flatten, qs.map (·.1), rfl, ?_, fun i a ha => ?_⟩
    · rw [List.length_map, hql]
      refine ⟨hfl, by omega, .inr ⟨ad, cap, rfl, hlc, hcm, fun j hj => ?_, fun h0 => ⟨(hsp h0).1, Nat.zero_le _, (hsp h0).2⟩⟩⟩
      rw [hfl] at hj
      have hlen0 : 0 < len := by rcases Nat.eq_zero_or_pos len with h | h; · rw [h] at hj; simp at hj
                                 · exact h
      have hi : j / sz < len := Nat.div_lt_of_lt_mul (by rw [Nat.mul_comm]; exact hj)
      have hm := Nat.mod_lt j hsz
      have ej : j = j / sz * sz + j % sz := by rw [Nat.mul_comm]; exact (Nat.div_add_mod j sz).symm
      obtain ⟨q, hq1⟩ : ∃ q, qs[j / sz]? = some q := ⟨_, List.getElem?_eq_getElem (by omega)⟩
      have hr1 : (qs.map (·.2))[j / sz]? = some q.2 := by simp [hq1]
      have h1 := hcell (j / sz) (j % sz) q.2 hr1 hm
      have h2 := flat_get _ (j / sz) (j % sz) q.2 hrl hr1 hm
      rw [← ej] at h1 h2
      rw [h2, ← h1]
      obtain ⟨b, o, sp⟩ := ad
      have : sp = none := (hsp hlen0).1
      subst this
      rw [addr_add]
    · rw [List.getElem?_map, Option.map_eq_some_iff] at ha
      obtain ⟨q, hq1, rfl⟩ := ha
      have hr1 : (qs.map (·.2))[i]? = some q.2 := by simp [hq1]
      have hq2 := hrl q.2 (List.mem_of_getElem? hr1)
      have : ((qs.map (·.2)).flatten.drop (i * sz)).take sz = q.2 := by
        apply List.ext_getElem?
        intro j
        rcases Nat.lt_or_ge j sz with hj | hj
        · rw [List.getElem?_take_of_lt hj, List.getElem?_drop, flat_get _ i j q.2 hrl hr1 hj]
        · rw [List.getElem?_eq_none (by simp; omega), List.getElem?_eq_none (by omega)]
      rw [this]
      exact (hq i q hq1).2
theorem rows_flat {α : Type} {f : α → List Value} {sz : Nat} : ∀ (xs : List α) (css : List Value), css.length = xs.length * sz → (∀ a, (f a).length = sz) → (∀ i a, xs[i]? = some a → (css.drop (i * sz)).take sz = f a) → css = xs.flatMap f
  | [], css, hl, _, _ => by simpa using List.eq_nil_of_length_eq_zero (by simpa using hl)
  | x :: xs, css, hl, hf, h => by
    have h0 := h 0 x rfl
    rw [Nat.zero_mul, List.drop_zero] at h0
    have hr := rows_flat xs (css.drop sz) (by rw [List.length_drop, hl, List.length_cons, Nat.succ_mul]; omega) hf (fun i a hi => by
      have := h (i + 1) a (by simpa using hi)
      rw [List.drop_drop, ← this]; congr 2; rw [Nat.succ_mul]; omega)
    rw [List.flatMap_cons, ← h0, ← hr, List.take_append_drop]
/-- the same, where an element's cells are its own -/
theorem Rdt.flat {α : Type} {f : α → List Value} {e sz : Nat} (h : Rdt enc P W t cs) (ht : P.underlying t = some (.slice e)) (hc : P.cellsOf e = sz) (hsz : 0 < sz) (hl : ∀ a, (f a).length = sz) (he : ∀ cs, Rdt enc P W e cs → ∃ a, cs = f a) :
    ∃ u, ∃ xs : List α, cs = [u] ∧ Rd 0 W.heap.size W sz u xs.length (xs.flatMap f) := by
  obtain ⟨u, css, xs, rfl, hR, hx⟩ := h.rows (Φ := fun a cs => cs = f a) ht hc hsz (fun a cs h => by rw [h]; exact hl a) he
  rw [rows_flat xs css hR.1 hl hx] at hR
  exact ⟨u, xs, rfl, hR⟩
/-- an argument of a struct's type -/
theorem rdt_agg {fs : Array Field} {base : Nat} {v : Value} {d : DataW H} {ps : List MemPlace} (ht : P.underlying t = some (.struct fs)) (hv : Value.okWide P W .any base t v) (h : DataW.Trod enc P W 0 (fun _ => true) true t v d ps) : ∃ cs : List Value, v = .agg cs.toArray ∧ Rdt enc P W t cs := by
  obtain ⟨fuel, h⟩ := h
  unfold Value.okWide at hv
  simp only [ht] at hv
  obtain ⟨cs, rfl, -, -⟩ := hv
  exact ⟨cs.toList, rfl, fuel, _, h⟩
end
end Go.Proofs.YtndabhdepjnbcaaGreat

namespace Go.Proofs.YtndabhdepjnbcaaGreat
open Go.ChangeShapes Go.WideShapes Go.ChangeAt Go.RowKit Go.Joins
section
variable {H : Type} {enc : TypeId × Value → H} {W : World} {cs : List Value}
theorem rdt_nm (h : Rdt enc Tryz.prog W 25 cs) : ∃ n : Nm, cs = n.cells.toList := by
  have hl := h.len_struct Tryz.underlying25
  rw [show Tryz.prog.cellsOf 25 = 3 by kernel_rfl] at hl
  match cs, hl with
  | [c0, c1, c2], _ =>
    have k1 : Tryz.prog.cellsOf 3 = 1 := by kernel_rfl
    obtain ⟨z0, e0, -⟩ := (show Rdt enc Tryz.prog W 3 [c0] from h.field Tryz.underlying25 0 rfl k1).i64 Tryz.underlying3
    obtain ⟨z1, e1, -⟩ := (show Rdt enc Tryz.prog W 3 [c1] from h.field Tryz.underlying25 1 rfl k1).i64 Tryz.underlying3
    obtain ⟨z2, e2, -⟩ := (show Rdt enc Tryz.prog W 3 [c2] from h.field Tryz.underlying25 2 rfl k1).i64 Tryz.underlying3
    cases e0; cases e1; cases e2
    exact ⟨⟨z0, z1, z2⟩, rfl⟩
theorem rdt_v8 (h : Rdt enc Tryz.prog W 53 cs) : ∃ v : V8, cs = v.cellsL := by
  have hl := h.len_array Tryz.underlying53
  rw [show Tryz.prog.cellsOf 53 = 8 by kernel_rfl] at hl
  match cs, hl with
  | [c0, c1, c2, c3, c4, c5, c6, c7], _ =>
    have k1 : Tryz.prog.cellsOf 5 = 1 := by kernel_rfl
    obtain ⟨z0, e0⟩ := (show Rdt enc Tryz.prog W 5 [c0] from h.elem Tryz.underlying53 k1 0 (by omega)).u8 Tryz.underlying5
    obtain ⟨z1, e1⟩ := (show Rdt enc Tryz.prog W 5 [c1] from h.elem Tryz.underlying53 k1 1 (by omega)).u8 Tryz.underlying5
    obtain ⟨z2, e2⟩ := (show Rdt enc Tryz.prog W 5 [c2] from h.elem Tryz.underlying53 k1 2 (by omega)).u8 Tryz.underlying5
    obtain ⟨z3, e3⟩ := (show Rdt enc Tryz.prog W 5 [c3] from h.elem Tryz.underlying53 k1 3 (by omega)).u8 Tryz.underlying5
    obtain ⟨z4, e4⟩ := (show Rdt enc Tryz.prog W 5 [c4] from h.elem Tryz.underlying53 k1 4 (by omega)).u8 Tryz.underlying5
    obtain ⟨z5, e5⟩ := (show Rdt enc Tryz.prog W 5 [c5] from h.elem Tryz.underlying53 k1 5 (by omega)).u8 Tryz.underlying5
    obtain ⟨z6, e6⟩ := (show Rdt enc Tryz.prog W 5 [c6] from h.elem Tryz.underlying53 k1 6 (by omega)).u8 Tryz.underlying5
    obtain ⟨z7, e7⟩ := (show Rdt enc Tryz.prog W 5 [c7] from h.elem Tryz.underlying53 k1 7 (by omega)).u8 Tryz.underlying5
    cases e0; cases e1; cases e2; cases e3; cases e4; cases e5; cases e6; cases e7
    exact ⟨⟨z0, z1, z2, z3, z4, z5, z6, z7⟩, rfl⟩
theorem rdt_wr (h : Rdt enc Tryz.prog W 60 cs) : ∃ x : Wr, cs = x.cellsL := by
  have hl := h.len_struct Tryz.underlying60
  rw [show Tryz.prog.cellsOf 60 = 9 by kernel_rfl] at hl
  match cs, hl with
  | [c0, c1, c2, c3, c4, c5, c6, c7, c8], _ =>
    obtain ⟨z0, e0, -⟩ := (show Rdt enc Tryz.prog W 3 [c0] from h.field Tryz.underlying60 0 rfl (k := 1) (by kernel_rfl)).i64 Tryz.underlying3
    obtain ⟨v, e1⟩ := rdt_v8 (show Rdt enc Tryz.prog W 53 [c1, c2, c3, c4, c5, c6, c7, c8] from h.field Tryz.underlying60 1 rfl (k := 8) (by kernel_rfl))
    cases e0
    exact ⟨⟨z0, v⟩, by rw [e1]⟩
theorem rdt_ws {t : TypeId} (h : Rdt enc Tryz.prog W t cs) (ht : Tryz.prog.underlying t = some (.slice 60)) : ∃ u x, cs = [u] ∧ Ws 0 W.heap.size W u x :=
  h.flat (f := Wr.cellsL) ht (by kernel_rfl) (by omega) (fun _ => rfl) (fun _ h => rdt_wr h)
theorem rdt_rec (h : Rdt enc Tryz.prog W 30 cs) : ∃ (r : Rc) (v : Value) (x : List Wr), cs = (r.cells v).toList ∧ Ws 0 W.heap.size W v x ∧ (-128 ≤ r.kind ∧ r.kind ≤ 127) ∧ r.shards ≤ 9223372036854775807 := by
  have hl := h.len_struct Tryz.underlying30
  rw [show Tryz.prog.cellsOf 30 = 12 by kernel_rfl] at hl
  match cs, hl with
  | [c0, c1, c2, c3, c4, c5, c6, c7, c8, c9, c10, c11], _ =>
    have k1 : Tryz.prog.cellsOf 3 = 1 := by kernel_rfl
    obtain ⟨z0, e0, hz0⟩ := (show Rdt enc Tryz.prog W 23 [c0] from h.field Tryz.underlying30 0 rfl (k := 1) (by kernel_rfl)).int Tryz.underlying23
    obtain ⟨n, e1⟩ := rdt_nm (show Rdt enc Tryz.prog W 25 [c1, c2, c3] from h.field Tryz.underlying30 1 rfl (k := 3) (by kernel_rfl))
    obtain ⟨y, e4⟩ := (show Rdt enc Tryz.prog W 4 [c4] from h.field Tryz.underlying30 2 rfl (k := 1) (by kernel_rfl)).bool Tryz.underlying4
    obtain ⟨u, x, e5, hw⟩ := rdt_ws (show Rdt enc Tryz.prog W 26 [c5] from h.field Tryz.underlying30 3 rfl (k := 1) (by kernel_rfl)) Tryz.underlying26
    obtain ⟨z6, e6, -⟩ := (show Rdt enc Tryz.prog W 3 [c6] from h.field Tryz.underlying30 4 rfl k1).i64 Tryz.underlying3
    obtain ⟨z7, e7, -⟩ := (show Rdt enc Tryz.prog W 3 [c7] from h.field Tryz.underlying30 5 rfl k1).i64 Tryz.underlying3
    obtain ⟨z8, e8, hz8⟩ := (show Rdt enc Tryz.prog W 3 [c8] from h.field Tryz.underlying30 6 rfl k1).i64 Tryz.underlying3
    have hc := (show Rdt enc Tryz.prog W 28 [c9, c10] from h.field Tryz.underlying30 7 rfl (k := 2) (by kernel_rfl))
    obtain ⟨z9, e9, -⟩ := (show Rdt enc Tryz.prog W 3 [c9] from hc.field Tryz.underlying28 0 rfl k1).i64 Tryz.underlying3
    obtain ⟨z10, e10, -⟩ := (show Rdt enc Tryz.prog W 3 [c10] from hc.field Tryz.underlying28 1 rfl k1).i64 Tryz.underlying3
    obtain ⟨z11, e11, -⟩ := (show Rdt enc Tryz.prog W 3 [c11] from h.field Tryz.underlying30 8 rfl k1).i64 Tryz.underlying3
    have e1' : c1 = .int .i64 n.stamp ∧ c2 = .int .i64 n.inc ∧ c3 = .int .i64 n.try_ := by simpa using e1
    obtain ⟨rfl, rfl, rfl⟩ := e1'
    cases e0; cases e4; cases e5; cases e6; cases e7; cases e8; cases e9; cases e10; cases e11
    have m1 : IntKind.i8.min = -128 := rfl
    have m2 : IntKind.i8.max = 127 := rfl
    exact ⟨⟨z0, n, y, z6, z7, z8, z9, z10, z11⟩, c5, x, rfl, hw, by simp only; omega, hz8.2⟩
end
end Go.Proofs.YtndabhdepjnbcaaGreat

