/-
  What JudgeNil rests on, part 8.
-/
import Derived.Test.YtdcgcgifgnaccaaGreatP7
namespace Go.Proofs.YtdcgcgifgnaccaaGreat
open Go.RowKit Go.Sort
set_option maxRecDepth 10000 in
theorem zeroI (w : World) : (zeroValue 3).run Tryz.prog w = .ok (.int .i64 0) w := by
 obtain ⟨i, hi, hz⟩ : ∃ i, Tryz.prog.info? 3 = some i ∧ i.zero = some (.int .i64 0) := by
  refine ⟨_, rfl, ?_⟩
  kernel_rfl
 simp [zeroValue, typeInfo, hi, hz, go_sem]
theorem wp_via {P : Program} {x : Code} {Q : Exit → Act → World → Prop} {a : Act} {w : World} (I : Act → World → Prop) (h1 : x.wp P (Exit.then I Q) a w) (h2 : ∀ a w, I a w → Q .normal a w) : x.wp P Q a w :=
 wp_mono h1 fun e a w h => by cases e <;> first | exact h2 a w h | exact h
structure CntI (r : List Nm) (k : Nat) (ml : Mes Nm) (c : Nat) : Prop where
 good : Good encNm ml c
 keys : ∀ n, n ∈ ml.map (·.1) ↔ n ∈ r.take k
 one : ∀ n ∈ r.take k, getM ml n = some (.int .i64 1)
theorem CntI.zero (r : List Nm) : CntI r 0 [] 0 := ⟨good_nil 0, fun n => by simp, fun n h => by cases h⟩
theorem CntI.new {r : List Nm} {k c : Nat} {ml : Mes Nm} {n : Nm} (h : CntI r k ml c) (hn : r[k]? = some n) (hno : n ∉ ml.map (·.1)) : CntI r (k + 1) (newM encNm ml c n (.int .i64 1)) (c + 1) := by
 have ht : r.take (k + 1) = r.take k ++ [n] := by rw [List.take_add_one, hn]; rfl
 refine ⟨h.good.new hno _, fun m => ?_, fun m hm => ?_⟩
 ·rw [ht, List.map_append, List.mem_append, List.mem_append, h.keys]; rfl
 ·rw [getM_new hno]
  split
  ·rfl
  ·rename_i hne
   rw [ht] at hm
   rcases List.mem_append.1 hm with h1 | h1
   ·exact h.one m h1
   ·exact absurd (List.mem_singleton.1 h1) hne
theorem CntI.has {r : List Nm} {ml : Mes Nm} {c : Nat} (h : CntI r r.length ml c) (n : Nm) : (getM ml n).getD (.int .i64 0) = .int .i64 (if n ∈ r then 1 else 0) := by
 by_cases hn : n ∈ r
 ·rw [h.one n (by rw [List.take_length]; exact hn), if_pos hn]; rfl
 ·rw [getM_none (fun hk => hn (by have := (h.keys n).1 hk; rwa [List.take_length] at this)), if_neg hn]; rfl
theorem ord_nodup {l : List Sn} (h : mayS l) : (ordS l).Nodup := (ord_rises h).imp fun {a b} hab e => by subst e; omega
theorem not_ahead {r : List Nm} (h : r.Nodup) {k : Nat} {n : Nm} (hn : r[k]? = some n) : n ∉ r.take k := by
 intro hm
 obtain ⟨j, hj⟩ := List.getElem?_of_mem hm
 have hjk : j < k := by have := (List.getElem?_eq_some_iff.1 hj).1; rw [List.length_take] at this; omega
 rw [List.getElem?_take_of_lt hjk] at hj
 have := (List.getElem?_inj (List.getElem?_eq_some_iff.1 hj).1 h).1 (hj.trans hn.symm)
 omega
set_option maxHeartbeats 2000000 in
set_option maxRecDepth 10000 in
theorem historyJ_any (va : Option Addr) (vc : Nat) (l : List Sn) (w : World) (hv : Ss 0 w.heap.size w (.slice va l.length vc) l) (hl : l.length ≤ 200) :
 Calls Tryz.prog 13 #[.slice va l.length vc] w fun e w' => ∃ b, e = .returned (.bool b) ∧ Below w.heap.size w w' ∧ (b = true ↔ rightS l) := by
 have M := Mem.start w
 refine qI Tryz.func13 82 ?_; intro a S
 refine nxD (qG [1] S ?_); intro a S
 refine nxA (qG [1] S ?_); intro a S
 refine qC (xs := [.tmp 18]) S (qE Tryz.func39) rfl (orderO_any va vc l _ (M.argW hv) hl) ?_
 rintro _ w1 ⟨er, lo, hi, a0, c0, r, rfl, M1, hrl, her, hro⟩; refine ⟨_, rfl, ?_⟩; intro a S; replace M := M.join M1; clear M1; simp only [List.cons_append, List.nil_append] at M
 refine qG [1, 1, 1, 1, 1] S ?_; intro a S
 refine nxC (wp_seq (nxD (qG [1, 1] S ?_))); intro a S
 refine nxC (qi 23 S ?_ ?_)
 ·intro h23 S
  refine cT S (nxD (qG [1] S ?_)); intro a S
  refine nxC (wp_ret (then_ret (qO S ?_)))
  exact ⟨false, rfl, M.below, fun h => (by cases h), fun h => absurd (her.2 h.1) h23⟩
 intro h23 S
 refine cF S (wp_skip (then_normal (wp_seq (nxD (qG [1] S ?_))))); intro a S
 refine qC (xs := [.tmp 25]) S (qE Tryz.func21) rfl (replayO_any va vc l _ (M.argW hv) hl) ?_
 rintro _ w2 ⟨er2, st, sr, rfl, hK, hst, her2, hro2⟩; refine ⟨_, rfl, ?_⟩; intro a S; replace M := M.grow hK; clear hK
 have hq1 : (hcells st).length = 256 := by rw [hcells_length, hst]
 refine qG [1, 1, 1, 1] S ?_; intro a S
 refine qN S M (hcells zHm).toArray ?_; intro a w3 bB S M hB
 refine st_storeAll (sz := 256) S M 0 rfl (by kernel_rfl) rfl rfl (by with_reducible first | exact zHm_len | exact hq1) (by exact allOne_hcells _) rfl (by with_reducible first | exact zHm_len | exact hq1) ?_; intro w4 M
 simp only [List.set_cons_zero, List.set_cons_succ] at M
 refine qG [1, 1] S ?_; intro a S
 refine nxA (qG [1, 1, 1] S ?_); intro a S
 refine qi 32 S ?_ ?_
 ·intro h32 S
  refine qG [0, 0, 1] S ?_; intro a S
  replace S := S.keep [0, 2, 3, 4, 23, 6, 7, 35]
  refine nxC (cT S (nxD (qG [1] S ?_))); intro a S
  refine nxC (wp_ret (then_ret (qO S ?_)))
  refine ⟨false, rfl, M.below, fun h => (by cases h), fun h => ?_⟩
  have e1 := her2.2 h.1
  have e3 : sr = true := (congrArg Prod.snd (hro2 e1)).trans h.2.1
  first
   | exact absurd e1 h32
   | (rw [e3] at h35; cases h35)
 intro h32 S
 refine qG [1, 1, 1] S ?_; intro a S
 replace S := S.keep [0, 2, 3, 4, 23, 6, 7, 35]
 refine nxC (qi 35 S ?_ ?_)
 ·intro h35 S
  refine cT S (nxD (qG [1] S ?_)); intro a S
  refine nxC (wp_ret (then_ret (qO S ?_)))
  refine ⟨false, rfl, M.below, fun h => (by cases h), fun h => ?_⟩
  have e1 := her2.2 h.1
  have e3 : sr = true := (congrArg Prod.snd (hro2 e1)).trans h.2.1
  first
   | exact absurd e1 h32
   | (rw [e3] at h35; cases h35)
 intro h35 S
 refine cF S (wp_skip (nxE (qG [1] S ?_))); intro a S
 refine qC (xs := [.tmp 37]) S (qE Tryz.func40) rfl (toldO_any va vc l _ (M.argW hv) hl) ?_
 rintro _ w5 ⟨f, lo1, hi1, a1, c1, ys, lo2, hi2, a2, c2, ns, rfl, M1, hf, hyn⟩; refine ⟨_, rfl, ?_⟩; intro a S; replace M := M.join M1; clear M1; simp only [List.cons_append, List.nil_append] at M
 refine qG [1, 1, 1, 1, 1, 1, 1] S ?_; intro a S
 refine nxC (wp_seq (nxD (qG [1, 1] S ?_))); intro a S
 refine nxC (qi 43 S ?_ ?_)
 ·intro h43 S
  refine cT S (nxD (qG [1] S ?_)); intro a S
  refine nxC (wp_ret (then_ret (qO S ?_)))
  exact ⟨false, rfl, M.below, fun h => (by cases h), fun h => absurd (hf.2 h.1) h43⟩
 intro h43 S
 refine cF S (wp_skip (then_normal (wp_seq ?_)))
 have hm : mayS l := her.1 h23
 have hserial : (rpA l).2 = true := (congrArg Prod.snd (hro2 h32)).symm.trans h35
 have hrs := hro h23
 have hys := (hyn h43).1
 have hns := (hyn h43).2
 have hyl : ys.length ≤ 200 := by rw [hys]; exact Nat.le_trans (yesS_len l) hl
 have hnl : ns.length ≤ 200 := by rw [hns]; exact Nat.le_trans (noS_len l) hl
 have hrn : r.Nodup := by rw [hrs]; exact ord_nodup hm
 refine wp_region_lit (qG [1] S ?_); intro a S
 refine qY S (qH 28 S) ?_; intro a S
 refine st_makeMapN (κ := Nm) S M Tryz.underlying102 rfl rfl rfl ?_; intro a w6 bD S M hB
 refine qG [1] S ?_; intro a S
 refine nxC (wp_seq (nxD (qG [1] S ?_))); intro a S
 refine qY S (qH 28 S) ?_; intro a S
 refine qG [1] S ?_; intro a S
 refine nxC (wp_block (wp_loop_g (fun q a w' => ∃ (k : Nat) (ml : Mes Nm) (c : Nat), k ≤ r.length ∧ q = r.length - k ∧ CntI r k ml c ∧ Sees 82 a [(8, .slice a1 ys.length c1), (9, .slice a2 ns.length c2), (10, .map (some bD)), (47, .slice a0 r.length c0), (48, .int .i64 (r.length : Int)), (49, .int .i64 (k : Int))] ∧ Mem w w' [mapX bD ml c, rowE lo1 hi1 28 3 (.slice a1 ys.length c1) ys.length (nmcells ys), rowE lo2 hi2 28 3 (.slice a2 ns.length c2) ns.length (nmcells ns), rowE lo hi 28 3 (.slice a0 r.length c0) r.length (nmcells r)]) (r.length) ?_ ?_))
 ·skip
  replace M := M.drp 3
  exact ⟨0, [], 0, Nat.zero_le _, rfl, CntI.zero r, S.sub _ rfl, M⟩
 intro m a wl
 rintro ⟨k, ml, c, hk, rfl, hI, S, M⟩
 refine nxD (qG [1] S ?_); intro a S
 refine nxC (wp_seq (qi 50 S ?_ ?_))
 ·intro h50 S
  refine cT S (wp_skip (then_normal (wp_seq (wp_block (wp_seq ?_)))))
  obtain ⟨n, hnk⟩ : ∃ n, r[k]? = some n := ⟨_, List.getElem?_eq_getElem (by omega)⟩
  have hno : n ∉ ml.map (·.1) := fun h => not_ahead hrn hnk ((hI.keys n).1 h)
  refine wp_region_lit (qY S (qX 28 3 S ((M.readAll 3 rfl (show r.length ≤ maxLen by unfold maxLen; omega)))) ?_); intro a S
  try simp only [Int.toNat_natCast, Nat.mul_one, Nat.zero_add] at S
  refine qY S (y_loadAgg S (by kernel_rfl) rfl rfl ((M.readAll 3 rfl (show r.length ≤ maxLen by unfold maxLen; omega)).at_.row (i := k) (nmcells_get hnk) rfl)) ?_; intro a S
  refine qN S M #[.int .i64 0, .int .i64 0, .int .i64 0] ?_; intro a w7 bE S M hB
  refine qS (sz := 3) (us := [_, _, _]) S M 0 ?_; intro w8 M
  refine nxC (wp_via (fun a w' => Sees 82 a [(8, .slice a1 ys.length c1), (9, .slice a2 ns.length c2), (10, .map (some bD)), (47, .slice a0 r.length c0), (48, .int .i64 (r.length : Int)), (49, .int .i64 (k : Int))] ∧ Mem w w' [.blk bE n.cells 28, mapX bD (newM encNm ml c n (.int .i64 1)) (c + 1), rowE lo1 hi1 28 3 (.slice a1 ys.length c1) ys.length (nmcells ys), rowE lo2 hi2 28 3 (.slice a2 ns.length c2) ns.length (nmcells ns), rowE lo hi 28 3 (.slice a0 r.length c0) r.length (nmcells r)]) ?_ ?_)
  ·refine wp_regionK [4, 6] #[false, false, false, false, false, false, false] rfl M (by kernel_rfl) ?_; intro wk M
   refine kP 0 S ?_; intro a S
   refine kR 1 S rfl M (fun w M => qL3 S M 0) ?_; intro a S
   refine k_two 2 4 rfl rfl (by kernel_rfl) ?_ ?_
   ·refine qY S (y_lookupM (pos := 1) S M keyNm hI.good Tryz.underlying102 zeroI rfl rfl rfl) ?_; intro a S
    simp only [Bool.false_eq_true, if_false, getM_none hno, Option.getD_none] at S
    refine nxC ⟨fun _ => ext_refl _, ?_⟩
    refine k_pure 3 S rfl (fun w => y_int (v := .int .i64 1) S rfl rfl rfl) ?_; intro a S
    refine k_one 4 rfl (by kernel_rfl) ?_
    refine st_mapEntryN (pos := 1) S M keyNm hI.good Tryz.underlying102 zeroI hno rfl rfl rfl rfl rfl ?_; intro a wk2 S M
    simp only [List.set_cons_zero, List.set_cons_succ] at M
    refine nxC ⟨fun h => (by cases h), ?_⟩
    refine kP 5 S ?_; intro a S
    refine k_one 6 rfl (by kernel_rfl) ?_
    refine st_entryStoreN (pos := 1) S M hI.good rfl rfl rfl rfl rfl ?_; intro wk3 M
    simp only [List.set_cons_zero, List.set_cons_succ] at M
    refine nxC ⟨fun h => (by cases h), ?_⟩
    refine k_end (by kernel_rfl) ?_
    refine then_normal ?_
    exact ⟨S.sub _ rfl, M⟩
   ·refine st_mapEntryN (pos := 1) S M keyNm hI.good Tryz.underlying102 zeroI hno rfl rfl rfl rfl rfl ?_; intro a wk2 S M
    simp only [List.set_cons_zero, List.set_cons_succ] at M
    refine nxC ⟨fun h => (by cases h), ?_⟩
    refine kP 5 S ?_; intro a S
    refine k_one 2 rfl (by kernel_rfl) ?_
    refine qY S (y_lookupM (pos := 1) S M keyNm (hI.good.new hno _) Tryz.underlying102 zeroI rfl rfl rfl) ?_; intro a S
    simp only [Bool.false_eq_true, if_false, getM_new hno, if_true, Option.getD_some] at S
    refine nxC ⟨fun _ => ext_refl _, ?_⟩
    refine k_pure 3 S rfl (fun w => y_int (v := .int .i64 1) S rfl rfl rfl) ?_; intro a S
    refine k_one 6 rfl (by kernel_rfl) ?_
    refine st_entryStoreN (pos := 1) S M hI.good rfl rfl rfl rfl rfl ?_; intro wk3 M
    simp only [List.set_cons_zero, List.set_cons_succ] at M
    refine nxC ⟨fun h => (by cases h), ?_⟩
    refine k_end (by kernel_rfl) ?_
    refine then_normal ?_
    exact ⟨S.sub _ rfl, M⟩
  rintro a wk9 ⟨S, M⟩
  refine block_normal (nxF (qA S ?_)); intro a S
  refine qG [1] S ?_; intro a S
  refine nxC ?_
  skip
  replace M := M.drp 0
  exact ⟨r.length - (k + 1), by omega, k + 1, _, _, by omega, rfl, hI.new hnk hno, S.sub _ rfl, M⟩
 intro h50 S
 refine cF S (wp_exit (then_exit (then_exit (block_hit (then_normal (wp_seq (wp_seq ?_)))))))
 obtain rfl : k = r.length := by omega
 refine wp_region_lit (qG [1] S ?_); intro a S
 refine qY S (qH 28 S) ?_; intro a S
 refine qG [1] S ?_; intro a S
 refine nxC (wp_block (wp_loop_g (fun q a w' => ∃ k : Nat, k ≤ ys.length ∧ q = ys.length - k ∧ (∀ n ∈ ys.take k, n ∈ r) ∧ Sees 82 a [(9, .slice a2 ns.length c2), (10, .map (some bD)), (60, .slice a1 ys.length c1), (61, .int .i64 (ys.length : Int)), (62, .int .i64 (k : Int))] ∧ Mem w w' [mapX bD ml c, rowE lo1 hi1 28 3 (.slice a1 ys.length c1) ys.length (nmcells ys), rowE lo2 hi2 28 3 (.slice a2 ns.length c2) ns.length (nmcells ns)]) (ys.length) ?_ ?_))
 ·skip
  replace M := M.drp 3
  exact ⟨0, Nat.zero_le _, rfl, fun n h => (by cases h), S.sub _ rfl, M⟩
 intro m a wl
 rintro ⟨k2, hk2, rfl, hpre, S, M⟩
 refine nxD (qG [1] S ?_); intro a S
 refine nxC (wp_seq (qi 63 S ?_ ?_))
 ·intro h63 S
  refine cT S (wp_skip (then_normal (wp_seq (wp_block (wp_seq ?_)))))
  obtain ⟨n, hnk⟩ : ∃ n, ys[k2]? = some n := ⟨_, List.getElem?_eq_getElem (by omega)⟩
  refine wp_region_lit (qY S (qX 28 3 S ((M.readAll 1 rfl (show ys.length ≤ maxLen by unfold maxLen; omega)))) ?_); intro a S
  try simp only [Int.toNat_natCast, Nat.mul_one, Nat.zero_add] at S
  refine qY S (y_loadAgg S (by kernel_rfl) rfl rfl ((M.readAll 1 rfl (show ys.length ≤ maxLen by unfold maxLen; omega)).at_.row (i := k2) (nmcells_get hnk) rfl)) ?_; intro a S
  refine qN S M #[.int .i64 0, .int .i64 0, .int .i64 0] ?_; intro a w9 bE S M hB
  refine qS (sz := 3) (us := [_, _, _]) S M 0 ?_; intro w10 M
  refine nxA (qG [1] S ?_); intro a S
  refine qY S (qL3 S M 0) ?_; intro a S
  refine qY S (y_lookupM (pos := 1) S M (keyNm) (hI.good) Tryz.underlying102 (zeroI) rfl rfl rfl) ?_; intro a S
  simp only [Bool.false_eq_true, if_false, hI.has] at S
  refine qY S (y_int S rfl rfl rfl) ?_; intro a S
  refine nxC (qi 69 S ?_ ?_)
  ·intro h69 S
   refine cT S (nxD (qG [1] S ?_)); intro a S
   refine nxC (wp_ret (block_ret (then_ret (then_ret (block_ret (then_ret (qO S ?_)))))))
   refine ⟨false, rfl, M.below, fun h => (by cases h), fun h => ?_⟩
   have h2 : n ∈ r := by rw [hrs]; exact h.2.2.1 n (by rw [← hys]; exact List.mem_of_getElem? hnk)
   rw [if_pos h2] at h69
   omega
  intro h69 S
  refine cF S (wp_skip (block_normal (nxF (qA S ?_)))); intro a S
  refine qG [1] S ?_; intro a S
  refine nxC ?_
  skip
  replace M := M.drp 0
  have h2 : n ∈ r := by
   by_cases h2 : n ∈ r
   ·exact h2
   ·rw [if_neg h2] at h69; omega
  refine ⟨ys.length - (k2 + 1), by omega, k2 + 1, by omega, rfl, fun m hm2 => ?_, S.sub _ rfl, M⟩
  rw [List.take_add_one, hnk] at hm2
  rcases List.mem_append.1 hm2 with h | h
  ·exact hpre m h
  ·obtain rfl : m = n := by simpa using h
   exact h2
 intro h63 S
 refine cF S (wp_exit (then_exit (then_exit (block_hit (then_normal (wp_seq (wp_seq ?_)))))))
 obtain rfl : k2 = ys.length := by omega
 rw [List.take_length] at hpre
 refine wp_region_lit (qG [1] S ?_); intro a S
 refine qY S (qH 28 S) ?_; intro a S
 refine qG [1] S ?_; intro a S
 refine nxC (wp_block (wp_loop_g (fun q a w' => ∃ k : Nat, k ≤ ns.length ∧ q = ns.length - k ∧ (∀ n ∈ ns.take k, n ∉ r) ∧ Sees 82 a [(10, .map (some bD)), (71, .slice a2 ns.length c2), (72, .int .i64 (ns.length : Int)), (73, .int .i64 (k : Int))] ∧ Mem w w' [mapX bD ml c, rowE lo2 hi2 28 3 (.slice a2 ns.length c2) ns.length (nmcells ns)]) (ns.length) ?_ ?_))
 ·skip
  replace M := M.drp 1
  exact ⟨0, Nat.zero_le _, rfl, fun n h => (by cases h), S.sub _ rfl, M⟩
 intro m a wl
 rintro ⟨k3, hk3, rfl, hpre2, S, M⟩
 refine nxD (qG [1] S ?_); intro a S
 refine nxC (wp_seq (qf 74 S ?_ ?_))
 ·intro h74 S
  refine cF S (wp_exit (then_exit (then_exit (block_hit (nxE (qG [1] S ?_)))))); intro a S
  refine nxC (wp_ret (qO S ?_))
  obtain rfl : k3 = ns.length := by omega
  rw [List.take_length] at hpre2
  refine ⟨true, rfl, M.below, fun _ => ⟨hm, hserial, ?_, ?_⟩, fun _ => rfl⟩
  ·rw [← hys, ← hrs]; exact hpre
  ·rw [← hns, ← hrs]; exact hpre2
 intro h74 S
 refine cT S (wp_skip (then_normal (wp_seq (wp_block (wp_seq ?_)))))
 obtain ⟨n, hnk⟩ : ∃ n, ns[k3]? = some n := ⟨_, List.getElem?_eq_getElem (by omega)⟩
 refine wp_region_lit (qY S (qX 28 3 S ((M.readAll 1 rfl (show ns.length ≤ maxLen by unfold maxLen; omega)))) ?_); intro a S
 try simp only [Int.toNat_natCast, Nat.mul_one, Nat.zero_add] at S
 refine qY S (y_loadAgg S (by kernel_rfl) rfl rfl ((M.readAll 1 rfl (show ns.length ≤ maxLen by unfold maxLen; omega)).at_.row (i := k3) (nmcells_get hnk) rfl)) ?_; intro a S
 refine qN S M #[.int .i64 0, .int .i64 0, .int .i64 0] ?_; intro a w11 bE S M hB
 refine qS (sz := 3) (us := [_, _, _]) S M 0 ?_; intro w12 M
 refine nxA (qG [1] S ?_); intro a S
 refine qY S (qL3 S M 0) ?_; intro a S
 refine qY S (y_lookupM (pos := 1) S M (keyNm) (hI.good) Tryz.underlying102 (zeroI) rfl rfl rfl) ?_; intro a S
 simp only [Bool.false_eq_true, if_false, hI.has] at S
 refine qY S (y_int S rfl rfl rfl) ?_; intro a S
 refine nxC (qi 80 S ?_ ?_)
 ·intro h80 S
  refine cT S (nxD (qG [1] S ?_)); intro a S
  refine nxC (wp_ret (block_ret (then_ret (then_ret (block_ret (then_ret (qO S ?_)))))))
  refine ⟨false, rfl, M.below, fun h => (by cases h), fun h => ?_⟩
  have h2 : n ∉ r := by rw [hrs]; exact h.2.2.2 n (by rw [← hns]; exact List.mem_of_getElem? hnk)
  rw [if_neg h2] at h80
  omega
 intro h80 S
 refine cF S (wp_skip (block_normal (nxF (qA S ?_)))); intro a S
 refine qG [1] S ?_; intro a S
 refine nxC ?_
 skip
 replace M := M.drp 0
 have h2 : n ∉ r := fun h2 => by rw [if_pos h2] at h80; omega
 refine ⟨ns.length - (k3 + 1), by omega, k3 + 1, by omega, rfl, fun m hm2 => ?_, S.sub _ rfl, M⟩
 rw [List.take_add_one, hnk] at hm2
 rcases List.mem_append.1 hm2 with h | h
 ·exact hpre2 m h
 ·obtain rfl : m = n := by simpa using h
  exact h2
end Go.Proofs.YtdcgcgifgnaccaaGreat
namespace Go.Proofs.YtdcgcgifgnaccaaGreat
open Go.RowKit Go.Sort
abbrev cu2 : Su := curOf (suM (firM 2))
theorem own_cu (n : Int) : ownB cu2 n 8 = ownB (firM 2) n 8 := rfl
def NewC (H : List Ent) (bC : Nat) : Prop := ∃ (bl : Nat) (sa : Option Addr) (sc : Nat) (ps : List Value) (cs : Array Value) (dv v0 : Value) (s : Ls) (F : List Ent), CluM H bC sa 2 sc ps cs ∧ cs[34]? = some (.slice none 0 0) ∧ cs[3]? = some (.slice none 0 0) ∧ cs[2]? = some (pB bl) ∧ Ent.blk bl (lgC dv s v0).toArray 206 ∈ H ∧ s.cu = cu2 ∧ ps.length = 2 ∧ SitesE (firM 2) ps F ∧ ∀ e ∈ F, e ∈ H
theorem NewC.mono {H H2 : List Ent} {bC : Nat} (h : NewC H bC) (hs : ∀ e ∈ H, e ∈ H2) : NewC H2 bC := by
 obtain ⟨bl, sa, sc, ps, cs, dv, v0, s, F, h1, h2, h3, h4, h5, h6, h7, h8, h9⟩ := h
 exact ⟨bl, sa, sc, ps, cs, dv, v0, s, F, h1.mono hs, h2, h3, h4, hs _ h5, h6, h7, h8, fun e he => hs _ (h9 e he)⟩
theorem NewC.cons {H : List Ent} {bC : Nat} (h : NewC H bC) (e : Ent) : NewC (e :: H) bC := h.mono fun _ he => .tail _ he
variable {wc w : World} {H : List Ent} {bC : Nat}
theorem shardsC_any {b T : Nat} {cs : Array Value} (sa : Option Addr) (n sc : Nat) (w : World) (B : Blk w b cs T) (h : cs[31]? = some (.slice sa n sc)) : Calls Tryz.prog 19 #[pB b] w fun e w' => e = .returned (.int .i64 (n : Int)) ∧ Below w.heap.size w w' := by
 have M := Mem.start w
 refine qI Tryz.func19 10 ?_; intro a S
 refine nxD (qG [1] S ?_); intro a S
 refine nxC (wp_seq (nxD (qG [1] S ?_))); intro a S
 refine qY S (y_eqlPS (by kernel_rfl) S rfl) ?_; intro a S
 refine nxC (cF S (wp_skip (nxE (qG [1, 1, 32] S ?_)))); intro a S
 refine qY S (y_load S (by kernel_rfl) rfl (by rw [(B.cells0 M.below).cells]; exact h)) ?_; intro a S
 refine qY S (qH 132 S) ?_; intro a S
 refine qG [1] S ?_; intro a S
 refine nxC (wp_ret (qO S ?_))
 exact ⟨rfl, M.below⟩
theorem shardsJ_any (M : Mem wc w H) (h : NewC H bC) : Calls Tryz.prog 19 #[pB bC] w fun e w' => e = .returned (.int .i64 2) ∧ Below w.heap.size w w' := by
 obtain ⟨bl, sa, sc, ps, cs, dv, v0, s, F, h1, h2, h3, h4, h5, h6, h7, h8, h9⟩ := h
 exact shardsC_any sa 2 sc w (M.blkIn h1.blk) h1.row
theorem site_at {m : Su} {ps : List Value} {F : List Ent} (h8 : SitesE m ps F) (h7 : ps.length = 2) {k : Nat} (hk : 1 ≤ k ∧ k ≤ 2) : ∃ v, ps[k - 1]? = some v ∧ SiteE (ownB m (k : Int) 8) (k : Int) v F := by
 obtain ⟨v, hv⟩ : ∃ v, ps[k - 1]? = some v := ⟨_, List.getElem?_eq_getElem (by omega)⟩
 have := h8 (k - 1) v hv
 rw [show ((k - 1 : Nat) : Int) + 1 = (k : Int) by omega] at this
 exact ⟨v, hv, this⟩
theorem downJ_any (M : Mem wc w H) (h : NewC H bC) {k : Nat} (hk : k ≤ 2) : Calls Tryz.prog 55 #[pB bC, .int .i64 (k : Int)] w fun e w' => e = .returned (.bool false) ∧ Below w.heap.size w w' := by
 obtain ⟨bl, sa, sc, ps, cs, dv, v0, s, F, h1, h2, h3, h4, h5, h6, h7, h8, h9⟩ := h
 rcases Nat.eq_zero_or_pos k with rfl | hk0
 ·exact downM_any (h1.r M)
 ·obtain ⟨v, hv, b, bd, bs, da, dc, lo, hi, cs9, es, rfl, hb, hs, hr, hBk, he⟩ := site_at h8 h7 (k := k) ⟨hk0, hk⟩
  exact downS_any (h1.r M) ⟨hk0, hk⟩ hv (M.blkIn (h9 _ hb))
theorem mapJ_any (M : Mem wc w H) (h : NewC H bC) : Calls Tryz.prog 25 #[pB bC] w fun e w' => e = .returned (.agg (mapL (firM 2)).toArray) ∧ Below w.heap.size w w' := by
 obtain ⟨bl, sa, sc, ps, cs, dv, v0, s, F, h1, h2, h3, h4, h5, h6, h7, h8, h9⟩ := h
 have := mapC_any (M.blkIn h1.blk) h4 dv s v0 (M.blkIn h5)
 rw [h6] at this
 exact this
theorem coordJ_any (M : Mem wc w H) (h : NewC H bC) : Calls Tryz.prog 38 #[pB bC] w fun e w' => ∃ a c, e = .returned (.tuple #[.agg #[.slice a 0 c], .int .i64 0]) ∧ Below w.heap.size w w' := by
 obtain ⟨bl, sa, sc, ps, cs, dv, v0, s, F, h1, h2, h3, h4, h5, h6, h7, h8, h9⟩ := h
 exact coordC_any (M.blkIn h1.blk) h1.up h3
theorem historyC2_any (M : Mem wc w H) (h : NewC H bC) : Calls Tryz.prog 22 #[pB bC] w fun e w' => e = .returned (.slice none 0 0) ∧ Below w.heap.size w w' := by
 obtain ⟨bl, sa, sc, ps, cs, dv, v0, s, F, h1, h2, h3, h4, h5, h6, h7, h8, h9⟩ := h
 exact historyC_any (M.blkIn h1.blk) h2
theorem storeJ_any (M : Mem wc w H) (h : NewC H bC) {k : Nat} (hk : 1 ≤ k ∧ k ≤ 2) : Calls Tryz.prog 28 #[pB bC, .int .i64 (k : Int)] w fun e w' => ∃ ra rc, e = .returned (.tuple #[.agg ((shN (ownB (firM 2) (k : Int) 8)).st.cellsL (.slice ra 0 rc)).toArray, .int .i64 0]) ∧ Mem wc w' H := by
 obtain ⟨bl, sa, sc, ps, cs, dv, v0, s, F, h1, h2, h3, h4, h5, h6, h7, h8, h9⟩ := h
 obtain ⟨v, hv, hS⟩ := site_at h8 h7 hk
 exact storeC_any M h1 hk hv hS h9
theorem locksJ_any (M : Mem wc w H) (h : NewC H bC) {k : Nat} (hk : 1 ≤ k ∧ k ≤ 2) : Calls Tryz.prog 20 #[pB bC, .int .i64 (k : Int)] w fun e w' => ∃ a1 c1 a2 c2, e = .returned (.tuple #[.agg #[.slice a1 0 c1, .slice a2 0 c2], .int .i64 0]) ∧ Mem wc w' H := by
 obtain ⟨bl, sa, sc, ps, cs, dv, v0, s, F, h1, h2, h3, h4, h5, h6, h7, h8, h9⟩ := h
 obtain ⟨v, hv, hS⟩ := site_at h8 h7 hk
 exact locksC_any M h1 hk hv hS h9
theorem blockJ_any (M : Mem wc w H) (h : NewC H bC) {k : Nat} (hk : k < 32) : Calls Tryz.prog 23 #[pB bC, .int .i64 (k : Int)] w fun e w' => e = .returned (.tuple #[.agg zV8.cellsL.toArray, .int .i64 0]) ∧ Mem wc w' H := by
 obtain ⟨bl, sa, sc, ps, cs, dv, v0, s, F, h1, h2, h3, h4, h5, h6, h7, h8, h9⟩ := h
 refine blockC_any M h1 h4 h5 h6 (fun k hk => ?_) h7 (fun j v hv => by rw [own_cu]; exact h8 j v hv) h9 hk
 have e3 : k = 0 ∨ k = 1 ∨ k = 2 ∨ k = 3 ∨ k = 4 ∨ k = 5 ∨ k = 6 ∨ k = 7 := by omega
 rcases e3 with rfl | rfl | rfl | rfl | rfl | rfl | rfl | rfl <;> first | exact ⟨1, by decide, by decide, by decide⟩ | exact ⟨2, by decide, by decide, by decide⟩
def encI1 (k : Nat) : List Value := [.int .i64 (k : Int)]
def ShC (b1 bC : Nat) (W : World) : Prop := Blk W b1 #[pB bC] 35 ∧ ∃ (sa : Option Addr) (sc : Nat) (cs : Array Value), Blk W bC cs 130 ∧ cs[31]? = some (.slice sa 2 sc)
theorem shardsN_any (bC : Nat) (w : World) : Calls Tryz.prog 27 #[pB bC] w fun e w' => ∃ b, e = .returned (.func (.func 58) #[] #[pB b]) ∧ Mem w w' [.blk b #[pB bC] 35] := by
 have M := Mem.start w
 refine qI Tryz.func27 4 ?_; intro a S
 refine nxD (st_box S M rfl rfl rfl #[_] rfl ?_); intro a w1 bB S M hB
 refine qG [1] S ?_; intro a S
 refine nxA (qY S (y_makeFunc (fs := []) (cs := [.tmp 1]) S rfl rfl) ?_); intro a S
 refine qG [1] S ?_; intro a S
 refine nxC (wp_ret (qO S ?_))
 exact ⟨bB, rfl, M⟩
theorem two_split {k : Nat} (h : k < 2) : [1, 2] = [1, 2].take k ++ (k + 1) :: [1, 2].drop (k + 1) := by
 have e : k = 0 ∨ k = 1 := by omega
 rcases e with rfl | rfl <;> rfl
theorem shards1_gen (b1 bC : Nat) : Gen Tryz.prog 58 [pB b1] encI1 [1, 2] (ShC b1 bC) := by
 intro ll I w hC hg hY h0
 have M := Mem.start w
 refine calls_enterG Tryz.func58 rfl 14 rfl rfl ?_; intro a S
 refine wpIn_seq ?_
 refine wpI_region (by kernel_rfl) (by rintro _ _ ⟨⟨_, h⟩, -⟩; cases h) ?_
 refine qG [1] S ?_; intro a S
 refine nxC (wpIn_block ?_)
 refine wpI_loop_g (fun m a w' => ∃ (k : Nat), k ≤ 2 ∧ m = 2 - k ∧ Sees 14 a [(0, .func (.yield ll) #[] #[]), (1, pB b1), (3, .int .i64 ((k + 1 : Nat) : Int))] ∧ I ([1, 2].take k) w') (2) ?_ ?_
 ·skip
  exact ⟨0, by omega, rfl, S.sub _ rfl, h0⟩
 intro m a wl
 rintro ⟨k, hk, rfl, S, hI⟩
 have M := Mem.start wl
 obtain ⟨hb1, sa, sc, cs, hbC, hrow⟩ := hC _ _ hI
 refine wpIn_seq ?_
 refine wpIn_seq ?_
 refine wpI_region (by kernel_rfl) (by rintro _ _ ⟨⟨_, h⟩, -⟩; cases h) ?_
 refine qG [1] S ?_; intro a S
 refine qY S (y_load S (by kernel_rfl) rfl (by rw [(hb1.cells0 M.below).cells]; rfl)) ?_; intro a S
 refine qQ (xs := [.tmp 5]) S (qE Tryz.func19) rfl (shardsC_any sa 2 sc _ (hbC.cells0 M.below) hrow) M ?_; intro a w1 S hK M
 refine qG [1] S ?_; intro a S
 refine nxC (qf 7 S ?_ ?_)
 ·intro h7 S
  refine stI_condF S rfl ?_
  refine wpIn_exit ?_
  refine then_exit (then_exit (block_hit (end_noneN S rfl ?_)))
  obtain rfl : k = 2 := by omega
  exact ⟨⟨_, rfl⟩, hg _ _ _ hI M.below⟩
 intro h7 S
 refine stI_condT S rfl ?_
 refine wpIn_skip ?_
 refine then_normal (wpIn_seq ?_)
 refine wpIn_block ?_
 refine wpIn_seq ?_
 refine wpI_preK 2 (by kernel_rfl) (by rintro _ _ ⟨⟨_, h⟩, -⟩; cases h) ?_; simp only [List.take_succ_cons, List.take_zero, List.drop_succ_cons, List.drop_zero]
 refine qG [1, 1] S ?_; intro a S
 refine wpList_nil ?_; refine then_normal ?_
 refine stI_yield (xs := [.tmp 11]) S rfl (by kernel_rfl) rfl rfl (hY ([1, 2].take k) (k + 1) ([1, 2].drop (k + 1)) _ (two_split (by omega)) (hg _ _ _ hI M.below)) ?_
 rintro _ w2 ⟨rfl, hI2⟩; refine ⟨_, rfl, ?_⟩; intro a S; have M := Mem.start w2
 refine list_in (by kernel_rfl) (by rintro _ _ ⟨⟨_, h⟩, -⟩; cases h) ?_
 refine qG [1] S ?_; intro a S
 refine nxC (qi 13 S ?_ ?_)
 ·intro h13 S
  cases h13
 intro h13 S
 refine stI_condF S rfl ?_
 refine wpIn_skip ?_
 refine block_normal (then_normal (wpI_region (by kernel_rfl) (by rintro _ _ ⟨⟨_, h⟩, -⟩; cases h) ?_))
 refine qG [1] S ?_; intro a S
 refine qA S ?_; intro a S
 refine qG [1] S ?_; intro a S
 refine nxC ?_
 refine ⟨2 - (k + 1), by omega, k + 1, by omega, rfl, S.sub _ rfl, ?_⟩
 have e : k = 0 ∨ k = 1 := by omega
 rcases e with rfl | rfl <;> exact hg _ _ _ hI2 M.below
end Go.Proofs.YtdcgcgifgnaccaaGreat

namespace Go.Proofs.YtdcgcgifgnaccaaGreat
open Go.RowKit Go.Sort
def z32 : List Int := List.replicate 32 0
theorem icellAt {zs : List Int} {k : Nat} {z : Int} (h : zs[k]? = some z) : (icells zs).toArray[k]? = some (.int .i64 z) := by
 rw [List.getElem?_toArray]; simp [icells, h]
theorem z32_at {k : Nat} (h : k < 32) : z32[k]? = some 0 := by unfold z32; rw [List.getElem?_replicate, if_pos h]
set_option maxHeartbeats 1000000 in
set_option maxRecDepth 10000 in
theorem check0_any (a1 a2 : Option Addr) (c1 c2 : Nat) (w : World) : Calls Tryz.prog 31 #[.agg #[.slice a1 0 c1, .slice a2 0 c2]] w fun e w' => e = .returned (.int .i64 0) ∧ Below w.heap.size w w' := by
 have M := Mem.start w
 refine qI Tryz.func31 95 ?_; intro a S
 refine nxD (st_box S M rfl rfl rfl #[_, _] rfl ?_); intro a w1 bT S M hB
 refine qG [1] S ?_; intro a S
 refine nxA (qN S M #[.int .i64 0, .int .i64 0, .int .i64 0, .int .i64 0, .int .i64 0, .int .i64 0, .int .i64 0, .int .i64 0, .int .i64 0, .int .i64 0, .int .i64 0, .int .i64 0, .int .i64 0, .int .i64 0, .int .i64 0, .int .i64 0, .int .i64 0, .int .i64 0, .int .i64 0, .int .i64 0, .int .i64 0, .int .i64 0, .int .i64 0, .int .i64 0, .int .i64 0, .int .i64 0, .int .i64 0, .int .i64 0, .int .i64 0, .int .i64 0, .int .i64 0, .int .i64 0] ?_); intro a w2 bHO S M hB
 refine qN S M #[.int .i64 0, .int .i64 0, .int .i64 0, .int .i64 0, .int .i64 0, .int .i64 0, .int .i64 0, .int .i64 0, .int .i64 0, .int .i64 0, .int .i64 0, .int .i64 0, .int .i64 0, .int .i64 0, .int .i64 0, .int .i64 0, .int .i64 0, .int .i64 0, .int .i64 0, .int .i64 0, .int .i64 0, .int .i64 0, .int .i64 0, .int .i64 0, .int .i64 0, .int .i64 0, .int .i64 0, .int .i64 0, .int .i64 0, .int .i64 0, .int .i64 0, .int .i64 0] ?_; intro a w3 bAL S M hB
 refine nxA (st_makeMap (κ := Int) S M rfl rfl ?_); intro a w4 bX S M hB
 refine st_makeMap (κ := Int) S M rfl rfl ?_; intro a w5 bY S M hB
 refine qG [1, 1] S ?_; intro a S
 refine nxC (wp_seq (nxD (qR [1, 5] S M ?_))); intro a S
 refine qY S (qH 57 S) ?_; intro a S
 refine qG [1] S ?_; intro a S
 refine nxC (wp_block (wp_loop_g (fun m a w' => m = 0 ∧ Sees 95 a [(1, .pointer (some ⟨bT, 0, none⟩)), (4, .pointer (some ⟨bAL, 0, none⟩)), (16, .int .i64 0), (17, .int .i64 0)] ∧ Mem w w' [.blk bAL (icells z32).toArray 169, .blk bT #[.slice a1 0 c1, .slice a2 0 c2] 53]) (0) ?_ ?_))
 ·skip
  replace M := M.drp 1
  replace M := M.drp 0
  replace M := M.drp 1
  exact ⟨rfl, S.sub _ rfl, M⟩
 intro m a wl
 rintro ⟨rfl, S, M⟩
 refine nxD (qG [1] S ?_); intro a S
 refine nxC (wp_seq (qi 18 S ?_ ?_))
 ·intro h18 S
  exfalso; omega
 intro h18 S
 refine cF S (wp_exit (then_exit (then_exit (block_hit (then_normal (wp_seq (nxD (qG [1] S ?_)))))))); intro a S
 refine nxC (wp_block (wp_loop_g (fun m a w' => ∃ k : Nat, k ≤ 32 ∧ m = 32 - k ∧ Sees 95 a [(1, .pointer (some ⟨bT, 0, none⟩)), (4, .pointer (some ⟨bAL, 0, none⟩)), (51, .int .i64 (k : Int))] ∧ Mem w w' [.blk bAL (icells z32).toArray 169, .blk bT #[.slice a1 0 c1, .slice a2 0 c2] 53]) (32) ?_ ?_))
 ·skip
  exact ⟨0, by omega, rfl, S.sub _ rfl, M⟩
 intro m a wl
 rintro ⟨k, hk, rfl, S, M⟩
 refine nxD (qG [1] S ?_); intro a S
 refine nxC (wp_seq (qi 52 S ?_ ?_))
 ·intro h52 S
  refine cT S (wp_skip (then_normal (wp_seq (wp_block (nxD (qG [1, 1] S ?_)))))); intro a S
  refine nxC (wp_seq ?_)
  have hk32 : k < 32 := by omega
  refine wp_region_lit (qG [1] S ?_); intro a S
  refine qY S (y_indexA (m := 32) (sz := 1) S (by kernel_rfl) rfl rfl (by first | omega | (simp; done) | (simp; omega))) ?_; intro a S
  try simp only [Int.toNat_natCast, Nat.mul_one, Nat.zero_add] at S
  refine qY S (y_load S (by kernel_rfl) rfl (M.cell 0 rfl (icellAt (z32_at hk32)))) ?_; intro a S
  refine qG [1, 1] S ?_; intro a S
  refine qi 58 S ?_ ?_
  ·intro h58 S
   exfalso; omega
  intro h58 S
  refine qG [0, 0, 0, 0, 1] S ?_; intro a S
  refine nxC (cF S (wp_skip (block_normal (nxF (qA S ?_))))); intro a S
  refine qG [1] S ?_; intro a S
  refine nxC ?_
  exact ⟨32 - (k + 1), by omega, k + 1, by omega, rfl, S.sub _ rfl, M⟩
 intro h52 S
 refine cF S (wp_exit (then_exit (then_exit (block_hit (then_normal (wp_seq (nxD (qR [2, 2] S M ?_)))))))); intro a S
 refine qY S (qH 57 S) ?_; intro a S
 refine qG [1] S ?_; intro a S
 refine nxC (wp_block (wp_loop_g (fun m a w' => m = 0 ∧ Sees 95 a [(67, .int .i64 0), (68, .int .i64 0)] ∧ Mem w w' []) (0) ?_ ?_))
 ·skip
  replace M := M.drp 0
  replace M := M.drp 0
  exact ⟨rfl, S.sub _ rfl, M⟩
 intro m a wl
 rintro ⟨rfl, S, M⟩
 refine nxD (qG [1] S ?_); intro a S
 refine nxC (wp_seq (qi 69 S ?_ ?_))
 ·intro h69 S
  exfalso; omega
 intro h69 S
 refine cF S (wp_exit (then_exit (then_exit (block_hit (nxE (qG [1] S ?_)))))); intro a S
 refine nxC (wp_ret (qO S ?_))
 exact ⟨rfl, M.below⟩
theorem compact0_any (w : World) : Calls Tryz.prog 98 #[.slice none 0 0] w fun e w' => e = .returned (.slice none 0 0) ∧ Below w.heap.size w w' := by
 have M := Mem.start w
 refine qI Tryz.func98 61 ?_; intro a S
 refine nxD (qG [1] S ?_); intro a S
 refine nxC (wp_seq (nxD (qG [1] S ?_))); intro a S
 refine qY S (qH 86 S) ?_; intro a S
 refine qG [1] S ?_; intro a S
 refine nxC (qf 8 S ?_ ?_)
 ·intro h8 S
  exfalso; omega
 intro h8 S
 refine cT S (nxD (qG [1, 1] S ?_)); intro a S
 refine nxC (wp_ret (then_ret (qO S ?_)))
 exact ⟨rfl, M.below⟩
theorem graph0_any (w : World) : Calls Tryz.prog 60 #[.slice none 0 0] w fun e w' => e = .returned (.slice none 0 0) ∧ Below w.heap.size w w' := by
 have M := Mem.start w
 refine qI Tryz.func60 7 ?_; intro a S
 refine nxD (qG [1] S ?_); intro a S
 refine nxA (qG [1] S ?_); intro a S
 refine qC (xs := [.tmp 3, (Operand.func 96)]) S (qE Tryz.func95) rfl (AnyF.slices_SortFunc_none laysG6 none 0 _ _) ?_
 rintro _ w1 ⟨rfl, rfl⟩; refine ⟨_, rfl, ?_⟩; intro a S
 refine nxA (qG [1] S ?_); intro a S
 refine qQ (xs := [.tmp 5]) S (qE Tryz.func98) rfl (compact0_any _) M ?_; intro a w2 S hK M
 refine qG [1] S ?_; intro a S
 refine nxC (wp_ret (qO S ?_))
 exact ⟨rfl, M.below⟩
set_option maxHeartbeats 1000000 in
theorem edges0_any (a1 a2 : Option Addr) (c1 c2 : Nat) (w : World) : Calls Tryz.prog 30 #[.agg #[.slice a1 0 c1, .slice a2 0 c2]] w fun e w' => e = .returned (.tuple #[.slice none 0 0, .int .i64 0]) ∧ Below w.heap.size w w' := by
 have M := Mem.start w
 refine qI Tryz.func30 100 ?_; intro a S
 refine nxD (st_box S M rfl rfl rfl #[_, _] rfl ?_); intro a w1 bT S M hB
 refine qG [1, 1] S ?_; intro a S
 refine nxC (wp_seq (nxD (qY S (qL2 S M 0) ?_))); intro a S
 refine qQ (xs := [.tmp 16]) S (qE Tryz.func31) rfl (check0_any a1 a2 c1 c2 _) M ?_; intro a w2 S hK M
 refine qG [1] S ?_; intro a S
 refine nxA (qG [1, 1] S ?_); intro a S
 refine nxC (qi 19 S ?_ ?_)
 ·intro h19 S
  exact absurd rfl h19
 intro h19 S
 refine cF S (wp_skip (nxE (qN S M #[.slice none 0 0, .slice none 0 0, .slice none 0 0, .slice none 0 0, .slice none 0 0, .slice none 0 0, .slice none 0 0, .slice none 0 0, .slice none 0 0, .slice none 0 0, .slice none 0 0, .slice none 0 0, .slice none 0 0, .slice none 0 0, .slice none 0 0, .slice none 0 0, .slice none 0 0, .slice none 0 0, .slice none 0 0, .slice none 0 0, .slice none 0 0, .slice none 0 0, .slice none 0 0, .slice none 0 0, .slice none 0 0, .slice none 0 0, .slice none 0 0, .slice none 0 0, .slice none 0 0, .slice none 0 0, .slice none 0 0, .slice none 0 0] ?_))); intro a w3 bHO S M hB
 refine qN S M #[.slice none 0 0, .slice none 0 0, .slice none 0 0, .slice none 0 0, .slice none 0 0, .slice none 0 0, .slice none 0 0, .slice none 0 0, .slice none 0 0, .slice none 0 0, .slice none 0 0, .slice none 0 0, .slice none 0 0, .slice none 0 0, .slice none 0 0, .slice none 0 0, .slice none 0 0, .slice none 0 0, .slice none 0 0, .slice none 0 0, .slice none 0 0, .slice none 0 0, .slice none 0 0, .slice none 0 0, .slice none 0 0, .slice none 0 0, .slice none 0 0, .slice none 0 0, .slice none 0 0, .slice none 0 0, .slice none 0 0, .slice none 0 0] ?_; intro a w4 bAH S M hB
 refine nxC (wp_seq (nxD (qR [1, 3] S M ?_))); intro a S
 refine qY S (qH 57 S) ?_; intro a S
 refine qG [1] S ?_; intro a S
 refine nxC (wp_block (wp_loop_g (fun m a w' => m = 0 ∧ Sees 100 a [(1, .pointer (some ⟨bT, 0, none⟩)), (23, .int .i64 0), (24, .int .i64 0)] ∧ Mem w w' [.blk bT #[.slice a1 0 c1, .slice a2 0 c2] 53]) (0) ?_ ?_))
 ·skip
  replace M := M.drp 1
  replace M := M.drp 0
  exact ⟨rfl, S.sub _ rfl, M⟩
 intro m a wl
 rintro ⟨rfl, S, M⟩
 refine nxD (qG [1] S ?_); intro a S
 refine nxC (wp_seq (qi 25 S ?_ ?_))
 ·intro h25 S
  exfalso; omega
 intro h25 S
 refine cF S (wp_exit (then_exit (then_exit (block_hit (nxE (qG [1] S ?_)))))); intro a S
 refine nxC (wp_seq (nxD (qR [2, 1] S M ?_))); intro a S
 refine qY S (qH 57 S) ?_; intro a S
 refine qG [1] S ?_; intro a S
 refine nxC (wp_block (wp_loop_g (fun m a w' => m = 0 ∧ Sees 100 a [(9, .slice none 0 0), (41, .int .i64 0), (42, .int .i64 0)] ∧ Mem w w' []) (0) ?_ ?_))
 ·skip
  replace M := M.drp 0
  exact ⟨rfl, S.sub _ rfl, M⟩
 intro m a wl
 rintro ⟨rfl, S, M⟩
 refine nxD (qG [1] S ?_); intro a S
 refine nxC (wp_seq (qi 43 S ?_ ?_))
 ·intro h43 S
  exfalso; omega
 intro h43 S
 refine cF S (wp_exit (then_exit (then_exit (block_hit (nxE (qG [1] S ?_)))))); intro a S
 refine qQ (xs := [.tmp 98]) S (qE Tryz.func60) rfl (graph0_any _) M ?_; intro a w5 S hK M
 refine qG [1, 1] S ?_; intro a S
 refine nxC (wp_ret (qOO S ?_))
 exact ⟨rfl, M.below⟩
theorem blocksNil_any (w : World) : Calls Tryz.prog 7 #[.pointer none] w fun e w' => e = .returned (.tuple #[.bool false, .int .i64 1]) ∧ Below w.heap.size w w' := by
 have M := Mem.start w
 refine qI Tryz.func7 41 ?_; intro a S
 refine nxD (qG [1, 1] S ?_); intro a S
 refine nxC (wp_seq (nxD (qG [1] S ?_))); intro a S
 refine qY S (y_eqlPN (by kernel_rfl) S rfl) ?_; intro a S
 refine nxC (cT S (nxD (qG [1, 1] S ?_))); intro a S
 refine nxC (wp_ret (then_ret (qOO S ?_)))
 exact ⟨rfl, M.below⟩
theorem ownedNil_any (w : World) : Calls Tryz.prog 8 #[.pointer none] w fun e w' => e = .returned (.tuple #[.bool false, .int .i64 1]) ∧ Below w.heap.size w w' := by
 have M := Mem.start w
 refine calls_enterM Tryz.func8 rfl 49 rfl rfl ?_; intro a S
 refine nxD (st_box S M rfl rfl rfl #[_] rfl ?_); intro a w1 b1 S M hB
 refine qN S M #[.bool false] ?_; intro a w2 b2 S M hB
 refine qN S M #[.int .i64 0] ?_; intro a w3 b3 S M hB
 refine nxC (wp_seq (nxD (qR [3] S M ?_))); intro a S
 refine qY S (y_eqlPN (by kernel_rfl) S rfl) ?_; intro a S
 refine nxC (cT S (nxD (qS (sz := 1) (us := [_]) S M 1 ?_))); intro w4 M
 refine qS (sz := 1) (us := [_]) S M 0 ?_; intro w5 M
 refine nxC (wp_ret (then_ret (end_plain ?_)))
 refine end_two S rfl (res_cell (by kernel_rfl) rfl (M.cell 1 rfl rfl)) (res_cell (by kernel_rfl) rfl (M.cell 0 rfl rfl)) ?_
 exact ⟨rfl, M.below⟩
theorem waitsNil_any (w : World) : Calls Tryz.prog 9 #[.pointer none] w fun e w' => e = .returned (.tuple #[.bool false, .int .i64 1]) ∧ Below w.heap.size w w' := by
 have M := Mem.start w
 refine calls_enterM Tryz.func9 rfl 50 rfl rfl ?_; intro a S
 refine nxD (st_box S M rfl rfl rfl #[_] rfl ?_); intro a w1 b1 S M hB
 refine qG [1, 1] S ?_; intro a S
 refine nxC (wp_scope_straight ?_)
 refine wp_seq (nxD (qR [1] S M ?_)); intro a S
 refine qY S (y_eqlPN (by kernel_rfl) S rfl) ?_; intro a S
 refine nxC (cT S (nxD (qG [1, 1] S ?_))); intro a S
 refine nxC (wp_ret (then_ret (sc_ret ?_)))
 refine end_plain ?_
 refine qOO S ?_
 exact ⟨rfl, M.below⟩
theorem allNil_any (w : World) : Calls Tryz.prog 10 #[.pointer none] w fun e w' => e = .returned (.tuple #[.bool false, .int .i64 1]) ∧ Below w.heap.size w w' := by
 have M := Mem.start w
 refine qI Tryz.func10 46 ?_; intro a S
 refine nxD (qG [1, 1] S ?_); intro a S
 refine nxC (wp_seq (nxD (qG [1] S ?_))); intro a S
 refine qY S (y_eqlPN (by kernel_rfl) S rfl) ?_; intro a S
 refine nxC (cT S (nxD (qG [1, 1] S ?_))); intro a S
 refine nxC (wp_ret (then_ret (qOO S ?_)))
 exact ⟨rfl, M.below⟩
theorem oldestNil_any (w : World) : Calls Tryz.prog 11 #[.pointer none] w fun e w' => e = .returned (.tuple #[.agg #[.int .i64 0, .int .i64 0, .int .i64 0], .bool false]) ∧ Below w.heap.size w w' := by
 have M := Mem.start w
 refine calls_enterM Tryz.func11 rfl 48 rfl rfl ?_; intro a S
 refine nxD (st_box S M rfl rfl rfl #[_] rfl ?_); intro a w1 b1 S M hB
 refine qN S M #[.int .i64 0, .int .i64 0, .int .i64 0] ?_; intro a w2 b2 S M hB
 refine qG [1] S ?_; intro a S
 refine nxC (wp_seq (nxD (qR [2] S M ?_))); intro a S
 refine qY S (y_eqlPN (by kernel_rfl) S rfl) ?_; intro a S
 refine nxC (cT S (nxD (qY S (y_build (ps := []) (pl := [(0, 1), (1, 1), (2, 1)]) (z := [.int .i64 0, .int .i64 0, .int .i64 0]) (cs := [_, _, _]) S (by kernel_rfl) rfl (rfl)) ?_))); intro a S
 refine qS (sz := 3) (us := [_, _, _]) S M 0 ?_; intro w3 M
 refine qG [1] S ?_; intro a S
 refine nxC (wp_ret (then_ret (end_plain ?_)))
 refine end_two S rfl (res_agg (cs := [_, _, _]) (by kernel_rfl) rfl rfl (M.cellsAt (k := 3) 0 rfl rfl)) (res_tmp rfl) ?_
 exact ⟨rfl, M.below⟩
theorem settledNil_any (w : World) : Calls Tryz.prog 12 #[.pointer none] w fun e w' => e = .returned (.bool false) ∧ Below w.heap.size w w' := by
 have M := Mem.start w
 refine calls_enterM Tryz.func12 rfl 45 rfl rfl ?_; intro a S
 refine nxD (st_box S M rfl rfl rfl #[_] rfl ?_); intro a w1 b1 S M hB
 refine qN S M #[.bool false] ?_; intro a w2 b2 S M hB
 refine nxC (wp_seq (nxD (qR [2] S M ?_))); intro a S
 refine qY S (y_eqlPN (by kernel_rfl) S rfl) ?_; intro a S
 refine qG [1, 0, 0, 0, 1] S ?_; intro a S
 refine nxC (cT S (nxD (qS (sz := 1) (us := [_]) S M 0 ?_))); intro w3 M
 refine nxC (wp_ret (then_ret (end_plain ?_)))
 refine end_one S rfl (res_cell (by kernel_rfl) rfl (M.cell 0 rfl rfl)) ?_
 exact ⟨rfl, M.below⟩
theorem mayMap_any (m : Su) (h : ∀ k, k < 8 → 1 ≤ m.mAt k ∧ m.mAt k ≤ 4) (w : World) : Calls Tryz.prog 26 #[.agg (mapL m).toArray] w fun e w' => e = .returned (.bool true) ∧ Below w.heap.size w w' := by
 have M := Mem.start w
 refine qI Tryz.func26 13 ?_; intro a S
 refine nxD (st_box S M rfl rfl rfl #[_, _, _, _, _, _, _, _] rfl ?_); intro a w1 bF S M hB
 refine qG [1] S ?_; intro a S
 refine nxC (wp_seq (nxD (qY S (qL8 S M 0) ?_))); intro a S
 refine qG [1] S ?_; intro a S
 refine nxC (wp_block (wp_loop_g (fun q a w' => ∃ (k : Nat), k ≤ 8 ∧ q = 8 - k ∧ Sees 13 a [(5, .agg (mapL m).toArray), (6, .int .i64 (k : Int))] ∧ Mem w w' []) (8) ?_ ?_))
 ·skip
  exact ⟨0, Nat.zero_le _, rfl, S.sub _ rfl, M.drop 0⟩
 intro m a wl
 rintro ⟨k, hk, rfl, S, M⟩
 refine nxD (qG [1] S ?_); intro a S
 refine nxC (wp_seq (qf 7 S ?_ ?_))
 ·intro h7 S
  refine cF S (wp_exit (then_exit (then_exit (block_hit (nxE (qG [1] S ?_)))))); intro a S
  refine nxC (wp_ret (qO S ?_))
  exact ⟨rfl, M.below⟩
 intro h7 S
 refine cT S (wp_skip (then_normal (wp_seq (wp_block (nxD (qY S (y_indexP (m := 8) (sz := 1) S (by kernel_rfl) (fun e he => by cases he.symm.trans (show _ = some (.array 8 3) by kernel_rfl); kernel_rfl) rfl rfl (by first | omega | (simp; done) | (simp; omega)) ((by rw [Int.toNat_natCast, Nat.mul_one]; exact mapL_at m (by omega)))) ?_)))))); intro a S
 refine qG [1] S ?_; intro a S
 refine nxA (qG [1] S ?_); intro a S
 refine qQ (xs := [.tmp 9]) S (qE Tryz.func57) rfl (shardIsK_any _ (h k (by omega)) _) M ?_; intro a w2 S hK M
 refine qG [1] S ?_; intro a S
 refine nxC (qi 11 S ?_ ?_)
 ·intro h11 S
  cases h11
 intro h11 S
 refine cF S (wp_skip (block_normal (nxF (qA S ?_)))); intro a S
 refine qG [1] S ?_; intro a S
 refine nxC ?_
 exact ⟨8 - (k + 1), by omega, k + 1, by omega, rfl, S.sub _ rfl, M⟩
end Go.Proofs.YtdcgcgifgnaccaaGreat
namespace Go.Proofs.YtdcgcgifgnaccaaGreat
open Go.RowKit Go.Sort
variable {wc w : World} {H : List Ent} {bC : Nat}
theorem NewC.shc (h : NewC H bC) (M : Mem wc w H) {b1 : Nat} (B : Blk w b1 #[pB bC] 35) : ShC b1 bC w := by
 obtain ⟨bl, sa, sc, ps, cs, dv, v0, s, F, h1, h2, h3, h4, h5, h6, h7, h8, h9⟩ := h
 exact ⟨B, sa, sc, cs, M.blkIn h1.blk, h1.row⟩
theorem down0_any (M : Mem wc w H) (h : NewC H bC) : Calls Tryz.prog 55 #[pB bC, .int .i64 0] w fun e w' => e = .returned (.bool false) ∧ Below w.heap.size w w' := downJ_any M h (k := 0) (by omega)
theorem one_two {pre t : List Nat} {x : Nat} (h : [1, 2] = pre ++ x :: t) : 1 ≤ x ∧ x ≤ 2 := by
 have : x ∈ [1, 2] := by rw [h]; simp
 simp at this; omega
theorem upJ_any (M : Mem wc w H) (h : NewC H bC) : Calls Tryz.prog 24 #[pB bC] w fun e w' => e = .returned (.bool true) ∧ Mem wc w' H := by
 refine calls_enterM Tryz.func24 rfl 12 rfl rfl ?_; intro a S
 refine wp_seq ?_
 skip
 refine wp_region_lit (st_box S M rfl rfl rfl #[_] rfl ?_); intro a w1 bB S M hB
 refine qN S M #[.bool false] ?_; intro a w2 bR S M hB
 refine nxC (wp_seq (nxD (qR [2] S M ?_))); intro a S
 refine qQ (xs := [.tmp 4, .const (.int .i64 0)]) S (qE Tryz.func55) rfl (down0_any M ((h.cons _).cons _)) M ?_; intro a w3 S hK M
 refine nxC (qi 5 S ?_ ?_)
 ·intro h5 S
  cases h5
 intro h5 S
 refine cF S (wp_skip (then_normal (wp_seq (nxD (qR [2] S M ?_))))); intro a S
 refine qC (xs := [.tmp 6]) S (qE Tryz.func27) rfl (shardsN_any bC _) ?_
 rintro _ w4 ⟨bS, rfl, M1⟩; refine ⟨_, rfl, ?_⟩; intro a S; replace M := M.join M1; clear M1
 simp only [List.cons_append, List.nil_append] at M
 refine nxC (wp_block (wp_range (encs := encI1) (xs := [1, 2]) S M rfl (enters_of Tryz.func58 (by decide) rfl) (shards1_gen bS bC) (fun _ => rfl) (by kernel_rfl) (fun _ Hs => Hs = .blk bS #[pB bC] 35 :: .blk bR #[.bool false] 4 :: .blk bB #[pB bC] 35 :: H) (rfl) (fun pre Hs W hI M => by subst hI; exact (((h.cons _).cons _).cons _).shc M (M.blk 0 rfl)) ?_ ?_))
 ·intro lY pre x tX Hs wr BK a hx hI M S
  simp only [putsL, encI1] at S
  subst hI
  have hx12 := one_two hx
  refine wpI_region (by kernel_rfl) (fun _ _ h => h) ?_
  refine qG [1] S ?_; intro a S
  refine nxC ?_
  refine ⟨_, M, ?_⟩; intro wb BK M
  refine wpIn_block ?_
  refine wpIn_seq ?_
  refine wpI_region (by kernel_rfl) (fun _ _ h => h) ?_
  refine qR [4, 1] S M ?_; intro a S
  refine qQ (xs := [.tmp 9, .tmp 10]) S (qE Tryz.func55) rfl (downJ_any M ((((h.cons _).cons _).cons _).cons _) hx12.2) M ?_; intro a w5 S hK M
  refine nxC (qi 11 S ?_ ?_)
  ·intro h11 S
   cases h11
  intro h11 S
  refine stI_condF S rfl ?_
  refine wpIn_skip ?_
  refine block_normal ?_
  exact ⟨_, M, rfl⟩
 intro D1 wd Hs a hI M S
 subst hI
 refine block_normal (nxE (qS (sz := 1) (us := [_]) S M 2 ?_)); intro w6 M
 refine nxC (wp_ret (end_mark S M 0 rfl ?_)); intro a wM S M
 simp only [List.eraseIdx_cons_succ, List.eraseIdx_cons_zero] at M
 refine end_plain ?_
 refine end_one S rfl (res_cell (by kernel_rfl) rfl (M.cell 1 rfl rfl)) ?_
 skip
 replace M := M.drp 0
 replace M := M.drp 0
 replace M := M.drp 0
 exact ⟨rfl, M⟩
set_option maxHeartbeats 1000000 in
set_option maxRecDepth 10000 in
theorem settled_any (M : Mem wc w H) (h : NewC H bC) : Calls Tryz.prog 12 #[pB bC] w fun e w' => e = .returned (.bool true) ∧ Mem wc w' H := by
 refine calls_enterM Tryz.func12 rfl 45 rfl rfl ?_; intro a S
 refine wp_seq ?_
 skip
 refine wp_region_lit (st_box S M rfl rfl rfl #[_] rfl ?_); intro a w1 bB S M hB
 refine qN S M #[.bool false] ?_; intro a w2 bR S M hB
 refine nxC (wp_seq (nxD (qR [2] S M ?_))); intro a S
 refine qY S (y_eqlPS (by kernel_rfl) S rfl) ?_; intro a S
 refine qR [1, 2] S M ?_; intro a S
 refine qC (xs := [.tmp 11]) S (qE Tryz.func24) rfl (upJ_any M ((h.cons _).cons _)) ?_
 rintro _ w3 ⟨rfl, M1⟩; refine ⟨_, rfl, ?_⟩; intro a S; replace M := M1; clear M1
 refine qG [1, 1] S ?_; intro a S
 refine nxC (qi 14 S ?_ ?_)
 ·intro h14 S
  cases h14
 intro h14 S
 refine cF S (wp_skip (nxE (qR [2] S M ?_))); intro a S
 refine qC (xs := [.tmp 16]) S (qE Tryz.func38) rfl (coordJ_any M ((h.cons _).cons _)) ?_
 rintro _ w4 ⟨ca, cc, rfl, hK⟩; refine ⟨_, rfl, ?_⟩; intro a S; replace M := M.grow hK; clear hK
 refine qG [1, 1, 1] S ?_; intro a S
 refine qN S M #[.slice none 0 0] ?_; intro a w5 bCO S M hB
 refine qS (sz := 1) (us := [_]) S M 0 ?_; intro w6 M
 refine qG [1] S ?_; intro a S
 refine nxC (wp_seq (nxD (qG [1, 1, 1] S ?_))); intro a S
 refine qi 22 S ?_ ?_
 ·intro h22 S
  exact absurd rfl h22
 intro h22 S
 refine qR [1, 1] S M ?_; intro a S
 refine qY S (qH 180 S) ?_; intro a S
 refine qG [1, 1] S ?_; intro a S
 replace S := S.keep [0, 1, 2, 14, 3, 4, 27]
 refine nxC (qi 27 S ?_ ?_)
 ·intro h27 S
  exact absurd rfl h27
 intro h27 S
 refine cF S (wp_skip (then_normal (wp_seq (nxD (qR [3] S M ?_))))); intro a S
 refine qC (xs := [.tmp 28]) S (qE Tryz.func27) rfl (shardsN_any bC _) ?_
 rintro _ w7 ⟨bS, rfl, M1⟩; refine ⟨_, rfl, ?_⟩; intro a S; replace M := M.join M1; clear M1
 simp only [List.cons_append, List.nil_append] at M
 refine nxC (wp_block (wp_range (encs := encI1) (xs := [1, 2]) S M rfl (enters_of Tryz.func58 (by decide) rfl) (shards1_gen bS bC) (fun _ => rfl) (by kernel_rfl) (fun _ Hs => Hs = .blk bS #[pB bC] 35 :: .blk bCO #[.slice ca 0 cc] 94 :: .blk bR #[.bool false] 4 :: .blk bB #[pB bC] 35 :: H) (rfl) (fun pre Hs W hI M => by subst hI; exact ((((h.cons _).cons _).cons _).cons _).shc M (M.blk 0 rfl)) ?_ ?_))
 ·intro lY pre x tX Hs wr BK a hx hI M S
  simp only [putsL, encI1] at S
  subst hI
  have hx12 := one_two hx
  have hok : (shN (ownB (firM 2) (x : Int) 8)).st.ok := stX_ok _ _ _ _ rfl
  refine wpI_region (by kernel_rfl) (fun _ _ h => h) ?_
  refine qG [1] S ?_; intro a S
  refine nxC ?_
  refine ⟨_, M, ?_⟩; intro wb BK M
  refine wpIn_block ?_
  refine wpIn_seq ?_
  refine wpI_region (by kernel_rfl) (fun _ _ h => h) ?_
  refine qR [5, 1] S M ?_; intro a S
  refine qC (xs := [.tmp 32, .tmp 33]) S (qE Tryz.func28) rfl (storeJ_any M (((((h.cons _).cons _).cons _).cons _).cons _) hx12) ?_
  rintro _ w8 ⟨ra, rc, rfl, M1⟩; refine ⟨_, rfl, ?_⟩; intro a S; replace M := M1; clear M1
  refine qG [1, 1, 1] S ?_; intro a S
  refine qN S M (zSt.cellsL (.slice none 0 0)).toArray ?_; intro a w9 bST S M hB
  refine st_storeAll (sz := 273) S M 0 rfl (by kernel_rfl) rfl rfl (by with_reducible first | exact St.len hok _ | exact St.len zSt_ok _) (by with_reducible first | exact St.one hok _ rfl | exact St.one zSt_ok _ rfl) rfl (by with_reducible first | exact St.len hok _ | exact St.len zSt_ok _) ?_; intro w10 M
  simp only [List.set_cons_zero, List.set_cons_succ] at M
  refine qG [1] S ?_; intro a S
  refine nxC (wpIn_seq ?_)
  refine wpI_region (by kernel_rfl) (fun _ _ h => h) ?_
  refine qG [1, 1, 1] S ?_; intro a S
  refine qi 39 S ?_ ?_
  ·intro h39 S
   exact absurd rfl h39
  intro h39 S
  refine qG [272] S ?_; intro a S
  refine qY S (y_load S (by kernel_rfl) rfl (M.cell 0 rfl (St.doubt hok _))) ?_; intro a S
  refine qY S (qH 264 S) ?_; intro a S
  refine qG [1, 1] S ?_; intro a S
  replace S := S.keep [0, 1, 2, 14, 3, 4, 27, 29, 5, 6, 7, 44]
  refine nxC (qi 44 S ?_ ?_)
  ·intro h44 S
   exact absurd rfl h44
  intro h44 S
  refine stI_condF S rfl ?_
  refine wpIn_skip ?_
  refine block_normal ?_
  replace M := M.frn 1
  skip
  replace M := M.drp 1
  exact ⟨_, M, rfl⟩
 intro D1 wd Hs a hI M S
 subst hI
 refine block_normal (nxE (qS (sz := 1) (us := [_]) S M 3 ?_)); intro w11 M
 refine nxC (wp_ret (end_mark S M 0 rfl ?_)); intro a wM S M
 simp only [List.eraseIdx_cons_succ, List.eraseIdx_cons_zero] at M
 refine end_plain ?_
 refine end_one S rfl (res_cell (by kernel_rfl) rfl (M.cell 2 rfl rfl)) ?_
 skip
 replace M := M.drp 0
 replace M := M.drp 0
 replace M := M.drp 0
 replace M := M.drp 0
 exact ⟨rfl, M⟩
theorem hcellsCut {h : List V8} {i : Nat} {x : V8} (hx : h[i]? = some x) : cutL (hcells h) (i * 8) 8 = some x.cellsL := by
 have hlt := (List.getElem?_eq_some_iff.1 hx).1
 have e : (hcells (h.take i)).length = i * 8 := by rw [hcells_length, List.length_take]; omega
 have := cutL_mid (hcells (h.take i)) x.cellsL (hcells (h.drop (i + 1)))
 rw [e] at this
 rw [hcells_split hx]
 exact this
set_option maxHeartbeats 1000000 in
set_option maxRecDepth 10000 in
theorem blocks_any (M : Mem wc w H) (h : NewC H bC) : Calls Tryz.prog 7 #[pB bC] w fun e w' => e = .returned (.tuple #[.bool true, .int .i64 0]) ∧ Mem wc w' H := by
 refine qI Tryz.func7 41 ?_; intro a S
 refine wp_seq ?_
 skip
 refine wp_region_lit (qG [1, 1] S ?_); intro a S
 refine nxC (wp_seq (nxD (qG [1] S ?_))); intro a S
 refine qY S (y_eqlPS (by kernel_rfl) S rfl) ?_; intro a S
 refine nxC (cF S (wp_skip (nxE (qG [1] S ?_)))); intro a S
 refine qQ (xs := [.tmp 14]) S (qE Tryz.func22) rfl (historyC2_any M h) M ?_; intro a w1 S hK M
 refine qC (xs := [.tmp 15]) S (qE Tryz.func21) rfl (replayO_any none 0 [] _ (Rd.nil 0 _ _ 14) (by simp)) ?_
 rintro _ w2 ⟨er, st, sr, rfl, hK, hst, her, hro⟩; refine ⟨_, rfl, ?_⟩; intro a S; replace M := M.grow hK; clear hK
 obtain rfl : er = 0 := her.2 (fun j y hy => by simp at hy)
 obtain rfl : st = zHm := congrArg Prod.fst (hro rfl)
 refine qG [1, 1, 1, 1] S ?_; intro a S
 refine qN S M (hcells zHm).toArray ?_; intro a w3 bX S M hB
 refine st_storeAll (sz := 256) S M 0 rfl (by kernel_rfl) rfl rfl (by with_reducible first | exact zHm_len | exact hq1) (by exact allOne_hcells _) rfl (by with_reducible first | exact zHm_len | exact hq1) ?_; intro w4 M
 simp only [List.set_cons_zero, List.set_cons_succ] at M
 refine qG [1, 1] S ?_; intro a S
 refine nxC (wp_seq (nxD (qG [1, 1] S ?_))); intro a S
 refine nxC (qi 21 S ?_ ?_)
 ·intro h21 S
  exact absurd rfl h21
 intro h21 S
 refine cF S (wp_skip (then_normal (wp_seq (nxD (qY S (y_loadAgg (k := 256) (cs := _) S (by kernel_rfl) rfl (by with_reducible first | exact zHm_len | exact hq1) (M.cellsAt 0 rfl cutL_all)) ?_))))); intro a S
 refine qG [1] S ?_; intro a S
 refine nxC (wp_block (wp_loop_g (fun q a w' => ∃ (k : Nat), k ≤ 32 ∧ q = 32 - k ∧ Sees 41 a [(0, pB bC), (22, .agg (hcells zHm).toArray), (23, .int .i64 (k : Int))] ∧ Mem wc w' H) (32) ?_ ?_))
 ·skip
  replace M := M.drp 0
  exact ⟨0, by omega, rfl, S.sub _ rfl, M⟩
 intro m a wl
 rintro ⟨k, hk, rfl, S, M⟩
 refine nxD (qG [1] S ?_); intro a S
 refine nxC (wp_seq (qf 24 S ?_ ?_))
 ·intro h24 S
  refine cF S (wp_exit (then_exit (then_exit (block_hit (nxE (qG [1, 1] S ?_)))))); intro a S
  refine nxC (wp_ret (qOO S ?_))
  exact ⟨rfl, M⟩
 intro h24 S
 refine cT S (wp_skip (then_normal (wp_seq (wp_block (wp_seq ?_)))))
 have hk32 : k < 32 := by omega
 have hzk : zHm[k]? = some zV := by unfold zHm; rw [List.getElem?_replicate, if_pos hk32]
 refine wp_region_lit (qG [1] S ?_); intro a S
 refine qY S (y_indexV (m := 32) (sz := 8) (k := 8) (es := zV.cellsL) S (by kernel_rfl) (fun e he => by cases he.symm.trans (show _ = some (.array 32 59) by kernel_rfl); kernel_rfl) rfl rfl (by first | omega | (simp; done) | (simp; omega)) ((by rw [Int.toNat_natCast]; exact hcellsCut hzk))) ?_; intro a S
 refine qN S M #[.int .u8 0, .int .u8 0, .int .u8 0, .int .u8 0, .int .u8 0, .int .u8 0, .int .u8 0, .int .u8 0] ?_; intro a w5 bV S M hB
 refine qG [1] S ?_; intro a S
 refine qS (sz := 8) (us := [_, _, _, _, _, _, _, _]) S M 0 ?_; intro w6 M
 refine nxA (qG [1, 1] S ?_); intro a S
 refine qC (xs := [.tmp 28, .tmp 29]) S (qE Tryz.func23) rfl (blockJ_any M (h.cons _) hk32) ?_
 rintro _ w7 ⟨rfl, M1⟩; refine ⟨_, rfl, ?_⟩; intro a S; replace M := M1; clear M1
 refine qG [1, 1, 1] S ?_; intro a S
 refine qN S M #[.int .u8 0, .int .u8 0, .int .u8 0, .int .u8 0, .int .u8 0, .int .u8 0, .int .u8 0, .int .u8 0] ?_; intro a w8 bU S M hB
 refine qS (sz := 8) (us := [_, _, _, _, _, _, _, _]) S M 0 ?_; intro w9 M
 refine qG [1] S ?_; intro a S
 refine nxA (qG [1, 1, 1] S ?_); intro a S
 refine qf 35 S ?_ ?_
 ·intro h35 S
  exact absurd rfl h35
 intro h35 S
 refine qY S (qL8 S M 0) ?_; intro a S
 refine qY S (qL8 S M 1) ?_; intro a S
 refine qY S (y_neqG (by kernel_rfl) S rfl rfl (fun w => equalV8 9998 zV8 zV w)) ?_; intro a S
 refine qG [1] S ?_; intro a S
 replace S := S.keep [0, 22, 23, 24, 8, 7, 9, 10, 39]
 refine nxC (st_split (t := 39) S rfl ?_ ?_)
 ·intro h39 S
  exact absurd h39 (by decide)
 intro h39 S
 refine cF S (wp_skip (block_normal (nxF (qA S ?_)))); intro a S
 refine qG [1] S ?_; intro a S
 refine nxC ?_
 skip
 replace M := M.drp 0
 replace M := M.drp 0
 exact ⟨32 - (k + 1), by omega, k + 1, by omega, rfl, S.sub _ rfl, M⟩
end Go.Proofs.YtdcgcgifgnaccaaGreat

namespace Go.Proofs.YtdcgcgifgnaccaaGreat
open Go.RowKit Go.Sort
variable {wc w : World} {H : List Ent} {bC : Nat}
theorem fir2_in : ∀ k, k < 8 → 1 ≤ (firM 2).mAt k ∧ (firM 2).mAt k ≤ 2 := fun k hk => by
 have e3 : k = 0 ∨ k = 1 ∨ k = 2 ∨ k = 3 ∨ k = 4 ∨ k = 5 ∨ k = 6 ∨ k = 7 := by omega
 rcases e3 with rfl | rfl | rfl | rfl | rfl | rfl | rfl | rfl <;> decide
set_option maxHeartbeats 2000000 in
set_option maxRecDepth 10000 in
theorem ownedC_any (M : Mem wc w H) (h : NewC H bC) : Calls Tryz.prog 8 #[pB bC] w fun e w' => e = .returned (.tuple #[.bool true, .int .i64 0]) ∧ Mem wc w' H := by
 refine calls_enterM Tryz.func8 rfl 49 rfl rfl ?_; intro a S
 refine wp_seq ?_
 skip
 refine wp_region_lit (st_box S M rfl rfl rfl #[_] rfl ?_); intro a w1 bB S M hB
 refine qN S M #[.bool false] ?_; intro a w2 bR S M hB
 refine qN S M #[.int .i64 0] ?_; intro a w3 bE S M hB
 refine nxC (wp_seq (nxD (qR [3] S M ?_))); intro a S
 refine qY S (y_eqlPS (by kernel_rfl) S rfl) ?_; intro a S
 refine nxC (cF S (wp_skip (then_normal (wp_seq (nxD (qR [3] S M ?_)))))); intro a S
 refine qC (xs := [.tmp 12]) S (qE Tryz.func24) rfl (upJ_any M (((h.cons _).cons _).cons _)) ?_
 rintro _ w4 ⟨rfl, M1⟩; refine ⟨_, rfl, ?_⟩; intro a S; replace M := M1; clear M1
 refine qG [1] S ?_; intro a S
 refine nxC (qi 14 S ?_ ?_)
 ·intro h14 S
  cases h14
 intro h14 S
 refine cF S (wp_skip (nxE (qR [3] S M ?_))); intro a S
 refine qQ (xs := [.tmp 15]) S (qE Tryz.func25) rfl (mapJ_any M (((h.cons _).cons _).cons _)) M ?_; intro a w5 S hK M
 refine qN S M #[.int .i64 0, .int .i64 0, .int .i64 0, .int .i64 0, .int .i64 0, .int .i64 0, .int .i64 0, .int .i64 0] ?_; intro a w6 bF S M hB
 refine qS (sz := 8) (us := [_, _, _, _, _, _, _, _]) S M 0 ?_; intro w7 M
 refine nxC (wp_seq (nxD (qY S (qL8 S M 0) ?_))); intro a S
 refine qQ (xs := [.tmp 17]) S (qE Tryz.func26) rfl (mayMap_any (firM 2) (fun k hk => by have := fir2_in k hk; omega) _) M ?_; intro a w8 S hK M
 refine qG [1] S ?_; intro a S
 refine nxC (qi 19 S ?_ ?_)
 ·intro h19 S
  cases h19
 intro h19 S
 refine cF S (wp_skip (then_normal (wp_seq (nxD (qY S (qL8 S M 0) ?_))))); intro a S
 refine qG [1] S ?_; intro a S
 refine nxC (wp_block (wp_loop_g (fun q a w' => ∃ (k : Nat), k ≤ 8 ∧ q = 8 - k ∧ Sees 49 a [(1, pB bB), (2, pB bR), (3, pB bE), (4, pB bF), (20, .agg (mapL (firM 2)).toArray), (21, .int .i64 (k : Int))] ∧ Mem wc w' (.blk bF (mapL (firM 2)).toArray 66 :: .blk bE #[.int .i64 0] 24 :: .blk bR #[.bool false] 4 :: .blk bB #[pB bC] 35 :: H)) (8) ?_ ?_))
 ·skip
  exact ⟨0, by omega, rfl, S.sub _ rfl, M⟩
 intro m a wl
 rintro ⟨k, hk, rfl, S, M⟩
 refine nxD (qG [1] S ?_); intro a S
 refine nxC (wp_seq (qi 22 S ?_ ?_))
 ·intro h22 S
  refine cT S (wp_skip (then_normal (wp_seq (wp_block (nxD (qY S (y_indexP (m := 8) (sz := 1) S (by kernel_rfl) (fun e he => by cases he.symm.trans (show _ = some (.array 8 3) by kernel_rfl); kernel_rfl) rfl rfl (by first | omega | (simp; done) | (simp; omega)) ((by rw [Int.toNat_natCast, Nat.mul_one]; exact mapL_at (firM 2) (by omega)))) ?_)))))); intro a S
  refine qG [1] S ?_; intro a S
  refine nxA (qR [1, 4] S M ?_); intro a S
  refine qQ (xs := [.tmp 25]) S (qE Tryz.func19) rfl (shardsJ_any M ((((h.cons _).cons _).cons _).cons _)) M ?_; intro a w9 S hK M
  refine qG [1] S ?_; intro a S
  refine nxC (qi 27 S ?_ ?_)
  ·intro h27 S
   exfalso; have := (fir2_in k (by omega)).2; omega
  intro h27 S
  refine cF S (wp_skip (block_normal (nxF (qA S ?_)))); intro a S
  refine qG [1] S ?_; intro a S
  refine nxC ?_
  exact ⟨8 - (k + 1), by omega, k + 1, by omega, rfl, S.sub _ rfl, M⟩
 intro h22 S
 refine cF S (wp_exit (then_exit (then_exit (block_hit (then_normal (wp_seq (nxD (qR [4] S M ?_)))))))); intro a S
 refine qC (xs := [.tmp 29]) S (qE Tryz.func27) rfl (shardsN_any bC _) ?_
 rintro _ w10 ⟨bS, rfl, M1⟩; refine ⟨_, rfl, ?_⟩; intro a S; replace M := M.join M1; clear M1
 simp only [List.cons_append, List.nil_append] at M
 refine nxC (wp_block (wp_range (encs := encI1) (xs := [1, 2]) S M rfl (enters_of Tryz.func58 (by decide) rfl) (shards1_gen bS bC) (fun _ => rfl) (by kernel_rfl) (fun _ Hs => Hs = .blk bS #[pB bC] 35 :: .blk bF (mapL (firM 2)).toArray 66 :: .blk bE #[.int .i64 0] 24 :: .blk bR #[.bool false] 4 :: .blk bB #[pB bC] 35 :: H) (rfl) (fun pre Hs W hI M => by subst hI; exact (((((h.cons _).cons _).cons _).cons _).cons _).shc M (M.blk 0 rfl)) ?_ ?_))
 ·intro lY pre x tX Hs wr BK a hx hI M S
  simp only [putsL, encI1] at S
  subst hI
  have hx12 := one_two hx
  have hok : (shN (ownB (firM 2) (x : Int) 8)).st.ok := stX_ok _ _ _ _ rfl
  refine wpI_region (by kernel_rfl) (fun _ _ h => h) ?_
  refine qG [1] S ?_; intro a S
  refine nxC ?_
  refine ⟨_, M, ?_⟩; intro wb BK M
  refine wpIn_block ?_
  refine wpIn_seq ?_
  refine wpI_region (by kernel_rfl) (fun _ _ h => h) ?_
  refine qR [6, 1] S M ?_; intro a S
  refine qC (xs := [.tmp 33, .tmp 34]) S (qE Tryz.func28) rfl (storeJ_any M ((((((h.cons _).cons _).cons _).cons _).cons _).cons _) hx12) ?_
  rintro _ w11 ⟨ra, rc, rfl, M1⟩; refine ⟨_, rfl, ?_⟩; intro a S; replace M := M1; clear M1
  refine qG [1, 1, 1] S ?_; intro a S
  refine qN S M (zSt.cellsL (.slice none 0 0)).toArray ?_; intro a w12 bST S M hB
  refine st_storeAll (sz := 273) S M 0 rfl (by kernel_rfl) rfl rfl (by with_reducible first | exact St.len hok _ | exact St.len zSt_ok _) (by with_reducible first | exact St.one hok _ rfl | exact St.one zSt_ok _ rfl) rfl (by with_reducible first | exact St.len hok _ | exact St.len zSt_ok _) ?_; intro w13 M
  simp only [List.set_cons_zero, List.set_cons_succ] at M
  refine qG [1] S ?_; intro a S
  refine nxC (wpIn_seq ?_)
  refine wpI_regionK [] #[false, false, false, false, false, false, false, false, false, false, false] rfl M (by kernel_rfl) (by kernel_rfl) (fun _ _ h => h) ?_; intro w14 M
  refine kP 0 S ?_; intro a S
  refine k_pure 1 S rfl (fun w => y_int S rfl rfl rfl) ?_; intro a S
  refine kP 2 S ?_; intro a S
  refine qi 40 S ?_ ?_
  ·intro h40 S
   exact absurd rfl h40
  intro h40 S
  refine kF 3 0 S ?_; intro a S
  refine kF 4 2 S ?_; intro a S
  refine kR 5 S rfl M (fun w M => y_load S (by kernel_rfl) rfl (M.cell 0 rfl (St.getO hok _))) ?_; intro a S
  refine kR 6 S rfl M (fun w M => qL8 S M 3) ?_; intro a S
  refine kP 7 S ?_; intro a S
  refine k_one 8 rfl (by kernel_rfl) ?_
  refine qQ (xs := [.tmp 44, .tmp 45]) S (qE Tryz.func29) rfl (owned_any (firM 2) (x : Int) (fun k hk => own_bd (n := 2) (by omega) (by omega) (by omega)) _) M ?_; intro a w15 S hK M
  refine nxC ⟨fun _ => hK, ?_⟩
  refine k_pure 9 S rfl (fun w => y_int S rfl rfl rfl) ?_; intro a S
  refine k_pure 10 S rfl (fun w => y_pickF S rfl rfl) ?_; intro a S
  refine k_end (by kernel_rfl) ?_
  replace S := S.keep [1, 2, 3, 4, 20, 21, 22, 30, 7, 8, 9, 48]
  refine then_normal (qi 48 S ?_ ?_)
  ·intro h48 S
   exact absurd rfl h48
  intro h48 S
  refine stI_condF S rfl ?_
  refine wpIn_skip ?_
  refine block_normal ?_
  replace M := M.frn 1
  skip
  replace M := M.drp 1
  exact ⟨_, M, rfl⟩
 intro D1 wd Hs a hI M S
 subst hI
 refine block_normal (nxE (qS (sz := 1) (us := [_]) S M 4 ?_)); intro w16 M
 refine qS (sz := 1) (us := [_]) S M 3 ?_; intro w17 M
 refine nxC (wp_ret (end_mark S M 0 rfl ?_)); intro a wM S M
 simp only [List.eraseIdx_cons_succ, List.eraseIdx_cons_zero] at M
 refine end_plain ?_
 refine end_two S rfl (res_cell (by kernel_rfl) rfl (M.cell 3 rfl rfl)) (res_cell (by kernel_rfl) rfl (M.cell 2 rfl rfl)) ?_
 skip
 replace M := M.drp 0
 replace M := M.drp 0
 replace M := M.drp 0
 replace M := M.drp 0
 replace M := M.drp 0
 exact ⟨rfl, M⟩
set_option maxHeartbeats 1000000 in
theorem waitsC_any (M : Mem wc w H) (h : NewC H bC) : Calls Tryz.prog 9 #[pB bC] w fun e w' => e = .returned (.tuple #[.bool true, .int .i64 0]) ∧ Mem wc w' H := by
 refine calls_enterM Tryz.func9 rfl 50 rfl rfl ?_; intro a S
 refine wp_seq ?_
 skip
 refine wp_region_lit (st_box S M rfl rfl rfl #[_] rfl ?_); intro a w1 bB S M hB
 refine qG [1, 1] S ?_; intro a S
 refine nxC (wp_scope_straight ?_)
 refine wp_seq (nxD (qR [1] S M ?_)); intro a S
 refine qY S (y_eqlPS (by kernel_rfl) S rfl) ?_; intro a S
 refine nxC (cF S (wp_skip (nxE (qN S M #[.bool false] ?_)))); intro a w2 bR S M hB
 refine qS (sz := 1) (us := [_]) S M 0 ?_; intro w3 M
 refine nxC (wp_seq (wp_label ?_))
 refine then_normal (wp_seq (nxD (qR [2] S M ?_))); intro a S
 refine qC (xs := [.tmp 13]) S (qE Tryz.func27) rfl (shardsN_any bC _) ?_
 rintro _ w4 ⟨bS, rfl, M1⟩; refine ⟨_, rfl, ?_⟩; intro a S; replace M := M.join M1; clear M1
 simp only [List.cons_append, List.nil_append] at M
 refine nxC (wp_block (wp_range (encs := encI1) (xs := [1, 2]) S M rfl (enters_of Tryz.func58 (by decide) rfl) (shards1_gen bS bC) (fun _ => rfl) (by kernel_rfl) (fun _ Hs => Hs = .blk bS #[pB bC] 35 :: .blk bR #[.bool true] 4 :: .blk bB #[pB bC] 35 :: H) (rfl) (fun pre Hs W hI M => by subst hI; exact (((h.cons _).cons _).cons _).shc M (M.blk 0 rfl)) ?_ ?_))
 ·intro lY pre x tX Hs wr BK a hx hI M S
  simp only [putsL, encI1] at S
  subst hI
  have hx12 := one_two hx
  refine wpI_region (by kernel_rfl) (fun _ _ h => h) ?_
  refine qG [1] S ?_; intro a S
  refine nxC ?_
  refine ⟨_, M, ?_⟩; intro wb BK M
  refine wpIn_block ?_
  refine wpIn_seq ?_
  refine wpI_region (by kernel_rfl) (fun _ _ h => h) ?_
  refine qR [4, 1] S M ?_; intro a S
  refine qC (xs := [.tmp 17, .tmp 18]) S (qE Tryz.func20) rfl (locksJ_any M ((((h.cons _).cons _).cons _).cons _) hx12) ?_
  rintro _ w5 ⟨a1, c1, a2, c2, rfl, M1⟩; refine ⟨_, rfl, ?_⟩; intro a S; replace M := M1; clear M1
  refine qG [1, 1, 1] S ?_; intro a S
  refine qN S M #[.slice none 0 0, .slice none 0 0] ?_; intro a w6 bT S M hB
  refine qS (sz := 2) (us := [_, _]) S M 0 ?_; intro w7 M
  refine qG [1] S ?_; intro a S
  refine nxC (wpIn_seq ?_)
  refine wpIn_seq ?_
  refine wpI_region (by kernel_rfl) (fun _ _ h => h) ?_
  refine qG [1, 1] S ?_; intro a S
  refine nxC (qi 23 S ?_ ?_)
  ·intro h23 S
   exact absurd rfl h23
  intro h23 S
  refine stI_condF S rfl ?_
  refine wpIn_skip ?_
  refine then_normal (wpIn_seq ?_)
  refine wpI_region (by kernel_rfl) (fun _ _ h => h) ?_
  refine qY S (qL2 S M 0) ?_; intro a S
  refine qQ (xs := [.tmp 25]) S (qE Tryz.func30) rfl (edges0_any a1 a2 c1 c2 _) M ?_; intro a w8 S hK M
  refine qG [1, 1, 1, 1, 1] S ?_; intro a S
  replace S := S.keep [0, 1, 2, 3, 12, 4, 14, 5, 6, 23, 8, 7]
  refine nxC (wpIn_seq ?_)
  refine wpIn_seq ?_
  refine wpI_region (by kernel_rfl) (fun _ _ h => h) ?_
  refine qY S (qL2 S M 0) ?_; intro a S
  refine qQ (xs := [.tmp 29]) S (qE Tryz.func31) rfl (check0_any a1 a2 c1 c2 _) M ?_; intro a w9 S hK M
  refine qG [1, 1] S ?_; intro a S
  refine qi 32 S ?_ ?_
  ·intro h32 S
   exact absurd rfl h32
  intro h32 S
  refine qG [1, 1, 1] S ?_; intro a S
  refine nxC (qi 35 S ?_ ?_)
  ·intro h35 S
   exact absurd rfl h35
  intro h35 S
  refine stI_condF S rfl ?_
  refine wpIn_skip ?_
  refine then_normal (wpIn_seq ?_)
  refine wpI_region (by kernel_rfl) (fun _ _ h => h) ?_
  refine qG [1] S ?_; intro a S
  refine qY S (qH 86 S) ?_; intro a S
  refine qG [1] S ?_; intro a S
  refine nxC (wpIn_block ?_)
  refine wpI_loop_g (fun q a w' => q = 0 ∧ Sees 50 a [(1, pB bB), (4, pB bR), (37, .int .i64 0), (38, .int .i64 0)] ∧ Mem wc w' (BK :: .blk bS #[pB bC] 35 :: .blk bR #[.bool true] 4 :: .blk bB #[pB bC] 35 :: H)) (0) ?_ ?_
  ·skip
   replace M := M.drp 0
   exact ⟨rfl, S.sub _ rfl, M⟩
  intro m a wl
  rintro ⟨rfl, S, M⟩
  refine wpIn_seq ?_
  refine wpI_region (by kernel_rfl) (fun _ _ h => h) ?_
  refine qG [1] S ?_; intro a S
  refine nxC (wpIn_seq ?_)
  refine qi 39 S ?_ ?_
  ·intro h39 S
   exfalso; omega
  intro h39 S
  refine stI_condF S rfl ?_
  refine wpIn_exit ?_
  refine then_exit (then_exit (block_hit (block_normal ?_)))
  exact ⟨_, M, rfl⟩
 intro D1 wd Hs a hI M S
 subst hI
 refine block_normal (nxE (qR [3, 1, 1] S M ?_)); intro a S
 refine nxC (wp_ret (sc_ret ?_))
 refine end_mark S M 0 rfl ?_; intro a wM S M
 simp only [List.eraseIdx_cons_succ, List.eraseIdx_cons_zero] at M
 refine end_plain ?_
 refine qOO S ?_
 skip
 replace M := M.drp 0
 replace M := M.drp 0
 replace M := M.drp 0
 exact ⟨rfl, M⟩
theorem right_nil : rightS [] := ⟨fun j y hy => (by simp at hy), rfl, fun n hn => (by cases hn), fun n hn => (by cases hn)⟩
theorem askH_any (M : Mem wc w H) (h : NewC H bC) : Calls Tryz.prog 33 #[.agg #[pB bC]] w fun e w' => e = .returned (.tuple #[.bool true, .int .i64 0]) ∧ Mem wc w' H := by
 refine qI Tryz.func33 8 ?_; intro a S
 refine wp_seq ?_
 skip
 refine wp_region_lit (st_box S M rfl rfl rfl #[_] rfl ?_); intro a w1 bA S M hB
 refine qG [1, 1] S ?_; intro a S
 refine nxA (qR [1, 1] S M ?_); intro a S
 refine qQ (xs := [.tmp 5]) S (qE Tryz.func22) rfl (historyC2_any M (h.cons _)) M ?_; intro a w2 S hK M
 refine qC (xs := [.tmp 6]) S (qE Tryz.func13) rfl (historyJ_any none 0 [] _ (Rd.nil 0 _ _ 14) (by simp)) ?_
 rintro _ w3 ⟨b, rfl, hK, hb⟩; refine ⟨_, rfl, ?_⟩; intro a S; replace M := M.grow hK; clear hK
 obtain rfl : b = true := hb.2 right_nil
 refine qG [1, 1] S ?_; intro a S
 refine nxC (wp_ret (qOO S ?_))
 skip
 replace M := M.drp 0
 exact ⟨rfl, M⟩
theorem askW_any (M : Mem wc w H) (h : NewC H bC) : Calls Tryz.prog 34 #[.agg #[pB bC]] w fun e w' => e = .returned (.tuple #[.bool true, .int .i64 0]) ∧ Mem wc w' H := by
 refine qI Tryz.func34 9 ?_; intro a S
 refine wp_seq ?_
 skip
 refine wp_region_lit (st_box S M rfl rfl rfl #[_] rfl ?_); intro a w1 bA S M hB
 refine qG [1, 1] S ?_; intro a S
 refine nxA (qR [1, 1] S M ?_); intro a S
 refine qC (xs := [.tmp 5]) S (qE Tryz.func9) rfl (waitsC_any M (h.cons _)) ?_
 rintro _ w2 ⟨rfl, M1⟩; refine ⟨_, rfl, ?_⟩; intro a S; replace M := M1; clear M1
 refine qG [1, 1, 1, 1] S ?_; intro a S
 refine nxC (wp_ret (qOO S ?_))
 skip
 replace M := M.drp 0
 exact ⟨rfl, M⟩
theorem askB_any (M : Mem wc w H) (h : NewC H bC) : Calls Tryz.prog 35 #[.agg #[pB bC]] w fun e w' => e = .returned (.tuple #[.bool true, .int .i64 0]) ∧ Mem wc w' H := by
 refine qI Tryz.func35 9 ?_; intro a S
 refine wp_seq ?_
 skip
 refine wp_region_lit (st_box S M rfl rfl rfl #[_] rfl ?_); intro a w1 bA S M hB
 refine qG [1, 1] S ?_; intro a S
 refine nxA (qR [1, 1] S M ?_); intro a S
 refine qC (xs := [.tmp 5]) S (qE Tryz.func7) rfl (blocks_any M (h.cons _)) ?_
 rintro _ w2 ⟨rfl, M1⟩; refine ⟨_, rfl, ?_⟩; intro a S; replace M := M1; clear M1
 refine qG [1, 1, 1, 1] S ?_; intro a S
 refine nxC (wp_ret (qOO S ?_))
 skip
 replace M := M.drp 0
 exact ⟨rfl, M⟩
theorem askO_any (M : Mem wc w H) (h : NewC H bC) : Calls Tryz.prog 36 #[.agg #[pB bC]] w fun e w' => e = .returned (.tuple #[.bool true, .int .i64 0]) ∧ Mem wc w' H := by
 refine qI Tryz.func36 9 ?_; intro a S
 refine wp_seq ?_
 skip
 refine wp_region_lit (st_box S M rfl rfl rfl #[_] rfl ?_); intro a w1 bA S M hB
 refine qG [1, 1] S ?_; intro a S
 refine nxA (qR [1, 1] S M ?_); intro a S
 refine qC (xs := [.tmp 5]) S (qE Tryz.func8) rfl (ownedC_any M (h.cons _)) ?_
 rintro _ w2 ⟨rfl, M1⟩; refine ⟨_, rfl, ?_⟩; intro a S; replace M := M1; clear M1
 refine qG [1, 1, 1, 1] S ?_; intro a S
 refine nxC (wp_ret (qOO S ?_))
 skip
 replace M := M.drp 0
 exact ⟨rfl, M⟩
def asksV (bC : Nat) : List Value := [.func (.func 33) #[.agg #[pB bC]] #[], .func (.func 34) #[.agg #[pB bC]] #[], .func (.func 35) #[.agg #[pB bC]] #[], .func (.func 36) #[.agg #[pB bC]] #[]]
theorem ask_any (M : Mem wc w H) (h : NewC H bC) {k : Nat} (hk : k < 4) : ∃ f : FuncId, (asksV bC)[k]? = some (.func (.func f) #[.agg #[pB bC]] #[]) ∧ Enters Tryz.prog f ∧ Calls Tryz.prog f #[.agg #[pB bC]] w fun e w' => e = .returned (.tuple #[.bool true, .int .i64 0]) ∧ Mem wc w' H := by
 have h4 : k = 0 ∨ k = 1 ∨ k = 2 ∨ k = 3 := by omega
 rcases h4 with rfl | rfl | rfl | rfl
 ·exact ⟨_, rfl, enters_of Tryz.func33 (by decide) rfl, askH_any M h⟩
 ·exact ⟨_, rfl, enters_of Tryz.func34 (by decide) rfl, askW_any M h⟩
 ·exact ⟨_, rfl, enters_of Tryz.func35 (by decide) rfl, askB_any M h⟩
 ·exact ⟨_, rfl, enters_of Tryz.func36 (by decide) rfl, askO_any M h⟩
set_option maxHeartbeats 1000000 in
theorem allC_any (M : Mem wc w H) (h : NewC H bC) : Calls Tryz.prog 10 #[pB bC] w fun e w' => e = .returned (.tuple #[.bool true, .int .i64 0]) ∧ Mem wc w' H := by
 refine qI Tryz.func10 46 ?_; intro a S
 refine wp_seq ?_
 skip
 refine wp_region_lit (qG [1, 1] S ?_); intro a S
 refine nxC (wp_seq (nxD (qG [1] S ?_))); intro a S
 refine qY S (y_eqlPS (by kernel_rfl) S rfl) ?_; intro a S
 refine nxC (cF S (wp_skip (nxE (qG [1] S ?_)))); intro a S
 refine qY S (y_build (ps := [(0, .tmp 12)]) (pl := [(0, 1)]) (z := [.pointer none]) (cs := [_]) S (by kernel_rfl) rfl (rfl)) ?_; intro a S
 refine qN S M #[.pointer none] ?_; intro a w1 bA S M hB
 refine qS (sz := 1) (us := [_]) S M 0 ?_; intro w2 M
 refine nxA (qY S (y_loadAgg (cs := [_]) S (by kernel_rfl) rfl rfl (M.cellsAt (k := 1) 0 rfl rfl)) ?_); intro a S
 refine qY S (y_makeFunc (fs := [.tmp 14]) (cs := []) S rfl rfl) ?_; intro a S
 refine qY S (y_loadAgg (cs := [_]) S (by kernel_rfl) rfl rfl (M.cellsAt (k := 1) 0 rfl rfl)) ?_; intro a S
 refine qY S (y_makeFunc (fs := [.tmp 16]) (cs := []) S rfl rfl) ?_; intro a S
 refine st_lit (ps := [(0, .tmp 15), (1, .tmp 17)]) (e := 90) (sz := 1) (zl := [.nilFunc, .nilFunc]) (cs := [_, _]) S M rfl rfl (by kernel_rfl) rfl (rfl) ?_; intro a w3 bQ S M hB
 refine qG [1] S ?_; intro a S
 refine nxC (wp_seq (nxD (qG [1] S ?_))); intro a S
 refine qC (xs := [.tmp 19]) S (qE Tryz.func12) rfl (settled_any M ((h.cons _).cons _)) ?_
 rintro _ w4 ⟨rfl, M1⟩; refine ⟨_, rfl, ?_⟩; intro a S; replace M := M1; clear M1
 refine nxC (qf 20 S ?_ ?_)
 ·intro h20 S
  cases h20
 intro h20 S
 refine cT S ?_
 replace M := M.toRow (xs := (asksV bC).take 2) (sz := 1) (m := 2) (cap := 2) 0 rfl rfl (by decide) (by unfold maxLen; omega) rfl rfl
 refine wp_region_lit (qG [1] S ?_); intro a S
 refine qY S (y_loadAgg (cs := [_]) S (by kernel_rfl) rfl rfl (M.cellsAt (k := 1) 1 rfl rfl)) ?_; intro a S
 refine qY S (y_makeFunc (fs := [.tmp 22]) (cs := []) S rfl rfl) ?_; intro a S
 refine qY S (y_loadAgg (cs := [_]) S (by kernel_rfl) rfl rfl (M.cellsAt (k := 1) 1 rfl rfl)) ?_; intro a S
 refine qY S (y_makeFunc (fs := [.tmp 24]) (cs := []) S rfl rfl) ?_; intro a S
 refine st_lit (ps := [(0, .tmp 23), (1, .tmp 25)]) (e := 90) (sz := 1) (zl := [.nilFunc, .nilFunc]) (cs := [_, _]) S M rfl rfl (by kernel_rfl) rfl (rfl) ?_; intro a w5 bZ S M hB
 refine st_append (e := 90) (sz := 1) (by_ := 8) (zc := [.nilFunc]) S M 1 rfl rfl (by kernel_rfl) rfl (by decide) rfl rfl rfl (show Rd _ _ _ 1 _ 2 ((asksV bC).drop 2) from M.sliceAt 0 rfl (M.cellsAt (k := 2) 0 rfl rfl) rfl (Nat.le_refl _) (by unfold maxLen; omega)) (rfl) (by omega) (by unfold maxLen; omega) ?_; intro a w6 vA loA hiA S M
 obtain ⟨aA, cA, rfl, -, -⟩ := (M.readAll 0 rfl (by unfold maxLen; omega)).form
 refine qY S (y_assign S rfl) ?_; intro a S
 replace S := S.keep [0, 2, 3, 11, 4, 20, 5]
 refine nxC (wp_seq (nxD (qG [1] S ?_))); intro a S
 refine qY S (qH 90 S) ?_; intro a S
 refine qG [1] S ?_; intro a S
 refine nxC (wp_block (wp_loop_g (fun q a w' => ∃ (k : Nat), k ≤ 4 ∧ q = 4 - k ∧ Sees 46 a [(28, .slice aA 4 cA), (29, .int .i64 4), (30, .int .i64 (k : Int))] ∧ Mem wc w' (rowE loA hiA 90 1 (.slice aA 4 cA) 4 (asksV bC) :: H)) (4) ?_ ?_))
 ·skip
  replace M := M.drp 1
  replace M := M.drp 1
  exact ⟨0, by omega, rfl, S.sub _ rfl, M⟩
 intro m a wl
 rintro ⟨k, hk, rfl, S, M⟩
 refine nxD (qG [1] S ?_); intro a S
 refine nxC (wp_seq (qf 31 S ?_ ?_))
 ·intro h31 S
  refine cF S (wp_exit (then_exit (then_exit (block_hit (nxE (qG [1, 1] S ?_)))))); intro a S
  refine nxC (wp_ret (qOO S ?_))
  exact ⟨rfl, M.drop 0⟩
 intro h31 S
 refine cT S (wp_skip (then_normal (wp_seq (wp_block (wp_seq ?_)))))
 obtain ⟨f, hfv, hEn, hCall⟩ := ask_any M (h.cons _) (show k < 4 by omega)
 refine wp_region_lit (qY S (qX 90 1 S ((M.readAll 0 rfl (show 4 ≤ maxLen by unfold maxLen; omega)))) ?_); intro a S
 try simp only [Int.toNat_natCast, Nat.mul_one, Nat.zero_add] at S
 refine qY S (y_load S (by kernel_rfl) rfl ((M.readAll 0 rfl (show 4 ≤ maxLen by unfold maxLen; omega)).at_.one k hfv)) ?_; intro a S
 refine qG [1] S ?_; intro a S
 refine nxA (qG [1] S ?_); intro a S
 refine st_callB (xs := []) (fi := [_]) (ca := []) S (hEn) rfl rfl (rfl) rfl (hCall) ?_
 rintro _ w7 ⟨rfl, M1⟩; refine ⟨_, rfl, ?_⟩; intro a S; replace M := M1; clear M1
 refine qG [1, 1, 1, 1, 1] S ?_; intro a S
 refine nxA (qG [1, 1, 1] S ?_); intro a S
 refine qi 41 S ?_ ?_
 ·intro h41 S
  cases h41
 intro h41 S
 refine qG [1, 1, 1] S ?_; intro a S
 refine nxC (qi 44 S ?_ ?_)
 ·intro h44 S
  exact absurd rfl h44
 intro h44 S
 refine cF S (wp_skip (block_normal (nxF (qA S ?_)))); intro a S
 refine qG [1] S ?_; intro a S
 replace S := S.keep [28, 29, 31, 7, 8, 9, 44, 30]
 refine nxC ?_
 exact ⟨4 - (k + 1), by omega, k + 1, by omega, rfl, S.sub _ rfl, M⟩
end Go.Proofs.YtdcgcgifgnaccaaGreat

namespace Go.Proofs.YtdcgcgifgnaccaaGreat
open Go.RowKit Go.Sort
theorem NewP.newC {wc w : World} {bC : Nat} (h : NewP wc [] 2 bC w) : ∃ H, Mem wc w H ∧ NewC H bC := by
 obtain ⟨bd, bl, sa, sc, lo, hi, ps, S, va, vc, lo2, hi2, F, E, hpl, hSi, hI, hE, M⟩ := h
 refine ⟨_, M, bl, sa, sc, ps, _, _, _, sK (firM 2) 6, F, ⟨.head _, rfl, rfl, ⟨lo, hi, .tail _ (.tail _ (.tail _ (.head _)))⟩, by omega⟩, rfl, rfl, rfl, .tail _ (.head _), rfl, hpl, hSi, fun e he => .tail _ (.tail _ (.tail _ (.tail _ (List.mem_append_left _ he))))⟩
set_option maxHeartbeats 1000000 in
theorem wakes31_any (w : World) : Calls Tryz.prog 6 #[] w fun e w' => e = .returned (.bool true) ∧ Below w.heap.size w w' := by
 have M := Mem.start w
 refine qI Tryz.func6 30 ?_; intro a S
 refine nxD (qG [1] S ?_); intro a S
 refine nxA (qC (xs := [.const (.int .i64 2)]) S (qE Tryz.func16) rfl (newC_any 2 (by omega) _) ?_)
 rintro _ w1 ⟨bC, rfl, hN⟩; refine ⟨_, rfl, ?_⟩; intro a S
 obtain ⟨H9, M1, hN9⟩ := hN.newC
 replace M := M.join M1
 clear M1 hN
 rw [List.append_nil] at M
 refine qG [1, 1, 1, 1, 1] S ?_; intro a S
 refine nxA (qG [1] S ?_); intro a S
 refine qC (xs := [.tmp 10]) S (qE Tryz.func10) rfl (allC_any M hN9) ?_
 rintro _ w2 ⟨rfl, M1⟩; refine ⟨_, rfl, ?_⟩; intro a S; replace M := M1; clear M1
 refine qG [1, 1, 1, 1, 1] S ?_; intro a S
 refine nxA (qG [1, 1, 1] S ?_); intro a S
 refine qf 16 S ?_ ?_
 ·intro h16 S
  first | exact absurd rfl h16 | (exfalso; omega) | (simp at h16; done) | cases h16
 intro h16 S
 refine qG [1, 1, 1] S ?_; intro a S
 refine qf 19 S ?_ ?_
 ·intro h19 S
  first | exact absurd rfl h19 | (exfalso; omega) | (simp at h19; done) | cases h19
 intro h19 S
 refine qG [1, 1, 1, 1] S ?_; intro a S
 refine qf 23 S ?_ ?_
 ·intro h23 S
  first | exact absurd rfl h23 | (exfalso; omega) | (simp at h23; done) | cases h23
 intro h23 S
 refine qG [1] S ?_; intro a S
 refine qC (xs := [.tmp 24]) S (qE Tryz.func12) rfl (settled_any M hN9) ?_
 rintro _ w3 ⟨rfl, M1⟩; refine ⟨_, rfl, ?_⟩; intro a S; replace M := M1; clear M1
 refine qG [1, 1] S ?_; intro a S
 refine qf 27 S ?_ ?_
 ·intro h27 S
  first | exact absurd rfl h27 | (exfalso; omega) | (simp at h27; done) | cases h27
 intro h27 S
 refine qC (xs := [.const (.slice none 0 0)]) S (qE Tryz.func13) rfl (historyJ_any none 0 [] _ (Rd.nil 0 _ _ 14) (by simp)) ?_
 rintro _ w4 ⟨b, rfl, hK, hb⟩; refine ⟨_, rfl, ?_⟩; intro a S; replace M := M.grow hK; clear hK
 obtain rfl : b = true := hb.2 right_nil
 refine qG [1, 1] S ?_; intro a S
 replace S := S.keep [1, 2, 3, 4, 0]
 refine nxC (wp_ret (qO S ?_))
 exact ⟨rfl, M.below⟩
set_option maxHeartbeats 2000000 in
theorem judgeNil_any (va : Option Addr) (vc : Nat) (l : List Sn) (w : World) (hv : Ss 0 w.heap.size w (.slice va l.length vc) l) : Calls Tryz.prog 3 #[.slice va l.length vc] w fun e w' => e = .returned (.bool true) ∧ Below w.heap.size w w' := by
 have M := Mem.start w
 refine qI Tryz.func3 85 ?_; intro a S
 refine nxD (qG [1] S ?_); intro a S
 refine nxC (wp_seq (nxD (qG [1] S ?_))); intro a S
 refine qY S (qH 157 S) ?_; intro a S
 refine qG [1] S ?_; intro a S
 refine nxC (qi 15 S ?_ ?_)
 ·intro h15 S
  refine cT S (nxD (qQ (xs := []) S (qE Tryz.func6) rfl (wakes31_any _) M ?_)); intro a w1 S hK M
  refine qG [1] S ?_; intro a S
  refine nxC (wp_ret (then_ret (qO S ?_)))
  exact ⟨rfl, M.below⟩
 intro h15 S
 refine cF S (wp_skip (nxE (qQ (xs := [.const (.pointer none)]) S (qE Tryz.func7) rfl (blocksNil_any _) M ?_))); intro a w2 S hK M
 refine qG [1, 1, 1, 1, 1] S ?_; intro a S
 refine nxA (qQ (xs := [.const (.pointer none)]) S (qE Tryz.func8) rfl (ownedNil_any _) M ?_); intro a w3 S hK M
 refine qG [1, 1, 1, 1, 1] S ?_; intro a S
 refine nxA (qQ (xs := [.const (.pointer none)]) S (qE Tryz.func9) rfl (waitsNil_any _) M ?_); intro a w4 S hK M
 refine qG [1, 1, 1, 1, 1] S ?_; intro a S
 replace S := S.keep [0, 2, 15, 3, 4, 5, 6, 7, 8]
 refine nxA (qQ (xs := [.const (.pointer none)]) S (qE Tryz.func10) rfl (allNil_any _) M ?_); intro a w5 S hK M
 refine qG [1, 1, 1, 1, 1] S ?_; intro a S
 refine nxA (qQ (xs := [.const (.pointer none)]) S (qE Tryz.func11) rfl (oldestNil_any _) M ?_); intro a w6 S hK M
 refine qG [1, 1, 1] S ?_; intro a S
 refine qN S M #[.int .i64 0, .int .i64 0, .int .i64 0] ?_; intro a w7 bN S M hB
 refine qS (sz := 3) (us := [_, _, _]) S M 0 ?_; intro w8 M
 refine qG [1] S ?_; intro a S
 refine nxA (qG [1, 1, 1] S ?_); intro a S
 refine qf 39 S ?_ ?_
 ·intro h39 S
  first | exact absurd rfl h39 | (exfalso; omega) | (simp at h39; done) | cases h39
 intro h39 S
 refine qG [1, 1, 1, 1] S ?_; intro a S
 refine qf 43 S ?_ ?_
 ·intro h43 S
  first | exact absurd rfl h43 | (exfalso; omega) | (simp at h43; done) | cases h43
 intro h43 S
 refine qG [1, 1, 1, 1] S ?_; intro a S
 refine qf 47 S ?_ ?_
 ·intro h47 S
  first | exact absurd rfl h47 | (exfalso; omega) | (simp at h47; done) | cases h47
 intro h47 S
 refine qG [1, 1, 1, 1] S ?_; intro a S
 refine qf 51 S ?_ ?_
 ·intro h51 S
  first | exact absurd rfl h51 | (exfalso; omega) | (simp at h51; done) | cases h51
 intro h51 S
 refine qG [1, 1, 1, 1] S ?_; intro a S
 refine qf 55 S ?_ ?_
 ·intro h55 S
  first | exact absurd rfl h55 | (exfalso; omega) | (simp at h55; done) | cases h55
 intro h55 S
 refine qG [1, 1, 1, 1] S ?_; intro a S
 refine qf 59 S ?_ ?_
 ·intro h59 S
  first | exact absurd rfl h59 | (exfalso; omega) | (simp at h59; done) | cases h59
 intro h59 S
 refine qG [1, 1, 1, 1] S ?_; intro a S
 refine qf 63 S ?_ ?_
 ·intro h63 S
  first | exact absurd rfl h63 | (exfalso; omega) | (simp at h63; done) | cases h63
 intro h63 S
 refine qG [1, 1, 1, 1] S ?_; intro a S
 refine qf 67 S ?_ ?_
 ·intro h67 S
  first | exact absurd rfl h67 | (exfalso; omega) | (simp at h67; done) | cases h67
 intro h67 S
 refine qG [1, 1, 1, 1] S ?_; intro a S
 refine qf 71 S ?_ ?_
 ·intro h71 S
  first | exact absurd rfl h71 | (exfalso; omega) | (simp at h71; done) | cases h71
 intro h71 S
 refine qQ (xs := [.const (.pointer none)]) S (qE Tryz.func12) rfl (settledNil_any _) M ?_; intro a w9 S hK M
 refine qG [1, 1, 1] S ?_; intro a S
 refine qf 75 S ?_ ?_
 ·intro h75 S
  first | exact absurd rfl h75 | (exfalso; omega) | (simp at h75; done) | cases h75
 intro h75 S
 refine qG [1] S ?_; intro a S
 refine qC (xs := [.tmp 76]) S (qE Tryz.func13) rfl (historyJ_any va vc l _ (M.argW hv) (by omega)) ?_
 rintro _ w10 ⟨b1, rfl, hK, hb1⟩; refine ⟨_, rfl, ?_⟩; intro a S; replace M := M.grow hK; clear hK
 refine qG [1] S ?_; intro a S
 refine qC (xs := [.tmp 78]) S (qE Tryz.func14) rfl (history31_any va vc l _ (M.argW hv) (by omega)) ?_
 rintro _ w11 ⟨b2, rfl, hK, hb2⟩; refine ⟨_, rfl, ?_⟩; intro a S; replace M := M.grow hK; clear hK
 obtain rfl : b1 = b2 := Bool.eq_iff_iff.2 (hb1.trans hb2.symm)
 refine qY S (y_eqlBool (by kernel_rfl) S rfl rfl) ?_; intro a S
 refine qG [1, 1] S ?_; intro a S
 refine qf 82 S ?_ ?_
 ·intro h82 S
  first | exact absurd rfl h82 | (exfalso; omega) | (simp at h82; done) | cases h82
 intro h82 S
 refine qQ (xs := []) S (qE Tryz.func6) rfl (wakes31_any _) M ?_; intro a w12 S hK M
 refine qG [1, 1] S ?_; intro a S
 replace S := S.keep [0, 15, 3, 4, 5, 6, 7, 8, 9, 10, 12, 2]
 refine nxC (wp_ret (qO S ?_))
 exact ⟨rfl, M.below⟩
end Go.Proofs.YtdcgcgifgnaccaaGreat
namespace Go.Proofs.YtdcgcgifgnaccaaGreat
open Go.ChangeShapes Go.WideShapes Go.ChangeAt Go.RowKit Go.Joins
theorem Tryz.own : ownKnob Tryz.prog.godebug = none := by kernel_rfl
theorem Tryz.laidOut : laidOutB Tryz.prog = true := by kernel_rfl
section
variable {H : Type} {enc : TypeId × Value → H} {P : Program}
theorem trodAll_stays (hl : laidOutB P = true) {W W' : World} (hb : Below W.heap.size W W') {sp : Nat → Bool} : ∀ (ts : List TypeId) (vs : List Value) (ds : List (DataW H)) (ps : List MemPlace),
 (∀ t ∈ ts, P.readableRec t = true ∧ t < P.types.size) → (∀ p ∈ ps, p.block < W.heap.size ∧ sp p.block = true) →
 DataW.TrodAll enc P W 0 (fun _ => true) true ts vs ds ps → DataW.TrodAll enc P W' 0 sp true ts vs ds ps
 | [], vs, ds, ps, _, _, h => by
   obtain ⟨rfl, rfl, rfl⟩ := trodAll_nil h
   exact trodAll_mk0
 | t :: ts, vs, ds, ps, ht, hp, h => by
   obtain ⟨v, vs', d, ds', p, q, rfl, rfl, rfl, h0, h1⟩ := trodAll_cons h
   exact trodAll_cons_mk (WideElems.Trod_stays hl (ht t (by simp)).1 (ht t (by simp)).2 h0 (fun x hx => hb.same (hp x (by simp [hx])).1) (fun x hx => (hp x (by simp [hx])).2))
    (trodAll_stays hl hb ts vs' ds' q (fun t' h' => ht t' (by simp [h'])) (fun x hx => hp x (by simp [hx])) h1)
theorem law_post {f : Func} {s : ChangeSpec} {apart fresh handsOn again : Bool} {W W' : World} {args : Array Value} {ds gs : List (DataW H)} {before : List MemPlace} {tb : TypeId}
 (hl : laidOutB P = true) (hts : ∀ t ∈ f.params.toList, P.readableRec t = true ∧ t < P.types.size) (hv : s.vars = []) (hrt : f.resultTypes = #[tb]) (htb : P.underlying tb = some .bool)
 (hs : ∀ ds : List (DataW H), ds.length = f.params.size → s.fn H ds = { results := [.lit (.bool true)], args := ds })
 (hW : DataW.Whole enc P f.params.toList s.vars apart W args.toList ds gs before) (hb : Below W.heap.size W W') : s.post enc P f apart fresh handsOn again W args (.bool true) W' := by
 have hlt : ∀ p ∈ before, p.block < W.heap.size := fun p hp => hW.lt p hp
 have hW' := hW
 obtain ⟨p, q, hA, hV, rfl, hfz, hnd⟩ := hW
 rw [hv] at hV
 obtain ⟨rfl, rfl⟩ := trodVars_none hV
 have hlen : ds.length = f.params.size := by
  have : ∀ (ts : List TypeId) (vs : List Value) (ds : List (DataW H)) (ps : List MemPlace), DataW.TrodAll enc P W 0 (fun _ => true) true ts vs ds ps → ds.length = ts.length := by
   intro ts
   induction ts with
   | nil => intro vs ds ps h; obtain ⟨_, rfl, _⟩ := trodAll_nil h; rfl
   | cons t ts ih => intro vs ds ps h; obtain ⟨v, vs', d, ds', p, q, _, rfl, _, _, h1⟩ := trodAll_cons h; simp [ih _ _ _ h1]
  simpa using this _ _ _ _ hA
 have e := hs ds hlen
 have args_read : ∀ sp : Nat → Bool, (∀ x ∈ p ++ [], sp x.block = true) → DataW.TrodAll enc P W' 0 sp true f.params.toList args.toList ds p := fun sp hsp =>
  trodAll_stays hl hb _ _ _ _ hts (fun x hx => ⟨hlt x (by simp [hx]), hsp x (by simp [hx])⟩) hA
 have res_read : ∀ (b : Nat) (sp : Nat → Bool) (hd : Bool), DataW.TrodAll enc P W' b sp hd f.resultTypes.toList (Value.resultList f.resultTypes.size (.bool true)) [.lit (.bool true)] [] := fun b sp hd => by
  rw [hrt]; exact trodAll_mk1 (shut_bool htb _)
 have no_vars : ∀ sp : Nat → Bool, DataW.TrodVars enc P W' sp s.vars ([] : List (DataW H)) [] := fun sp => by rw [hv]; rfl
 have hold : ∀ x ∈ p ++ [], (fun b => decide (b < W.heap.size)) x.block = true := fun x hx => by simpa using hlt x hx
 have e' : s.fn H (ds ++ []) = { results := [.lit (.bool true)], args := ds } := by rw [List.append_nil]; exact e
 refine ⟨ds, [], p ++ [], [], p, [], hW', ?_, ?_, ?_, World.keptBut_mono (fun x hx => ⟨hx, ?_⟩) (hb.frame (· ∈ p ++ [])), fun _ => ?_⟩
 ·rw [e']; exact res_read _ _ _
 ·rw [e']; exact args_read _ hold
 ·rw [e']; exact no_vars _
 ·exact Or.inr (by simpa using hx)
 ·refine ⟨ok_one hrt rfl (okWide_bool_mk htb _), _, _, ([] ++ p) ++ [], ⟨[] ++ p, [], trodAll_append (args_read _ (fun _ _ => rfl)) (res_read _ _ _), no_vars _, rfl, fun b off hx => ?_, fun ha => by simpa using hnd ha⟩, fun x hx _ => by simpa using hx⟩
  have hin : MemPlace.cell b off ∈ p ++ [] := by simpa using hx
  rw [hb.frozen (hlt _ hin)]
  exact hfz b off hin
end
end Go.Proofs.YtdcgcgifgnaccaaGreat
namespace Go.Proofs.YtdcgcgifgnaccaaGreat
open Go.ChangeShapes Go.WideShapes Go.ChangeAt Go.RowKit Go.Joins
section
variable {H : Type} {enc : TypeId × Value → H} {P : Program} {W : World} {base : Nat} {t : TypeId} {v : Value} {d : DataW H} {ps : List MemPlace}
theorem cells_one {x : Value} (h : v.cells.toList = [x]) (hna : ∀ cs, v ≠ .agg cs) : v = x := by
 cases v <;> first | exact absurd rfl (hna _) | (simp [Value.cells] at h; exact h)
end
end Go.Proofs.YtdcgcgifgnaccaaGreat
namespace Go.Proofs.YtdcgcgifgnaccaaGreat
open Go.ChangeShapes Go.WideShapes Go.ChangeAt Go.RowKit Go.Joins
section
variable {H : Type} {enc : TypeId × Value → H} {P : Program} {W : World} {base : Nat} {t : TypeId} {v : Value} {d : DataW H} {ps : List MemPlace}
end
end Go.Proofs.YtdcgcgifgnaccaaGreat
namespace Go.Proofs.YtdcgcgifgnaccaaGreat
open Go.ChangeShapes Go.WideShapes Go.ChangeAt Go.RowKit Go.Joins
section
variable {H : Type} {enc : TypeId × Value → H} {P : Program} {W : World} {t : TypeId} {cs : List Value}
def Rdt (enc : TypeId × Value → H) (P : Program) (W : World) (t : TypeId) (cs : List Value) : Prop := ∃ n x, DataW.trod enc P W 0 (fun _ => true) true n t cs = some x
theorem Rdt.int {k : IntKind} (h : Rdt enc P W t cs) (ht : P.underlying t = some (.int k)) : ∃ z, cs = [.int k z] ∧ k.min ≤ z ∧ z ≤ k.max := by
 obtain ⟨n, x, h⟩ := h
 obtain ⟨z, e, -, hw⟩ := DataW.trod_int ht h
 simp only [Lit.wf, Bool.and_eq_true, decide_eq_true_eq] at hw
 exact ⟨z, e, hw⟩
theorem Rdt.i64 (h : Rdt enc P W t cs) (ht : P.underlying t = some (.int .i64)) : ∃ z, cs = [.int .i64 z] ∧ -9223372036854775808 ≤ z ∧ z ≤ 9223372036854775807 := by
 obtain ⟨z, e, h1, h2⟩ := h.int ht
 have e1 : IntKind.i64.min = -9223372036854775808 := rfl
 have e2 : IntKind.i64.max = 9223372036854775807 := rfl
 exact ⟨z, e, by omega, by omega⟩
theorem Rdt.u8 (h : Rdt enc P W t cs) (ht : P.underlying t = some (.int .u8)) : ∃ b : UInt8, cs = [.int .u8 (b.toNat : Int)] := by
 obtain ⟨z, e, h1, h2⟩ := h.int ht
 have e1 : IntKind.u8.min = 0 := rfl
 have e2 : IntKind.u8.max = 255 := rfl
 refine ⟨UInt8.ofNat z.toNat, ?_⟩
 rw [e]; simp; omega
theorem Rdt.len_struct {fs : Array Field} (h : Rdt enc P W t cs) (ht : P.underlying t = some (.struct fs)) : cs.length = P.cellsOf t := by
 obtain ⟨n, x, h⟩ := h
 obtain ⟨xs, m, -, -, hl, -, -⟩ := DataW.trod_struct ht h
 exact hl
theorem Rdt.field {fs : Array Field} (h : Rdt enc P W t cs) (ht : P.underlying t = some (.struct fs)) (i : Nat) {f : Field} (hf : fs[i]? = some f) {k : Nat} (hk : P.cellsOf f.type = k) : Rdt enc P W f.type ((cs.drop f.offset).take k) := by
 obtain ⟨n, x, h⟩ := h
 obtain ⟨xs, m, -, -, hl, hlen, hx⟩ := DataW.trod_struct ht h
 have hlt : i < xs.length := by rw [hlen]; exact (Array.getElem?_eq_some_iff.1 hf).1
 subst hk
 exact ⟨m, xs[i], by rw [← List.getElem?_eq_getElem hlt]; exact hx i f hf⟩
theorem Rdt.len_array {m : Nat} {e : TypeId} (h : Rdt enc P W t cs) (ht : P.underlying t = some (.array m e)) : cs.length = P.cellsOf t := by
 obtain ⟨n, x, h⟩ := h
 obtain ⟨xs, m, -, -, hl, -, -⟩ := DataW.trod_array ht h
 exact hl
theorem Rdt.elem {m : Nat} {e : TypeId} (h : Rdt enc P W t cs) (ht : P.underlying t = some (.array m e)) {k : Nat} (hk : P.cellsOf e = k) (i : Nat) (hi : i < m) : Rdt enc P W e ((cs.drop (i * k)).take k) := by
 obtain ⟨n, x, h⟩ := h
 obtain ⟨xs, q, -, -, hl, hlen, hx⟩ := DataW.trod_array ht h
 have hlt : i < xs.length := by rw [hlen]; exact hi
 subst hk
 exact ⟨q, xs[i], by rw [← List.getElem?_eq_getElem hlt]; exact hx i hi⟩
theorem list_of {α : Type} {Q : Nat → α → Prop} : ∀ (n : Nat), (∀ i, i < n → ∃ a, Q i a) → ∃ xs : List α, xs.length = n ∧ ∀ i a, xs[i]? = some a → Q i a
 | 0, _ => ⟨[], rfl, fun i a h => by simp at h⟩
 | n + 1, h => by
   obtain ⟨xs, hl, hx⟩ := list_of n (fun i hi => h i (by omega))
   obtain ⟨a, ha⟩ := h n (by omega)
   refine ⟨xs ++ [a], by simp [hl], fun i b hb => ?_⟩
   rcases Nat.lt_or_ge i n with hi | hi
   ·rw [List.getElem?_append_left (by omega)] at hb; exact hx i b hb
   ·rw [List.getElem?_append_right (by omega)] at hb
    have : i - xs.length = 0 := by
     rcases Nat.eq_zero_or_pos (i - xs.length) with h0 | h0
     ·exact h0
     ·rw [List.getElem?_eq_none (by simp; omega)] at hb; cases hb
    rw [this] at hb
    obtain rfl : a = b := by simpa using hb
    obtain rfl : i = n := by omega
    exact ha
theorem addr_add2 (ad : Addr) (m j : Nat) : (ad.add m).add j = ad.add (m + j) := by
 unfold Addr.add
 by_cases h1 : m = 0
 ·subst h1; simp
 ·by_cases h2 : j = 0
  ·subst h2; simp
  ·simp [h1, h2, Nat.add_assoc]
theorem flat_get {sz : Nat} : ∀ (l : List (List Value)) (i j : Nat) (r : List Value), (∀ r ∈ l, r.length = sz) → l[i]? = some r → j < sz → l.flatten[i * sz + j]? = r[j]?
 | [], i, j, r, _, h, _ => by simp at h
 | x :: l, 0, j, r, hl, h, hj => by
   obtain rfl : x = r := by simpa using h
   have := hl x (by simp)
   rw [Nat.zero_mul, Nat.zero_add, List.flatten_cons, List.getElem?_append_left (by omega)]
 | x :: l, i + 1, j, r, hl, h, hj => by
   have hx := hl x (by simp)
   have := flat_get l i j r (fun q hq => hl q (by simp [hq])) (by simpa using h) hj
   rw [List.flatten_cons, List.getElem?_append_right (by rw [hx, Nat.succ_mul]; omega), ← this, hx]
   congr 1; rw [Nat.succ_mul]; omega
theorem flat_len {sz : Nat} : ∀ (l : List (List Value)), (∀ r ∈ l, r.length = sz) → l.flatten.length = l.length * sz
 | [], _ => by simp
 | x :: l, hl => by rw [List.flatten_cons, List.length_append, flat_len l (fun q hq => hl q (by simp [hq])), hl x (by simp), List.length_cons, Nat.succ_mul]; omega
theorem Rdt.rows {α : Type} {Φ : α → List Value → Prop} {e sz : Nat} (h : Rdt enc P W t cs) (ht : P.underlying t = some (.slice e)) (hc : P.cellsOf e = sz) (hsz : 0 < sz) (hl : ∀ a cs, Φ a cs → cs.length = sz) (he : ∀ cs, Rdt enc P W e cs → ∃ a, Φ a cs) :
 ∃ u css, ∃ xs : List α, cs = [u] ∧ Rd 0 W.heap.size W sz u xs.length css ∧ ∀ i a, xs[i]? = some a → Φ a ((css.drop (i * sz)).take sz) := by
 obtain ⟨n, x, h⟩ := h
 rcases DataW.trod_slice ht h with ⟨rfl, -⟩ | ⟨ad, len, cap, elems, rest, m, -, rfl, -, -, hlc, hcm, hlen, hel, -, -⟩
 ·exact ⟨_, [], [], rfl, Rd.nil _ _ _ _, fun i a h => by simp at h⟩
 ·have each : ∀ i, i < len → ∃ q : α × List Value, W.cells? 0 (ad.add (i * sz)) sz = some q.2 ∧ Φ q.1 q.2 := fun i hi => by
   have h1 := hel i hi
   rw [hc, List.getElem?_eq_getElem (by omega)] at h1
   obtain ⟨r, h2, h3⟩ := Option.bind_eq_some_iff.1 h1
   obtain ⟨a, ha⟩ := he r ⟨m, _, h3⟩
   exact ⟨(a, r), h2, ha⟩
  obtain ⟨qs, hql, hq⟩ := list_of len each
  have hrl : ∀ r ∈ qs.map (·.2), r.length = sz := fun r hr => by
   obtain ⟨q, hq1, rfl⟩ := List.mem_map.1 hr
   obtain ⟨i, hi⟩ := List.getElem?_of_mem hq1
   exact hl _ _ (hq i q hi).2
  have hcell : ∀ i j (r : List Value), (qs.map (·.2))[i]? = some r → j < sz → W.cell? (ad.add (i * sz + j)) = r[j]? := fun i j r hr hj => by
   rw [List.getElem?_map, Option.map_eq_some_iff] at hr
   obtain ⟨q, hq1, rfl⟩ := hr
   obtain ⟨-, h2, h3⟩ := World.cells?_some (hq i q hq1).1
   have := h3 j hj
   rw [← this, addr_add2]
  have hfl := flat_len (qs.map (·.2)) hrl
  rw [List.length_map, hql] at hfl
  have hsp : 0 < len → ad.spot = none ∧ ad.block < W.heap.size := fun h0 => by
   obtain ⟨q, hq0⟩ : ∃ q, qs[0]? = some q := ⟨_, List.getElem?_eq_getElem (by omega)⟩
   have hr0 : (qs.map (·.2))[0]? = some q.2 := by simp [hq0]
   have h1 := hcell 0 0 q.2 hr0 hsz
   have hq2 := hrl q.2 (List.mem_of_getElem? hr0)
   rw [Nat.zero_mul, Nat.add_zero, show ad.add 0 = ad from rfl, List.getElem?_eq_getElem (by omega)] at h1
   refine ⟨?_, block_lt_of_cell h1⟩
   unfold World.cell? at h1
   split at h1
   ·split at h1
    ·cases h1
    ·rename_i hs; simpa using hs
   ·cases h1
  refine ⟨_, (qs.map (·.2)).flatten, qs.map (·.1), rfl, ?_, fun i a ha => ?_⟩
  ·rw [List.length_map, hql]
   refine ⟨hfl, by omega, .inr ⟨ad, cap, rfl, hlc, hcm, fun j hj => ?_, fun h0 => ⟨(hsp h0).1, Nat.zero_le _, (hsp h0).2⟩⟩⟩
   rw [hfl] at hj
   have hlen0 : 0 < len := by rcases Nat.eq_zero_or_pos len with h | h; · rw [h] at hj; simp at hj
                              ·exact h
   have hi : j / sz < len := Nat.div_lt_of_lt_mul (by rw [Nat.mul_comm]; exact hj)
   have hm := Nat.mod_lt j hsz
   have ej : j = j / sz * sz + j % sz := by rw [Nat.mul_comm]; exact (Nat.div_add_mod j sz).symm
   obtain ⟨q, hq1⟩ : ∃ q, qs[j / sz]? = some q := ⟨_, List.getElem?_eq_getElem (by omega)⟩
   have hr1 : (qs.map (·.2))[j / sz]? = some q.2 := by simp [hq1]
   have h1 := hcell (j / sz) (j % sz) q.2 hr1 hm
   have h2 := flat_get _ (j / sz) (j % sz) q.2 hrl hr1 hm
   rw [← ej] at h1 h2
   rw [h2, ← h1]
   obtain ⟨b, o, sp⟩ := ad
   have : sp = none := (hsp hlen0).1
   subst this
   rw [addr_add]
  ·rw [List.getElem?_map, Option.map_eq_some_iff] at ha
   obtain ⟨q, hq1, rfl⟩ := ha
   have hr1 : (qs.map (·.2))[i]? = some q.2 := by simp [hq1]
   have hq2 := hrl q.2 (List.mem_of_getElem? hr1)
   have : ((qs.map (·.2)).flatten.drop (i * sz)).take sz = q.2 := by
    apply List.ext_getElem?
    intro j
    rcases Nat.lt_or_ge j sz with hj | hj
    ·rw [List.getElem?_take_of_lt hj, List.getElem?_drop, flat_get _ i j q.2 hrl hr1 hj]
    ·rw [List.getElem?_eq_none (by simp; omega), List.getElem?_eq_none (by omega)]
   rw [this]
   exact (hq i q hq1).2
theorem rows_flat {α : Type} {f : α → List Value} {sz : Nat} : ∀ (xs : List α) (css : List Value), css.length = xs.length * sz → (∀ a, (f a).length = sz) → (∀ i a, xs[i]? = some a → (css.drop (i * sz)).take sz = f a) → css = xs.flatMap f
 | [], css, hl, _, _ => by simpa using List.eq_nil_of_length_eq_zero (by simpa using hl)
 | x :: xs, css, hl, hf, h => by
   have h0 := h 0 x rfl
   rw [Nat.zero_mul, List.drop_zero] at h0
   have hr := rows_flat xs (css.drop sz) (by rw [List.length_drop, hl, List.length_cons, Nat.succ_mul]; omega) hf (fun i a hi => by
    have := h (i + 1) a (by simpa using hi)
    rw [List.drop_drop, ← this]; congr 2; rw [Nat.succ_mul]; omega)
   rw [List.flatMap_cons, ← h0, ← hr, List.take_append_drop]
theorem Rdt.flat {α : Type} {f : α → List Value} {e sz : Nat} (h : Rdt enc P W t cs) (ht : P.underlying t = some (.slice e)) (hc : P.cellsOf e = sz) (hsz : 0 < sz) (hl : ∀ a, (f a).length = sz) (he : ∀ cs, Rdt enc P W e cs → ∃ a, cs = f a) :
 ∃ u, ∃ xs : List α, cs = [u] ∧ Rd 0 W.heap.size W sz u xs.length (xs.flatMap f) := by
 obtain ⟨u, css, xs, rfl, hR, hx⟩ := h.rows (Φ := fun a cs => cs = f a) ht hc hsz (fun a cs h => by rw [h]; exact hl a) he
 rw [rows_flat xs css hR.1 hl hx] at hR
 exact ⟨u, xs, rfl, hR⟩
theorem rdt_slice {e : TypeId} {base : Nat} {v : Value} {d : DataW H} {ps : List MemPlace} (ht : P.underlying t = some (.slice e)) (hv : Value.okWide P W .any base t v) (h : DataW.Trod enc P W 0 (fun _ => true) true t v d ps) : ∃ cs : List Value, Rdt enc P W t cs ∧ ∀ u, cs = [u] → v = u := by
 obtain ⟨fuel, h⟩ := h
 refine ⟨_, ⟨fuel, _, h⟩, fun u hu => ?_⟩
 unfold Value.okWide at hv
 simp only [ht] at hv
 have hv' : Cell.okWide P W .any base t v := hv
 have hna : ∀ cs, v ≠ .agg cs := fun cs hc => by subst hc; simp [Cell.okWide, Cell.ok, ht] at hv'
 exact cells_one hu hna
end
end Go.Proofs.YtdcgcgifgnaccaaGreat

namespace Go.Proofs.YtdcgcgifgnaccaaGreat
open Go.ChangeShapes Go.WideShapes Go.ChangeAt Go.RowKit Go.Joins
section
variable {H : Type} {enc : TypeId × Value → H} {W : World} {cs : List Value}
theorem rdt_nm (h : Rdt enc Tryz.prog W 28 cs) : ∃ n : Nm, cs = n.cells.toList := by
 have hl := h.len_struct Tryz.underlying28
 rw [show Tryz.prog.cellsOf 28 = 3 by kernel_rfl] at hl
 match cs, hl with
 | [c0, c1, c2], _ =>
   have k1 : Tryz.prog.cellsOf 3 = 1 := by kernel_rfl
   obtain ⟨z0, e0, -⟩ := (show Rdt enc Tryz.prog W 3 [c0] from h.field Tryz.underlying28 0 rfl k1).i64 Tryz.underlying3
   obtain ⟨z1, e1, -⟩ := (show Rdt enc Tryz.prog W 3 [c1] from h.field Tryz.underlying28 1 rfl k1).i64 Tryz.underlying3
   obtain ⟨z2, e2, -⟩ := (show Rdt enc Tryz.prog W 3 [c2] from h.field Tryz.underlying28 2 rfl k1).i64 Tryz.underlying3
   cases e0; cases e1; cases e2
   exact ⟨⟨z0, z1, z2⟩, rfl⟩
theorem rdt_v8 (h : Rdt enc Tryz.prog W 59 cs) : ∃ v : V8, cs = v.cellsL := by
 have hl := h.len_array Tryz.underlying59
 rw [show Tryz.prog.cellsOf 59 = 8 by kernel_rfl] at hl
 match cs, hl with
 | [c0, c1, c2, c3, c4, c5, c6, c7], _ =>
   have k1 : Tryz.prog.cellsOf 5 = 1 := by kernel_rfl
   obtain ⟨z0, e0⟩ := (show Rdt enc Tryz.prog W 5 [c0] from h.elem Tryz.underlying59 k1 0 (by omega)).u8 Tryz.underlying5
   obtain ⟨z1, e1⟩ := (show Rdt enc Tryz.prog W 5 [c1] from h.elem Tryz.underlying59 k1 1 (by omega)).u8 Tryz.underlying5
   obtain ⟨z2, e2⟩ := (show Rdt enc Tryz.prog W 5 [c2] from h.elem Tryz.underlying59 k1 2 (by omega)).u8 Tryz.underlying5
   obtain ⟨z3, e3⟩ := (show Rdt enc Tryz.prog W 5 [c3] from h.elem Tryz.underlying59 k1 3 (by omega)).u8 Tryz.underlying5
   obtain ⟨z4, e4⟩ := (show Rdt enc Tryz.prog W 5 [c4] from h.elem Tryz.underlying59 k1 4 (by omega)).u8 Tryz.underlying5
   obtain ⟨z5, e5⟩ := (show Rdt enc Tryz.prog W 5 [c5] from h.elem Tryz.underlying59 k1 5 (by omega)).u8 Tryz.underlying5
   obtain ⟨z6, e6⟩ := (show Rdt enc Tryz.prog W 5 [c6] from h.elem Tryz.underlying59 k1 6 (by omega)).u8 Tryz.underlying5
   obtain ⟨z7, e7⟩ := (show Rdt enc Tryz.prog W 5 [c7] from h.elem Tryz.underlying59 k1 7 (by omega)).u8 Tryz.underlying5
   cases e0; cases e1; cases e2; cases e3; cases e4; cases e5; cases e6; cases e7
   exact ⟨⟨z0, z1, z2, z3, z4, z5, z6, z7⟩, rfl⟩
theorem rdt_sn (h : Rdt enc Tryz.prog W 157 cs) : ∃ x : Sn, cs = x.cellsL := by
 have hl := h.len_struct Tryz.underlying157
 rw [show Tryz.prog.cellsOf 157 = 14 by kernel_rfl] at hl
 match cs, hl with
 | [c0, c1, c2, c3, c4, c5, c6, c7, c8, c9, c10, c11, c12, c13], _ =>
   have k1 : Tryz.prog.cellsOf 3 = 1 := by kernel_rfl
   obtain ⟨z0, e0, -⟩ := (show Rdt enc Tryz.prog W 38 [c0] from h.field Tryz.underlying157 0 rfl (k := 1) (by kernel_rfl)).int Tryz.underlying38
   obtain ⟨n, e1⟩ := rdt_nm (show Rdt enc Tryz.prog W 28 [c1, c2, c3] from h.field Tryz.underlying157 1 rfl (k := 3) (by kernel_rfl))
   obtain ⟨z4, e4, -⟩ := (show Rdt enc Tryz.prog W 3 [c4] from h.field Tryz.underlying157 2 rfl k1).i64 Tryz.underlying3
   obtain ⟨v, e5⟩ := rdt_v8 (show Rdt enc Tryz.prog W 59 [c5, c6, c7, c8, c9, c10, c11, c12] from h.field Tryz.underlying157 3 rfl (k := 8) (by kernel_rfl))
   obtain ⟨z13, e13, -⟩ := (show Rdt enc Tryz.prog W 24 [c13] from h.field Tryz.underlying157 4 rfl (k := 1) (by kernel_rfl)).i64 Tryz.underlying24
   have e1' : c1 = .int .i64 n.stamp ∧ c2 = .int .i64 n.inc ∧ c3 = .int .i64 n.try_ := by simpa using e1
   have e5' : c5 = .int .u8 (v.v0.toNat : Int) ∧ c6 = .int .u8 (v.v1.toNat : Int) ∧ c7 = .int .u8 (v.v2.toNat : Int) ∧ c8 = .int .u8 (v.v3.toNat : Int) ∧ c9 = .int .u8 (v.v4.toNat : Int) ∧ c10 = .int .u8 (v.v5.toNat : Int) ∧ c11 = .int .u8 (v.v6.toNat : Int) ∧ c12 = .int .u8 (v.v7.toNat : Int) := by simpa using e5
   obtain ⟨rfl, rfl, rfl⟩ := e1'
   obtain ⟨rfl, rfl, rfl, rfl, rfl, rfl, rfl, rfl⟩ := e5'
   cases e0; cases e4; cases e13
   exact ⟨⟨z0, n, z4, v, z13⟩, rfl⟩
theorem rdt_seens {t : TypeId} (h : Rdt enc Tryz.prog W t cs) (ht : Tryz.prog.underlying t = some (.slice 157)) : ∃ va vc l, cs = [.slice va l.length vc] ∧ Ss 0 W.heap.size W (.slice va l.length vc) l := by
 obtain ⟨u, l, e, hR⟩ := h.flat (f := Sn.cellsL) (sz := 14) ht (by kernel_rfl) (by omega) (fun _ => rfl) (fun _ h => rdt_sn h)
 obtain ⟨va, vc, rfl, -, -⟩ := Rd.form hR
 exact ⟨va, vc, l, e, hR⟩
end
end Go.Proofs.YtdcgcgifgnaccaaGreat

