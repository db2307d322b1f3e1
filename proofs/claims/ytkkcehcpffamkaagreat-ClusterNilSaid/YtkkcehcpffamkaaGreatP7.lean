/-
  What ClusterNil rests on, part 7.
-/
import Derived.Test.YtkkcehcpffamkaaGreatP6
namespace Go.Proofs.YtkkcehcpffamkaaGreat
open Go.RowKit Go.Sort
def opI (op : List Rc) (i : Nat) : List Rc := (op.take i).map clrR ++ op.drop i
theorem opI_len (op : List Rc) (i : Nat) : (opI op i).length = op.length := by
 unfold opI; rw [List.length_append, List.length_map, List.length_take, List.length_drop]; omega
theorem opI_zero (op : List Rc) : opI op 0 = op := by simp [opI]
theorem opI_all (op : List Rc) : opI op op.length = op.map clrR := by simp [opI]
theorem opI_get {op : List Rc} {i : Nat} {r : Rc} (h : op[i]? = some r) : (opI op i)[i]? = some r := by
 have hl := (List.getElem?_eq_some_iff.1 h).1
 unfold opI
 rw [List.getElem?_append_right (by rw [List.length_map, List.length_take]; omega), List.length_map, List.length_take, List.getElem?_drop, show i + (i - min i op.length) = i by omega]
 exact h
theorem opI_set {op : List Rc} {i : Nat} {r : Rc} (h : op[i]? = some r) : (opI op i).set i (clrR r) = opI op (i + 1) := by
 have hl := (List.getElem?_eq_some_iff.1 h).1
 have h1 : ((op.take i).map clrR).length = i := by rw [List.length_map, List.length_take]; omega
 unfold opI
 rw [List.set_append_right _ _ (by omega), h1, Nat.sub_self, List.drop_eq_getElem_cons hl, (List.getElem?_eq_some_iff.1 h).2, List.set_cons_zero, List.take_add_one, h, List.map_append, List.append_assoc]
 rfl
theorem rcsC_clr (l : List Rc) {k : Nat} {r : Rc} (h : l[k]? = some r) : putL (rcsC l) (k * 12 + 9) [.int .i64 (-1), .int .i64 0] = rcsC (l.set k (clrR r)) := by
 have hk := (List.getElem?_eq_some_iff.1 h).1
 have e : rcsC l = rcsC (l.take k) ++ (r.cL ++ rcsC (l.drop (k + 1))) := by
  rw [show r.cL ++ rcsC (l.drop (k + 1)) = rcsC (r :: l.drop (k + 1)) from rfl, ← rcsC_append]
  congr 1
  have e2 : l.take k ++ (r :: l.drop (k + 1)) = l := by
   rw [← (List.getElem?_eq_some_iff.1 h).2, ← List.drop_eq_getElem_cons hk, List.take_append_drop]
  exact e2.symm
 have hl : (rcsC (l.take k)).length = k * 12 := by rw [rcsC_len, List.length_take, Nat.min_eq_left (by omega)]
 have e3 : rcsC (l.set k (clrR r)) = rcsC (l.take k) ++ ((clrR r).cL ++ rcsC (l.drop (k + 1))) := by
  rw [List.set_eq_take_append_cons_drop, if_pos hk, rcsC_append]; rfl
 rw [putL_eq _ _ _ (by rw [rcsC_len]; show _ + 2 ≤ _; omega), e3]
 have t1 : (rcsC l).take (k * 12 + 9) = rcsC (l.take k) ++ r.cL.take 9 := by
  rw [e, ← hl, List.take_append, List.take_of_length_le (Nat.le_add_right _ _), Nat.add_sub_cancel_left]; rfl
 have t2 : (rcsC l).drop (k * 12 + 9 + 2) = r.cL.drop 11 ++ rcsC (l.drop (k + 1)) := by
  rw [e, Nat.add_assoc, ← hl, List.drop_append, List.drop_of_length_le (Nat.le_add_right _ _), Nat.add_sub_cancel_left]; rfl
 show (rcsC l).take (k * 12 + 9) ++ [.int .i64 (-1), .int .i64 0] ++ (rcsC l).drop (k * 12 + 9 + 2) = _
 rw [t1, t2, List.append_assoc, List.append_assoc]; rfl
theorem app_rec {t n inc n' er : Int} {S0 S1 : DS} {r : Rc} (hr : recOk r) (hroom : n + 1 ≤ t + 24) (h : AppP t n inc (encR r) S0 n' er S1) : n' = n + 1 ∧ er = 0 ∧ S1 = putF S0 (cutF (encR r) n inc) := by
 have h1 := encR_len hr
 have h2 := nOf_rec hr
 have hok : appOk t n (encR r) := ⟨fun e => by rw [e] at h1; simp at h1, by omega, by rw [h2]; omega⟩
 rcases h with ⟨-, a, b, c⟩ | ⟨h, -⟩
 ·rw [h2] at a; exact ⟨a, b, c⟩
 ·exact absurd hok h
set_option maxHeartbeats 4000000 in
theorem saved_any {wc w : World} {A E : List Ent} {b bd lo hi : Nat} {S0 : DS} {T : List Nm} {K N : Int} (s : Ls) (va : Option Addr) (vc : Nat) (hE : DkE bd S0 E) (M : Mem wc w (.blk b (lgC (.pointer (some ⟨bd, 0, none⟩)) s (opV va vc s.op)).toArray 206 :: opE lo hi va vc s.op :: (A ++ E))) (hI : LInv S0 s T K) (hk : K ≤ s.su.inc) (hb : Lb s N) :
 Calls Tryz.prog 270 #[.pointer (some ⟨b, 0, none⟩)] w fun e w' => ∃ S1 E' va2 vc2 lo2 hi2, e = .returned (.tuple #[.agg (stC (savedS s) (opV va2 vc2 (savedS s).op)).toArray, .int .i64 0]) ∧ LInv S1 (savedS s) [] K ∧ DkE bd S1 E' ∧ Mem wc w' (opE lo2 hi2 va2 vc2 (savedS s).op :: .blk b (lgC (.pointer (some ⟨bd, 0, none⟩)) s (opV va vc s.op)).toArray 206 :: opE lo hi va vc s.op :: (A ++ E')) := by
 have hfew := hI.few
 have hmay := hI.may
 have hinc : 0 ≤ s.su.inc ∧ s.su.inc ≤ 1048576 := ⟨hmay.2.2.2.2.2.2.2.1, hmay.2.2.2.2.2.2.2.2.1⟩
 have hgen : 0 ≤ s.su.gen ∧ s.su.gen ≤ 1000 := by have := hb.gen; have := hb.few; have := hmay.2.1; omega
 have hnx : 1 ≤ s.n ∧ s.n ≤ 10000 := by have := hb.nx; have := hb.few; have := hI.mayL; omega
 have hup := hI.up
 obtain ⟨L, c, hMid⟩ := Mid.start hI
 refine calls_enter Tryz.func270 rfl 110 rfl rfl ?_; intro a S
 refine wp_seq ?_
 skip
 refine wp_region_lit (st_alloc S M rfl rfl #[.int .i64 0, .int .i64 0, .int .i64 0, .int .i64 0, .int .i64 0, .int .i64 0, .int .i64 0, .int .i64 0, .int .i64 0, .int .i64 0, .int .i64 0, .int .i64 0, .int .i64 0, .int .i64 0, .int .i64 0, .int .i64 0, .int .i64 0, .int .i64 0, .int .i64 0, .int .i64 0, .int .i64 0, .int .i64 0, .int .i64 0, .int .i64 0, .slice none 0 0] (by kernel_rfl) ?_); intro a w1 bZ S M hB
 refine qG [1] S ?_; intro a S
 refine nxC (wp_seq (nxD (qR [1, 1, 1, 2] S M ?_))); intro a S
 refine qC (xs := [.tmp 14]) S (qE Tryz.func322) rfl (down_any (A := _ :: _ :: _ :: A) hE M) ?_
 rintro _ w2 ⟨rfl, M1⟩; refine ⟨_, rfl, ?_⟩; intro a S; have M := M1; clear M1
 simp only [List.cons_append] at M
 rw [hup] at S
 refine nxC (st_if (t := 15) S rfl ?_ ?_)
 ·intro h15 S
  cases h15
 intro h15 S
 refine st_condF S rfl (wp_skip (nxE (qG [1, 1, 2] S ?_))); intro a S
 refine qC (xs := [.tmp 19]) S (qE Tryz.func267) rfl (copied_any (.pointer (some ⟨bd, 0, none⟩)) s va vc _ (M.blk 1 rfl) (rd_rcs M (p := 2) rfl (by omega)) (by omega)) ?_
 rintro _ w3 ⟨ra, rc, rfl, hF⟩; refine ⟨_, rfl, ?_⟩; intro a S
 obtain ⟨lo2, hi2, -, M1⟩ := M.pushFresh hF; clear M; have M := M1; clear M1
 refine st_alloc S M rfl rfl #[.int .i64 0, .int .i64 0, .int .i64 0, .int .i64 0, .int .i64 0, .int .i64 0, .int .i64 0, .int .i64 0, .int .i64 0, .int .i64 0, .int .i64 0, .int .i64 0, .int .i64 0, .int .i64 0, .int .i64 0, .int .i64 0, .int .i64 0, .int .i64 0, .int .i64 0, .int .i64 0, .int .i64 0, .int .i64 0, .int .i64 0, .int .i64 0, .slice none 0 0] (by kernel_rfl) ?_; intro a w4 bI S M hB
 refine qS (sz := 25) (us := [_, _, _, _, _, _, _, _, _, _, _, _, _, _, _, _, _, _, _, _, _, _, _, _, _]) S M 0 ?_; intro w5 M
 refine nxA (qR [23, 2, 1, 1] S M ?_); intro a S
 refine nxC (wp_seq (nxD (qR [25, 1] S M ?_))); intro a S
 refine qY S (y_lenS (E := 211) S rfl (by kernel_rfl)) ?_; intro a S
 refine qG [1] S ?_; intro a S
 refine nxC (wp_block (wp_loop_g (fun m a w' => ∃ (i : Nat) (S1 : DS) (E1 : List Ent) (lo2 hi2 : Nat), i ≤ s.op.length ∧ m = s.op.length - i ∧ Mid S1 s i L c K ∧ DkE bd S1 E1 ∧ Sees 110 a [(0, .pointer (some ⟨b, 0, none⟩)), (2, .pointer (some ⟨bZ, 0, none⟩)), (4, .pointer (some ⟨bI, 0, none⟩)), (5, .int .i64 s.n), (26, .int .i64 (s.op.length : Int)), (27, .int .i64 (i : Int))] ∧ Mem wc w' (.blk bI (stC ⟨s.su, s.cu, s.n + (i : Int), opI s.op i⟩ (.slice ra s.op.length rc)).toArray 204 :: rowE lo2 hi2 211 12 (.slice ra s.op.length rc) s.op.length (rcsC (opI s.op i)) :: .blk bZ (stC ⟨zSu, zSu, 0, []⟩ (.slice none 0 0)).toArray 204 :: .blk b (lgC (.pointer (some ⟨bd, 0, none⟩)) s (opV va vc s.op)).toArray 206 :: opE lo hi va vc s.op :: (A ++ E1))) (s.op.length) ?_ ?_))
 ·skip
  refine ⟨0, S0, E, lo2, hi2, Nat.zero_le _, rfl, hMid, hE, S.sub _ rfl, ?_⟩
  rw [opI_zero, show s.n + ((0 : Nat) : Int) = s.n by omega]
  exact M
 intro m a wl
 rintro ⟨i, S1, E1, lo2, hi2, hi', rfl, hMi, hE1, S, M⟩
 have hroom := hMi.room
 have hup1 := hMi.dk.up
 refine nxD (qG [1] S ?_); intro a S
 refine nxC (wp_seq (st_fi (t := 28) S rfl ?_ ?_))
 ·intro h28 S
  refine st_condF S rfl (wp_exit (then_exit (then_exit (block_hit (then_normal (wp_seq (nxD (qG [1, 1, 1] S ?_)))))))); intro a S
  refine qY S (y_load S (by kernel_rfl) rfl (M.cell 3 rfl ((show _ = some (Value.pointer (some ⟨bd, 0, none⟩)) from rfl)))) ?_; intro a S
  refine qC (xs := [.tmp 72]) S (qE Tryz.func272) rfl (jflush_any (A := _ :: _ :: _ :: _ :: _ :: A) hE1 M hup1 (fun k => by have := hMi.dk.one k; omega)) ?_
  rintro _ w10 ⟨rfl, E2, hE2, M1⟩; refine ⟨_, rfl, ?_⟩; intro a S; have M := M1; clear M1
  simp only [List.cons_append] at M
  obtain rfl : i = s.op.length := by omega
  obtain ⟨hsm, hI2⟩ := hMi.saved hk hb
  refine qG [1] S ?_; intro a S
  refine nxA (qG [1, 1] S ?_); intro a S
  refine nxC (st_if (t := 75) S rfl ?_ ?_)
  ·intro h75 S
   exact absurd rfl h75
  intro h75 S
  refine st_condF S rfl (wp_skip (nxE (qG [1, 1, 23, 1] S ?_))); intro a S
  refine qS (sz := 1) (us := [_]) S M 0 ?_; intro w11 M
  refine qG [1, 2] S ?_; intro a S
  refine qS (sz := 1) (us := [_]) S M 0 ?_; intro w12 M
  refine nxA (qR [14, 1, 15] S M ?_); intro a S
  refine qY S (y_loadAgg (cs := [_, _, _, _, _, _, _, _]) S (by kernel_rfl) rfl rfl (M.cellsAt (k := 8) 0 rfl rfl)) ?_; intro a S
  refine qG [1, 5] S ?_; intro a S
  refine qS (sz := 1) (us := [_]) S M 0 ?_; intro w13 M
  refine qG [1, 6] S ?_; intro a S
  refine qS (sz := 8) (us := [_, _, _, _, _, _, _, _]) S M 0 ?_; intro w14 M
  replace S := S.keep [0, 2, 4, 5, 26, 27, 28, 9, 75]
  refine nxA (qR [1, 1, 1] S M ?_); intro a S
  (first | refine qY S (y_addN S rfl rfl (by omega)) ?_ | refine qY S (y_int S rfl rfl rfl) ?_); intro a S
  refine qG [1, 1] S ?_; intro a S
  refine qS (sz := 1) (us := [_]) S M 0 ?_; intro w15 M
  refine nxC (wp_seq (wp_seq (wp_regionK [6] #[false, false, false, false, false, false, false, false] rfl M (by kernel_rfl) ?_))); intro w16 M
  refine k_pure 0 S rfl (fun w => y_move S rfl) ?_; intro a S
  refine k_pure 1 S rfl (fun w => y_nilCheck S rfl) ?_; intro a S
  refine k_pure 2 S rfl (fun w => y_fieldAddr (k := 0) S (by kernel_rfl) rfl) ?_; intro a S
  refine k_read 3 S rfl (fun w hW => have M := M.grow hW; y_load S (by kernel_rfl) rfl (M.cell 3 rfl ((show _ = some (Value.pointer (some ⟨bd, 0, none⟩)) from rfl)))) ?_; intro a S
  refine k_pure 4 S rfl (fun w => y_fieldAddr (k := 0) S (by kernel_rfl) rfl) ?_; intro a S
  refine k_read 5 S rfl (fun w hW => have M := M.grow hW; y_loadAgg (cs := [_, _, _, _, _, _, _, _, _, _, _, _, _]) S (by kernel_rfl) rfl rfl (M.cellsAt (k := 13) 0 rfl rfl)) ?_; intro a S
  refine k_one 6 rfl (by kernel_rfl) ?_
  refine qC (xs := [.tmp 101, .tmp 103]) S (qE Tryz.func59) rfl (super_any (A := _ :: _ :: _ :: _ :: _ :: A) (savedSu s) hE2 M hup1 hsm (fun k => Nat.zero_le _)) ?_
  rintro _ w17 ⟨rfl, E3, hE3, M1⟩; refine ⟨_, rfl, ?_⟩; intro a S; have M := M1; clear M1
  simp only [List.cons_append] at M
  refine nxC ⟨fun h => absurd h (by decide), ?_⟩
  refine k_pure 7 S rfl (fun w => y_assign S rfl) ?_; intro a S
  refine k_end (by kernel_rfl) ?_
  refine nxE (qG [1, 1] S ?_); intro a S
  replace S := S.keep [0, 2, 4, 5, 26, 27, 28, 9, 75, 10, 106]
  refine nxC (st_if (t := 106) S rfl ?_ ?_)
  ·intro h106 S
   exact absurd rfl h106
  intro h106 S
  refine st_condF S rfl (wp_skip (nxE (qY S (y_loadAgg (cs := [_, _, _, _, _, _, _, _, _, _, _, _, _, _, _, _, _, _, _, _, _, _, _, _, _]) S (by kernel_rfl) rfl rfl (M.cellsAt (k := 25) 0 rfl rfl)) ?_))); intro a S
  refine qS (sz := 25) (us := [_, _, _, _, _, _, _, _, _, _, _, _, _, _, _, _, _, _, _, _, _, _, _, _, _]) S M 2 ?_; intro w18 M
  refine qG [1] S ?_; intro a S
  refine nxC (wp_ret (end_two S rfl (res_agg (cs := [_, _, _, _, _, _, _, _, _, _, _, _, _, _, _, _, _, _, _, _, _, _, _, _, _]) (by kernel_rfl) rfl rfl (M.cellsAt (k := 25) 2 rfl rfl)) (res_tmp rfl) ?_))
  skip
  rw [opI_all] at M
  exact ⟨_, E3, ra, rc, lo2, hi2, by first | rfl | (unfold opV savedS; simp only [List.length_map]; rfl), hI2, hE3, by have M2 := (M.drop 0).drop 1; unfold opE opV savedS; simp only [List.length_map]; exact M2⟩
 intro h28 S
 refine st_condT S rfl (wp_skip (then_normal (wp_seq (wp_block (nxD (qG [1, 1] S ?_)))))); intro a S
 refine nxC (wp_seq ?_)
 obtain ⟨r, hr⟩ : ∃ r, s.op[i]? = some r := ⟨_, List.getElem?_eq_getElem (by omega)⟩
 have hrok := hMi.oks.2.ok r (List.mem_of_getElem? hr)
 have hcok := clr_ok hrok.1 hrok.2
 have hrl := rcsC_len (opI s.op i)
 rw [opI_len] at hrl
 refine wp_region_lit (qG [25] S ?_); intro a S
 refine qY S (y_load S (by kernel_rfl) rfl (M.cell 0 rfl ((show _ = some (Value.slice ra s.op.length rc) from rfl)))) ?_; intro a S
 refine qG [1] S ?_; intro a S
 refine qY S (y_build (ps := [(0, .const (.int .i64 (-1)))]) (pl := [(0, 1), (1, 1)]) (z := [.int .i64 0, .int .i64 0]) (cs := [_, _]) S (by kernel_rfl) rfl (rfl)) ?_; intro a S
 refine qY S (y_indexR (e := 211) (sz := 12) S (by kernel_rfl) rfl (M.readAll 1 rfl (by unfold maxLen; omega)) rfl (by first | omega | (simp; done) | (simp; omega))) ?_; intro a S
 try simp only [Int.toNat_natCast, Nat.mul_one, Nat.zero_add] at S
 refine qG [10] S ?_; intro a S
 refine st_storeRow (v := .slice ra s.op.length rc) (sz := 12) (m := s.op.length) (j := i * 12 + 9) (us := [.int .i64 (-1), .int .i64 0]) S M 1 rfl (by kernel_rfl) rfl rfl (by first | rfl | omega | (simp only [Int.toNat_natCast]; omega)) rfl rfl rfl rfl rfl (by omega) hrl (by rw [hrl]; show i * 12 + 9 + 2 ≤ _; omega) ?_; intro wz lo9 hi9 M
 simp only [List.eraseIdx_cons_succ, List.eraseIdx_cons_zero] at M
 rw [rcsC_clr _ (opI_get hr), opI_set hr] at M
 refine nxA (qG [25] S ?_); intro a S
 refine qY S (y_load S (by kernel_rfl) rfl (M.cell 1 rfl ((show _ = some (Value.slice ra s.op.length rc) from rfl)))) ?_; intro a S
 refine qG [1] S ?_; intro a S
 refine qY S (y_indexR (e := 211) (sz := 12) S (by kernel_rfl) rfl (M.readAll 0 rfl (by unfold maxLen; omega)) rfl (by first | omega | (simp; done) | (simp; omega))) ?_; intro a S
 try simp only [Int.toNat_natCast, Nat.mul_one, Nat.zero_add] at S
 refine qY S (y_loadAgg S (by kernel_rfl) rfl rfl ((M.readAll 0 rfl (by unfold maxLen; omega)).at_.row (i := i) (rcsC_get (show (opI s.op (i + 1))[i]? = some (clrR r) by rw [← opI_set hr, List.getElem?_set_self (by rw [opI_len]; omega)])) rfl)) ?_; intro a S
 refine qC (xs := [.tmp 41]) S (qE Tryz.func144) rfl (bytesR_any (clrR r) none 0 0 [] _ (rec_shards hcok.1) (Rd.nil 0 _ _ 9)) ?_
 rintro _ w6 ⟨v1, rfl, hK, hF, -⟩; refine ⟨_, rfl, ?_⟩; intro a S
 have hF := hF hcok.1.1
 rw [if_pos hcok.1.1] at S
 obtain ⟨lo3, hi3, -, M1⟩ := M.pushFresh hF; clear M; have M := M1; clear M1
 refine qG [1, 1, 1, 1, 1] S ?_; intro a S
 replace S := S.keep [0, 2, 4, 5, 26, 27, 28, 6, 7, 8]
 refine nxC (wp_seq (nxD (qG [1, 1] S ?_))); intro a S
 refine nxC (st_if (t := 46) S rfl ?_ ?_)
 ·intro h46 S
  exact absurd rfl h46
 intro h46 S
 refine st_condF S rfl (wp_skip (then_normal (wp_seq (wp_regionK [10, 15] #[false, false, false, false, false, false, false, false, false, false, false, false, false, false, false, false, false] rfl M (by kernel_rfl) ?_)))); intro w7 M
 refine k_pure 0 S rfl (fun w => y_move S rfl) ?_; intro a S
 refine k_pure 1 S rfl (fun w => y_nilCheck S rfl) ?_; intro a S
 refine k_pure 2 S rfl (fun w => y_fieldAddr (k := 0) S (by kernel_rfl) rfl) ?_; intro a S
 refine k_read 3 S rfl (fun w hW => have M := M.grow hW; y_load S (by kernel_rfl) rfl (M.cell 4 rfl ((show _ = some (Value.pointer (some ⟨bd, 0, none⟩)) from rfl)))) ?_; intro a S
 refine k_pure 4 S rfl (fun w => y_fieldAddr (k := 22) S (by kernel_rfl) rfl) ?_; intro a S
 refine k_read 5 S rfl (fun w hW => have M := M.grow hW; y_loadAgg (cs := [_, _]) S (by kernel_rfl) rfl rfl (M.cellsAt (k := 2) 2 rfl rfl)) ?_; intro a S
 refine k_pure 6 S rfl (fun w => y_fieldAddr (k := 0) S (by kernel_rfl) rfl) ?_; intro a S
 refine k_pure 7 S rfl (fun w => y_fieldAddr (k := 3) S (by kernel_rfl) rfl) ?_; intro a S
 refine k_read 8 S rfl (fun w hW => have M := M.grow hW; y_load S (by kernel_rfl) rfl (M.cell 2 rfl rfl)) ?_; intro a S
 refine k_pure 9 S rfl (fun w => y_move S rfl) ?_; intro a S
 refine k_one 10 rfl (by kernel_rfl) ?_
 refine qC (xs := [.tmp 53, .tmp 55, .tmp 58, .tmp 59]) S (qE Tryz.func271) rfl (append_any (A := _ :: _ :: _ :: _ :: _ :: _ :: A) s.su.tail (s.n + (i : Int)) s.su.inc v1 (encR (clrR r)) hE1 M (fun W M => M.readAll 0 rfl (by have h9 := encR_len hcok.1; show (encR (clrR r)).length ≤ maxLen; unfold maxLen; omega)) hup1 (by unfold mayL; omega) (by omega) hinc (fun k => by have := hMi.dk.one k; omega)) ?_
 rintro _ w8 ⟨n', er, S2, rfl, hP, E2, hE2, M1⟩; refine ⟨_, rfl, ?_⟩; intro a S; have M := M1; clear M1
 simp only [List.cons_append] at M
 obtain ⟨rfl, rfl, rfl⟩ := app_rec hcok.1 (by omega) hP
 have hMi2 := hMi.step hr hk
 refine nxC ⟨fun h => absurd h (by decide), ?_⟩
 refine k_pure 11 S rfl (fun w => y_move S rfl) ?_; intro a S
 refine k_pure 12 S rfl (fun w => y_extract S rfl rfl) ?_; intro a S
 refine k_pure 13 S rfl (fun w => y_extract S rfl rfl) ?_; intro a S
 refine k_pure 14 S rfl (fun w => y_fieldAddr (k := 22) S (by kernel_rfl) rfl) ?_; intro a S
 refine k_one 15 rfl (by kernel_rfl) ?_
 refine qS (sz := 2) (us := [_, _]) S M 2 ?_; intro w9 M
 refine nxC ⟨fun h => absurd h (by decide), ?_⟩
 refine k_pure 16 S rfl (fun w => y_assign S rfl) ?_; intro a S
 refine k_end (by kernel_rfl) ?_
 replace S := S.keep [0, 2, 4, 5, 26, 27, 28, 6, 7, 46, 8]
 refine nxE (qG [1, 1] S ?_); intro a S
 refine nxC (st_if (t := 65) S rfl ?_ ?_)
 ·intro h65 S
  exact absurd rfl h65
 intro h65 S
 refine st_condF S rfl (wp_skip (block_normal (nxF ?_)))
 (first | refine qY S (y_addN S rfl rfl (by omega)) ?_ | refine qY S (y_int S rfl rfl rfl) ?_); intro a S
 refine qG [1] S ?_; intro a S
 refine nxC ?_
 skip
 replace M := M.drp 0
 replace M := M.frn 1
 refine ⟨s.op.length - (i + 1), by omega, i + 1, _, E2, lo9, hi9, by omega, rfl, hMi2, hE2, S.sub _ rfl, ?_⟩
 rw [show s.n + ((i + 1 : Nat) : Int) = s.n + (i : Int) + 1 by omega]
 exact M
end Go.Proofs.YtkkcehcpffamkaaGreat

namespace Go.Proofs.YtkkcehcpffamkaaGreat
open Go.RowKit Go.Sort
abbrev lgE (b bd : Nat) (s : Ls) (va : Option Addr) (vc : Nat) : Ent := .blk b (lgC (.pointer (some ⟨bd, 0, none⟩)) s (opV va vc s.op)).toArray 206
set_option maxHeartbeats 4000000 in
theorem room_any {wc w : World} {A E : List Ent} {b bd bN bB bI bX lo hi loI hiI : Nat} {S0 : DS} {T : List Nm} {K N : Int} (s : Ls) (r : Rc) (va ia : Option Addr) (vc ic : Nat) (vb : Option Addr) (cb : Nat) (hE : DkE bd S0 E)
 (M : Mem wc w (.blk bN #[.int .i64 1] 3 :: .blk bB (stC (s.take r) (opV vb cb (s.take r).op)).toArray 204 :: .blk bX #[.pointer (some ⟨b, 0, none⟩)] 85 :: .blk bI (stC s (opV ia ic s.op)).toArray 204 :: opE loI hiI ia ic s.op :: lgE b bd s va vc :: opE lo hi va vc s.op :: (A ++ E)))
 (hI : LInv S0 s T K) (hk : K ≤ s.su.inc) (hb : Lb s N) (h8 : (s.take r).op.length ≤ 1000) :
 Calls Tryz.prog 268 #[.pointer (some ⟨bN, 0, none⟩), .pointer (some ⟨bB, 0, none⟩), .pointer (some ⟨bI, 0, none⟩), .pointer (some ⟨bX, 0, none⟩)] w fun e w' => ∃ S1 E' va2 vc2 lo2 hi2 ia2 ic2 loI2 hiI2, e = .returned (.int .i64 0) ∧ (roomS s r → S1 = S0) ∧ LInv S1 (madeS s r) T K ∧ DkE bd S1 E' ∧ Mem wc w' (.blk bN #[.int .i64 1] 3 :: .blk bB (stC (s.take r) (opV vb cb (s.take r).op)).toArray 204 :: .blk bX #[.pointer (some ⟨b, 0, none⟩)] 85 :: .blk bI (stC (madeS s r) (opV ia2 ic2 (madeS s r).op)).toArray 204 :: opE loI2 hiI2 ia2 ic2 (madeS s r).op :: lgE b bd (madeS s r) va2 vc2 :: opE lo2 hi2 va2 vc2 (madeS s r).op :: (A ++ E')) := by
 have hl := hI.mayL
 have hfew := hI.few
 have hnx : 1 ≤ s.n ∧ s.n ≤ 10000 := by have := hb.nx; have := hb.few; omega
 refine calls_enter Tryz.func268 rfl 32 rfl rfl ?_; intro a S
 refine wp_seq ?_
 skip
 refine wp_region_lit (qG [1] S ?_); intro a S
 refine nxC (wp_seq (wp_seq (wp_regionK [] #[false, false, false, false, false, false, false, false, false] rfl M (by kernel_rfl) ?_))); intro w1 M
 refine k_read 0 S rfl (fun w hW => have M := M.grow hW; y_load S (by kernel_rfl) rfl (M.cell 0 rfl rfl)) ?_; intro a S
 refine k_pure 1 S rfl (fun w => y_fieldAddr (k := 24) S (by kernel_rfl) rfl) ?_; intro a S
 refine k_read 2 S rfl (fun w hW => have M := M.grow hW; y_load S (by kernel_rfl) rfl (M.cell 1 rfl ((show _ = some (opV vb cb (s.take r).op) from rfl)))) ?_; intro a S
 refine k_pure 3 S rfl (fun w => y_lenS (E := 211) S rfl (by kernel_rfl)) ?_; intro a S
 (first | refine k_pure 4 S rfl (fun w => y_addN S rfl rfl (by omega)) ?_ | refine k_pure 4 S rfl (fun w => y_int S rfl rfl rfl) ?_); intro a S
 refine k_pure 5 S rfl (fun w => y_fieldAddr (k := 22) S (by kernel_rfl) rfl) ?_; intro a S
 refine k_read 6 S rfl (fun w hW => have M := M.grow hW; y_loadAgg (cs := [_, _]) S (by kernel_rfl) rfl rfl (M.cellsAt (k := 2) 3 rfl rfl)) ?_; intro a S
 refine k_one 7 rfl (by kernel_rfl) ?_
 refine qQ (xs := [.tmp 13]) S (qE Tryz.func269) rfl (FreeJ s.su.tail s.n _ (by unfold mayL; omega)) M ?_; intro a w2 S hK M
 refine nxC ⟨fun _ => hK, ?_⟩
 refine k_pure 8 S rfl (fun w => y_int S rfl rfl rfl) ?_; intro a S
 refine k_end (by kernel_rfl) ?_
 refine then_normal (st_if (t := 15) S rfl ?_ ?_)
 ·intro h15 S
  refine st_condT S rfl (nxD (qG [1] S ?_)); intro a S
  refine nxC (wp_ret (then_ret (end_one S rfl (res_tmp rfl) ?_)))
  have hr : roomS s r := by unfold roomS; omega
  have e : madeS s r = s := if_pos hr
  rw [e]
  exact ⟨S0, E, va, vc, lo, hi, ia, ic, loI, hiI, rfl, fun _ => rfl, hI, hE, M⟩
 intro h15 S
 refine st_condF S rfl (wp_skip (then_normal (wp_seq ?_)))
 have hr : ¬ roomS s r := by unfold roomS; omega
 have e : madeS s r = savedS s := if_neg hr
 replace M := M.ord [6, 6] (by simp only [ordO, oG, oS, oE, oZ, oB] <;> rfl)
 refine wp_region_lit (qY S (y_load S (by kernel_rfl) rfl (M.cell 4 rfl ((show _ = some (Value.pointer (some ⟨b, 0, none⟩)) from rfl)))) ?_); intro a S
 refine qC (xs := [.tmp 17]) S (qE Tryz.func270) rfl (saved_any (A := _ :: _ :: _ :: _ :: _ :: A) (T := T) (K := K) (N := N) s va vc hE M hI hk hb) ?_
 rintro _ w3 ⟨S1, E1, ra, rc, lo3, hi3, rfl, hI1, hE1, M1⟩; refine ⟨_, rfl, ?_⟩; intro a S; have M := M1; clear M1
 simp only [List.cons_append] at M
 have hfew1 := hI1.few
 refine qG [1, 1, 1] S ?_; intro a S
 refine st_alloc S M rfl rfl #[.int .i64 0, .int .i64 0, .int .i64 0, .int .i64 0, .int .i64 0, .int .i64 0, .int .i64 0, .int .i64 0, .int .i64 0, .int .i64 0, .int .i64 0, .int .i64 0, .int .i64 0, .int .i64 0, .int .i64 0, .int .i64 0, .int .i64 0, .int .i64 0, .int .i64 0, .int .i64 0, .int .i64 0, .int .i64 0, .int .i64 0, .int .i64 0, .slice none 0 0] (by kernel_rfl) ?_; intro a w4 bZ S M hB
 refine qS (sz := 25) (us := [_, _, _, _, _, _, _, _, _, _, _, _, _, _, _, _, _, _, _, _, _, _, _, _, _]) S M 0 ?_; intro w5 M
 refine qG [1] S ?_; intro a S
 refine nxC (wp_seq (nxD (qG [1, 1] S ?_))); intro a S
 replace S := S.keep [0, 1, 2, 3, 4, 15, 5, 6, 22]
 refine nxC (st_if (t := 22) S rfl ?_ ?_)
 ·intro h22 S
  exact absurd rfl h22
 intro h22 S
 refine st_condF S rfl (wp_skip (nxE (qY S (y_load S (by kernel_rfl) rfl (M.cell 6 rfl ((show _ = some (Value.pointer (some ⟨b, 0, none⟩)) from rfl)))) ?_))); intro a S
 skip
 refine qY S (y_loadAgg (cs := [_, _, _, _, _, _, _, _, _, _, _, _, _, _, _, _, _, _, _, _, _, _, _, _, _]) S (by kernel_rfl) rfl rfl (M.cellsAt (k := 25) 0 rfl rfl)) ?_; intro a S
 refine qG [1, 2] S ?_; intro a S
 refine qS (sz := 25) (us := [_, _, _, _, _, _, _, _, _, _, _, _, _, _, _, _, _, _, _, _, _, _, _, _, _]) S M 2 ?_; intro w6 M
 refine nxA (qY S (y_load S (by kernel_rfl) rfl (M.cell 6 rfl ((show _ = some (Value.pointer (some ⟨b, 0, none⟩)) from rfl)))) ?_); intro a S
 refine qG [1, 2] S ?_; intro a S
 refine qC (xs := [.tmp 30]) S (qE Tryz.func267) rfl (copied_any (.pointer (some ⟨bd, 0, none⟩)) (savedS s) ra rc _ (M.blk 2 rfl) (rd_rcs M (p := 1) rfl (by omega)) (by omega)) ?_
 rintro _ w7 ⟨ja, jc, rfl, hF⟩; refine ⟨_, rfl, ?_⟩; intro a S
 obtain ⟨lo4, hi4, -, M1⟩ := M.pushFresh hF; clear M; have M := M1; clear M1
 refine qS (sz := 25) (us := [_, _, _, _, _, _, _, _, _, _, _, _, _, _, _, _, _, _, _, _, _, _, _, _, _]) S M 8 ?_; intro w8 M
 refine nxA (qG [1] S ?_); intro a S
 refine nxC (wp_ret (end_one S rfl (res_tmp rfl) ?_))
 skip
 replace M := M.drp 4
 replace M := M.drp 1
 replace M := M.drp 7
 replace M := M.ord [1, 2, 2, 6, 6, 6, 6] (by simp only [ordO, oG, oS, oE, oZ, oB] <;> rfl)
 rw [e]
 exact ⟨S1, E1, ra, rc, lo3, hi3, ja, jc, lo4, hi4, rfl, fun h => absurd h hr, hI1.mono (fun n h => absurd h (by simp)), hE1, M⟩
end Go.Proofs.YtkkcehcpffamkaaGreat

namespace Go.Proofs.YtkkcehcpffamkaaGreat
open Go.RowKit Go.Sort
theorem keep_take (s : Ls) (r : Rc) : ({ madeS s r with n := (madeS s r).n + 1 } : Ls).take r = keepS s r := rfl
set_option maxHeartbeats 8000000 in
theorem keep_any {wc w : World} {A E : List Ent} {b bd lo hi : Nat} {S0 : DS} {T : List Nm} {K N : Int} (s : Ls) (r : Rc) (fl : Bool) (va wa : Option Addr) (vc wn wk : Nat) (hE : DkE bd S0 E)
 (M : Mem wc w (lgE b bd s va vc :: opE lo hi va vc s.op :: (A ++ E))) (hu : Ws 0 wc.heap.size wc (.slice wa wn wk) [])
 (hI : LInv S0 s T K) (hk : K ≤ s.su.inc) (hb : Lb s N) (hr : recOk r) (h8 : (s.take r).op.length ≤ 8) (hf : if fl = true then s.op.length ≤ (s.take r).op.length else ∃ k, r.kind = 5 ∧ fd s.op r.name = some k) :
 Calls Tryz.prog 174 #[.pointer (some ⟨b, 0, none⟩), .agg (r.cells (.slice wa wn wk)), .bool fl] w fun e w' => e = .returned (.int .i64 0) ∧ ∃ S1 E' va2 vc2 lo2 hi2, LInv S1 (keepS s r) (if fl = true then [] else r.name :: T) K ∧ (fl = false → roomS s r → S1 = putF S0 (cutF (encR r) s.n s.su.inc)) ∧ DkE bd S1 E' ∧ Mem wc w' (lgE b bd (keepS s r) va2 vc2 :: opE lo2 hi2 va2 vc2 (keepS s r).op :: (A ++ E')) := by
 have hfew := hI.few
 have hmay := hI.may
 have hinc : 0 ≤ s.su.inc ∧ s.su.inc ≤ 1048576 := ⟨hmay.2.2.2.2.2.2.2.1, hmay.2.2.2.2.2.2.2.2.1⟩
 have hen : 0 < (r.enc []).length ∧ (r.enc []).length ≤ 13 := encR_len hr
 have hw1 : wantsP (((r.enc []).length : Nat) : Int) = 1 := by unfold wantsP; rw [if_neg (by omega)]; omega
 have hnx : 1 ≤ s.n ∧ s.n ≤ 10000 := by have := hb.nx; have := hb.few; have := hI.mayL; omega
 have hmn : (madeS s r).n ≤ 10100 := by
  unfold madeS; split
  ·omega
  ·show s.n + (s.op.length : Int) ≤ _; omega
 have hk1 : K ≤ (madeS s r).su.inc := by rw [made_inc]; exact hk
 refine calls_enter Tryz.func174 rfl 73 rfl rfl ?_; intro a S
 refine wp_seq ?_
 skip
 refine wp_region_lit (st_box S M rfl rfl rfl #[_] rfl ?_); intro a w1 bX S M hB
 refine st_box S M rfl rfl rfl #[_, _, _, _, _, _, _, _, _, _, _, _] rfl ?_; intro a w2 bRr S M hB
 refine qG [1] S ?_; intro a S
 refine nxA (qY S (y_loadAgg (cs := [_, _, _, _, _, _, _, _, _, _, _, _]) S (by kernel_rfl) rfl rfl (M.cellsAt (k := 12) 0 rfl rfl)) ?_); intro a S
 refine qC (xs := [.tmp 14]) S (qE Tryz.func144) rfl (bytesR_any r wa wn wk [] _ (rec_shards hr) (M.argW hu)) ?_
 rintro _ w3 ⟨v1, rfl, hK, hF, -⟩; refine ⟨_, rfl, ?_⟩; intro a S
 have hF := hF hr.1
 rw [if_pos hr.1] at S
 obtain ⟨lo3, hi3, -, M1⟩ := M.pushFresh hF; clear M; have M := M1; clear M1
 refine qG [1, 1, 1, 1, 1] S ?_; intro a S
 refine nxC (wp_seq (nxD (qG [1, 1] S ?_))); intro a S
 refine nxC (st_if (t := 19) S rfl ?_ ?_)
 ·intro h19 S
  exact absurd rfl h19
 intro h19 S
 refine st_condF S rfl (wp_skip (nxE (qG [1] S ?_))); intro a S
 refine qY S (y_lenR (E := 5) S rfl (M.readAll 0 rfl (by show (r.enc []).length ≤ maxLen; unfold maxLen; omega)) (by kernel_rfl)) ?_; intro a S
 refine qQ (xs := [.tmp 22]) S (qE Tryz.func266) rfl (wants_any _ _) M ?_; intro a w4 S hK M
 rw [hw1] at S
 refine st_alloc S M rfl rfl #[.int .i64 0] (by kernel_rfl) ?_; intro a w5 bBn S M hB
 refine qS (sz := 1) (us := [_]) S M 0 ?_; intro w6 M
 refine nxC (wp_cut (fun a w' => ∃ (bI bB : Nat) (ra : Option Addr) (rc : Nat) (ka : Option Addr) (kc lo4 hi4 lo5 hi5 : Nat), Sees 73 a [(2, .bool fl), (3, .pointer (some ⟨bX, 0, none⟩)), (4, .pointer (some ⟨bRr, 0, none⟩)), (7, v1), (9, .pointer (some ⟨bBn, 0, none⟩)), (10, .pointer (some ⟨bI, 0, none⟩)), (11, .pointer (some ⟨bB, 0, none⟩))] ∧ Mem wc w' (.blk bB (stC s (opV ka kc s.op)).toArray 204 :: opE lo5 hi5 ka kc s.op :: .blk bI (stC s (opV ra rc s.op)).toArray 204 :: opE lo4 hi4 ra rc s.op :: .blk bBn #[.int .i64 1] 3 :: rowE lo3 hi3 5 1 v1 (r.enc []).length (bcells (r.enc [])) :: .blk bRr (r.cells (.slice wa wn wk)) 211 :: .blk bX #[.pointer (some ⟨b, 0, none⟩)] 85 :: lgE b bd s va vc :: opE lo hi va vc s.op :: (A ++ E))) ?_ ?_)
 ·skip
  refine wp_regionK [10, 11] #[false, false, false, false, false, false, false, false, false, false, false, false] rfl M (by kernel_rfl) ?_; intro w7 M
  refine k_read 0 S rfl (fun w hW => have M := M.grow hW; y_load S (by kernel_rfl) rfl (M.cell 3 rfl ((show _ = some (Value.pointer (some ⟨b, 0, none⟩)) from rfl)))) ?_; intro a S
  refine k_pure 1 S rfl (fun w => y_nilCheck S rfl) ?_; intro a S
  refine k_pure 2 S rfl (fun w => y_fieldAddr (k := 1) S (by kernel_rfl) rfl) ?_; intro a S
  refine k_read 4 S rfl (fun w hW => have M := M.grow hW; y_load S (by kernel_rfl) rfl (M.cell 3 rfl ((show _ = some (Value.pointer (some ⟨b, 0, none⟩)) from rfl)))) ?_; intro a S
  refine k_pure 5 S rfl (fun w => y_nilCheck S rfl) ?_; intro a S
  refine k_pure 6 S rfl (fun w => y_fieldAddr (k := 1) S (by kernel_rfl) rfl) ?_; intro a S
  refine k_three 3 8 9 rfl rfl rfl (by kernel_rfl) ?_ ?_ ?_
  ·skip
   refine qC (xs := [.tmp 26]) S (qE Tryz.func267) rfl (copied_any (.pointer (some ⟨bd, 0, none⟩)) s va vc _ (M.blk 4 rfl) (rd_rcs M (p := 5) rfl (by omega)) (by omega)) ?_
   rintro _ w8 ⟨ra, rc, rfl, hF⟩; refine ⟨_, rfl, ?_⟩; intro a S
   have hK := hF.below
   obtain ⟨lo4, hi4, -, M1⟩ := M.pushFresh hF; clear M; have M := M1; clear M1
   refine nxC ⟨fun _ => hK, ?_⟩
   refine k_three 7 8 9 rfl rfl rfl (by kernel_rfl) ?_ ?_ ?_
   ·skip
    refine qC (xs := [.tmp 30]) S (qE Tryz.func267) rfl (copied_any (.pointer (some ⟨bd, 0, none⟩)) s va vc _ (M.blk 5 rfl) (rd_rcs M (p := 6) rfl (by omega)) (by omega)) ?_
    rintro _ w9 ⟨ka, kc, rfl, hF⟩; refine ⟨_, rfl, ?_⟩; intro a S
    have hK := hF.below
    obtain ⟨lo5, hi5, -, M1⟩ := M.pushFresh hF; clear M; have M := M1; clear M1
    refine nxC ⟨fun _ => hK, ?_⟩
    refine k_two 8 9 rfl rfl (by kernel_rfl) ?_ ?_
    ·skip
     refine st_alloc S M rfl rfl #[.int .i64 0, .int .i64 0, .int .i64 0, .int .i64 0, .int .i64 0, .int .i64 0, .int .i64 0, .int .i64 0, .int .i64 0, .int .i64 0, .int .i64 0, .int .i64 0, .int .i64 0, .int .i64 0, .int .i64 0, .int .i64 0, .int .i64 0, .int .i64 0, .int .i64 0, .int .i64 0, .int .i64 0, .int .i64 0, .int .i64 0, .int .i64 0, .slice none 0 0] (by kernel_rfl) ?_; intro a w10 bI S M hB
     refine nxC ⟨fun _ => hB, ?_⟩
     refine k_one 9 rfl (by kernel_rfl) ?_
     refine st_alloc S M rfl rfl #[.int .i64 0, .int .i64 0, .int .i64 0, .int .i64 0, .int .i64 0, .int .i64 0, .int .i64 0, .int .i64 0, .int .i64 0, .int .i64 0, .int .i64 0, .int .i64 0, .int .i64 0, .int .i64 0, .int .i64 0, .int .i64 0, .int .i64 0, .int .i64 0, .int .i64 0, .int .i64 0, .int .i64 0, .int .i64 0, .int .i64 0, .int .i64 0, .slice none 0 0] (by kernel_rfl) ?_; intro a w11 bB S M hB
     refine nxC ⟨fun _ => hB, ?_⟩
     refine k_one 10 rfl (by kernel_rfl) ?_
     refine qS (sz := 25) (us := [_, _, _, _, _, _, _, _, _, _, _, _, _, _, _, _, _, _, _, _, _, _, _, _, _]) S M 1 ?_; intro w12 M
     refine nxC ⟨fun h => absurd h (by decide), ?_⟩
     refine k_one 11 rfl (by kernel_rfl) ?_
     refine qS (sz := 25) (us := [_, _, _, _, _, _, _, _, _, _, _, _, _, _, _, _, _, _, _, _, _, _, _, _, _]) S M 0 ?_; intro w13 M
     refine nxC ⟨fun h => absurd h (by decide), ?_⟩
     refine k_end (by kernel_rfl) ?_
     replace S := S.keep [0, 1, 2, 3, 4, 6, 7, 8, 19, 9, 10, 11]
     refine then_normal ?_
     skip
     replace M := M.ord [9, 9, 9, 9, 9, 9, 9, 8, 9, 9] (by simp only [ordO, oG, oS, oE, oZ, oB] <;> rfl)
     exact ⟨_, _, ra, rc, ka, kc, lo4, hi4, lo5, hi5, S.sub _ rfl, M⟩
    ·skip
     refine st_alloc S M rfl rfl #[.int .i64 0, .int .i64 0, .int .i64 0, .int .i64 0, .int .i64 0, .int .i64 0, .int .i64 0, .int .i64 0, .int .i64 0, .int .i64 0, .int .i64 0, .int .i64 0, .int .i64 0, .int .i64 0, .int .i64 0, .int .i64 0, .int .i64 0, .int .i64 0, .int .i64 0, .int .i64 0, .int .i64 0, .int .i64 0, .int .i64 0, .int .i64 0, .slice none 0 0] (by kernel_rfl) ?_; intro a w14 bB S M hB
     refine nxC ⟨fun _ => hB, ?_⟩
     refine k_one 8 rfl (by kernel_rfl) ?_
     refine st_alloc S M rfl rfl #[.int .i64 0, .int .i64 0, .int .i64 0, .int .i64 0, .int .i64 0, .int .i64 0, .int .i64 0, .int .i64 0, .int .i64 0, .int .i64 0, .int .i64 0, .int .i64 0, .int .i64 0, .int .i64 0, .int .i64 0, .int .i64 0, .int .i64 0, .int .i64 0, .int .i64 0, .int .i64 0, .int .i64 0, .int .i64 0, .int .i64 0, .int .i64 0, .slice none 0 0] (by kernel_rfl) ?_; intro a w15 bI S M hB
     refine nxC ⟨fun _ => hB, ?_⟩
     refine k_one 10 rfl (by kernel_rfl) ?_
     refine qS (sz := 25) (us := [_, _, _, _, _, _, _, _, _, _, _, _, _, _, _, _, _, _, _, _, _, _, _, _, _]) S M 0 ?_; intro w16 M
     refine nxC ⟨fun h => absurd h (by decide), ?_⟩
     refine k_one 11 rfl (by kernel_rfl) ?_
     refine qS (sz := 25) (us := [_, _, _, _, _, _, _, _, _, _, _, _, _, _, _, _, _, _, _, _, _, _, _, _, _]) S M 1 ?_; intro w17 M
     refine nxC ⟨fun h => absurd h (by decide), ?_⟩
     refine k_end (by kernel_rfl) ?_
     replace S := S.keep [0, 1, 2, 3, 4, 6, 7, 8, 19, 9, 11, 10]
     refine then_normal ?_
     skip
     replace M := M.ord [9, 9, 9, 9, 9, 9, 9, 7, 9, 9] (by simp only [ordO, oG, oS, oE, oZ, oB] <;> rfl)
     exact ⟨_, _, ra, rc, ka, kc, lo4, hi4, lo5, hi5, S.sub _ rfl, M⟩
   ·skip
    refine st_alloc S M rfl rfl #[.int .i64 0, .int .i64 0, .int .i64 0, .int .i64 0, .int .i64 0, .int .i64 0, .int .i64 0, .int .i64 0, .int .i64 0, .int .i64 0, .int .i64 0, .int .i64 0, .int .i64 0, .int .i64 0, .int .i64 0, .int .i64 0, .int .i64 0, .int .i64 0, .int .i64 0, .int .i64 0, .int .i64 0, .int .i64 0, .int .i64 0, .int .i64 0, .slice none 0 0] (by kernel_rfl) ?_; intro a w18 bI S M hB
    refine nxC ⟨fun _ => hB, ?_⟩
    refine k_two 7 9 rfl rfl (by kernel_rfl) ?_ ?_
    ·skip
     refine qC (xs := [.tmp 30]) S (qE Tryz.func267) rfl (copied_any (.pointer (some ⟨bd, 0, none⟩)) s va vc _ (M.blk 6 rfl) (rd_rcs M (p := 7) rfl (by omega)) (by omega)) ?_
     rintro _ w19 ⟨ka, kc, rfl, hF⟩; refine ⟨_, rfl, ?_⟩; intro a S
     have hK := hF.below
     obtain ⟨lo5, hi5, -, M1⟩ := M.pushFresh hF; clear M; have M := M1; clear M1
     refine nxC ⟨fun _ => hK, ?_⟩
     refine k_one 9 rfl (by kernel_rfl) ?_
     refine st_alloc S M rfl rfl #[.int .i64 0, .int .i64 0, .int .i64 0, .int .i64 0, .int .i64 0, .int .i64 0, .int .i64 0, .int .i64 0, .int .i64 0, .int .i64 0, .int .i64 0, .int .i64 0, .int .i64 0, .int .i64 0, .int .i64 0, .int .i64 0, .int .i64 0, .int .i64 0, .int .i64 0, .int .i64 0, .int .i64 0, .int .i64 0, .int .i64 0, .int .i64 0, .slice none 0 0] (by kernel_rfl) ?_; intro a w20 bB S M hB
     refine nxC ⟨fun _ => hB, ?_⟩
     refine k_one 10 rfl (by kernel_rfl) ?_
     refine qS (sz := 25) (us := [_, _, _, _, _, _, _, _, _, _, _, _, _, _, _, _, _, _, _, _, _, _, _, _, _]) S M 2 ?_; intro w21 M
     refine nxC ⟨fun h => absurd h (by decide), ?_⟩
     refine k_one 11 rfl (by kernel_rfl) ?_
     refine qS (sz := 25) (us := [_, _, _, _, _, _, _, _, _, _, _, _, _, _, _, _, _, _, _, _, _, _, _, _, _]) S M 0 ?_; intro w22 M
     refine nxC ⟨fun h => absurd h (by decide), ?_⟩
     refine k_end (by kernel_rfl) ?_
     replace S := S.keep [0, 1, 2, 3, 4, 6, 7, 8, 19, 9, 10, 11]
     refine then_normal ?_
     skip
     replace M := M.ord [9, 9, 9, 9, 9, 9, 9, 9, 9, 9] (by simp only [ordO, oG, oS, oE, oZ, oB] <;> rfl)
     exact ⟨_, _, ra, rc, ka, kc, lo4, hi4, lo5, hi5, S.sub _ rfl, M⟩
    ·skip
     refine st_alloc S M rfl rfl #[.int .i64 0, .int .i64 0, .int .i64 0, .int .i64 0, .int .i64 0, .int .i64 0, .int .i64 0, .int .i64 0, .int .i64 0, .int .i64 0, .int .i64 0, .int .i64 0, .int .i64 0, .int .i64 0, .int .i64 0, .int .i64 0, .int .i64 0, .int .i64 0, .int .i64 0, .int .i64 0, .int .i64 0, .int .i64 0, .int .i64 0, .int .i64 0, .slice none 0 0] (by kernel_rfl) ?_; intro a w23 bB S M hB
     refine nxC ⟨fun _ => hB, ?_⟩
     refine k_one 7 rfl (by kernel_rfl) ?_
     refine qC (xs := [.tmp 30]) S (qE Tryz.func267) rfl (copied_any (.pointer (some ⟨bd, 0, none⟩)) s va vc _ (M.blk 7 rfl) (rd_rcs M (p := 8) rfl (by omega)) (by omega)) ?_
     rintro _ w24 ⟨ka, kc, rfl, hF⟩; refine ⟨_, rfl, ?_⟩; intro a S
     have hK := hF.below
     obtain ⟨lo5, hi5, -, M1⟩ := M.pushFresh hF; clear M; have M := M1; clear M1
     refine nxC ⟨fun _ => hK, ?_⟩
     refine k_one 10 rfl (by kernel_rfl) ?_
     refine qS (sz := 25) (us := [_, _, _, _, _, _, _, _, _, _, _, _, _, _, _, _, _, _, _, _, _, _, _, _, _]) S M 2 ?_; intro w25 M
     refine nxC ⟨fun h => absurd h (by decide), ?_⟩
     refine k_one 11 rfl (by kernel_rfl) ?_
     refine qS (sz := 25) (us := [_, _, _, _, _, _, _, _, _, _, _, _, _, _, _, _, _, _, _, _, _, _, _, _, _]) S M 1 ?_; intro w26 M
     refine nxC ⟨fun h => absurd h (by decide), ?_⟩
     refine k_end (by kernel_rfl) ?_
     replace S := S.keep [0, 1, 2, 3, 4, 6, 7, 8, 19, 9, 10, 11]
     refine then_normal ?_
     skip
     replace M := M.ord [9, 9, 9, 9, 9, 9, 9, 9, 8, 9] (by simp only [ordO, oG, oS, oE, oZ, oB] <;> rfl)
     exact ⟨_, _, ra, rc, ka, kc, lo4, hi4, lo5, hi5, S.sub _ rfl, M⟩
   ·skip
    refine st_alloc S M rfl rfl #[.int .i64 0, .int .i64 0, .int .i64 0, .int .i64 0, .int .i64 0, .int .i64 0, .int .i64 0, .int .i64 0, .int .i64 0, .int .i64 0, .int .i64 0, .int .i64 0, .int .i64 0, .int .i64 0, .int .i64 0, .int .i64 0, .int .i64 0, .int .i64 0, .int .i64 0, .int .i64 0, .int .i64 0, .int .i64 0, .int .i64 0, .int .i64 0, .slice none 0 0] (by kernel_rfl) ?_; intro a w27 bB S M hB
    refine nxC ⟨fun _ => hB, ?_⟩
    refine k_two 7 8 rfl rfl (by kernel_rfl) ?_ ?_
    ·skip
     refine qC (xs := [.tmp 30]) S (qE Tryz.func267) rfl (copied_any (.pointer (some ⟨bd, 0, none⟩)) s va vc _ (M.blk 6 rfl) (rd_rcs M (p := 7) rfl (by omega)) (by omega)) ?_
     rintro _ w28 ⟨ka, kc, rfl, hF⟩; refine ⟨_, rfl, ?_⟩; intro a S
     have hK := hF.below
     obtain ⟨lo5, hi5, -, M1⟩ := M.pushFresh hF; clear M; have M := M1; clear M1
     refine nxC ⟨fun _ => hK, ?_⟩
     refine k_one 8 rfl (by kernel_rfl) ?_
     refine st_alloc S M rfl rfl #[.int .i64 0, .int .i64 0, .int .i64 0, .int .i64 0, .int .i64 0, .int .i64 0, .int .i64 0, .int .i64 0, .int .i64 0, .int .i64 0, .int .i64 0, .int .i64 0, .int .i64 0, .int .i64 0, .int .i64 0, .int .i64 0, .int .i64 0, .int .i64 0, .int .i64 0, .int .i64 0, .int .i64 0, .int .i64 0, .int .i64 0, .int .i64 0, .slice none 0 0] (by kernel_rfl) ?_; intro a w29 bI S M hB
     refine nxC ⟨fun _ => hB, ?_⟩
     refine k_one 10 rfl (by kernel_rfl) ?_
     refine qS (sz := 25) (us := [_, _, _, _, _, _, _, _, _, _, _, _, _, _, _, _, _, _, _, _, _, _, _, _, _]) S M 0 ?_; intro w30 M
     refine nxC ⟨fun h => absurd h (by decide), ?_⟩
     refine k_one 11 rfl (by kernel_rfl) ?_
     refine qS (sz := 25) (us := [_, _, _, _, _, _, _, _, _, _, _, _, _, _, _, _, _, _, _, _, _, _, _, _, _]) S M 2 ?_; intro w31 M
     refine nxC ⟨fun h => absurd h (by decide), ?_⟩
     refine k_end (by kernel_rfl) ?_
     replace S := S.keep [0, 1, 2, 3, 4, 6, 7, 8, 19, 9, 11, 10]
     refine then_normal ?_
     skip
     replace M := M.ord [9, 9, 9, 9, 9, 9, 9, 7, 8, 9] (by simp only [ordO, oG, oS, oE, oZ, oB] <;> rfl)
     exact ⟨_, _, ra, rc, ka, kc, lo4, hi4, lo5, hi5, S.sub _ rfl, M⟩
    ·skip
     refine st_alloc S M rfl rfl #[.int .i64 0, .int .i64 0, .int .i64 0, .int .i64 0, .int .i64 0, .int .i64 0, .int .i64 0, .int .i64 0, .int .i64 0, .int .i64 0, .int .i64 0, .int .i64 0, .int .i64 0, .int .i64 0, .int .i64 0, .int .i64 0, .int .i64 0, .int .i64 0, .int .i64 0, .int .i64 0, .int .i64 0, .int .i64 0, .int .i64 0, .int .i64 0, .slice none 0 0] (by kernel_rfl) ?_; intro a w32 bI S M hB
     refine nxC ⟨fun _ => hB, ?_⟩
     refine k_one 7 rfl (by kernel_rfl) ?_
     refine qC (xs := [.tmp 30]) S (qE Tryz.func267) rfl (copied_any (.pointer (some ⟨bd, 0, none⟩)) s va vc _ (M.blk 7 rfl) (rd_rcs M (p := 8) rfl (by omega)) (by omega)) ?_
     rintro _ w33 ⟨ka, kc, rfl, hF⟩; refine ⟨_, rfl, ?_⟩; intro a S
     have hK := hF.below
     obtain ⟨lo5, hi5, -, M1⟩ := M.pushFresh hF; clear M; have M := M1; clear M1
     refine nxC ⟨fun _ => hK, ?_⟩
     refine k_one 10 rfl (by kernel_rfl) ?_
     refine qS (sz := 25) (us := [_, _, _, _, _, _, _, _, _, _, _, _, _, _, _, _, _, _, _, _, _, _, _, _, _]) S M 1 ?_; intro w34 M
     refine nxC ⟨fun h => absurd h (by decide), ?_⟩
     refine k_one 11 rfl (by kernel_rfl) ?_
     refine qS (sz := 25) (us := [_, _, _, _, _, _, _, _, _, _, _, _, _, _, _, _, _, _, _, _, _, _, _, _, _]) S M 2 ?_; intro w35 M
     refine nxC ⟨fun h => absurd h (by decide), ?_⟩
     refine k_end (by kernel_rfl) ?_
     replace S := S.keep [0, 1, 2, 3, 4, 6, 7, 8, 19, 9, 11, 10]
     refine then_normal ?_
     skip
     replace M := M.ord [9, 9, 9, 9, 9, 9, 9, 8, 8, 9] (by simp only [ordO, oG, oS, oE, oZ, oB] <;> rfl)
     exact ⟨_, _, ra, rc, ka, kc, lo4, hi4, lo5, hi5, S.sub _ rfl, M⟩
  ·skip
   refine st_alloc S M rfl rfl #[.int .i64 0, .int .i64 0, .int .i64 0, .int .i64 0, .int .i64 0, .int .i64 0, .int .i64 0, .int .i64 0, .int .i64 0, .int .i64 0, .int .i64 0, .int .i64 0, .int .i64 0, .int .i64 0, .int .i64 0, .int .i64 0, .int .i64 0, .int .i64 0, .int .i64 0, .int .i64 0, .int .i64 0, .int .i64 0, .int .i64 0, .int .i64 0, .slice none 0 0] (by kernel_rfl) ?_; intro a w36 bI S M hB
   refine nxC ⟨fun _ => hB, ?_⟩
   refine k_two 3 9 rfl rfl (by kernel_rfl) ?_ ?_
   ·skip
    refine qC (xs := [.tmp 26]) S (qE Tryz.func267) rfl (copied_any (.pointer (some ⟨bd, 0, none⟩)) s va vc _ (M.blk 5 rfl) (rd_rcs M (p := 6) rfl (by omega)) (by omega)) ?_
    rintro _ w37 ⟨ra, rc, rfl, hF⟩; refine ⟨_, rfl, ?_⟩; intro a S
    have hK := hF.below
    obtain ⟨lo4, hi4, -, M1⟩ := M.pushFresh hF; clear M; have M := M1; clear M1
    refine nxC ⟨fun _ => hK, ?_⟩
    refine k_two 7 9 rfl rfl (by kernel_rfl) ?_ ?_
    ·skip
     refine qC (xs := [.tmp 30]) S (qE Tryz.func267) rfl (copied_any (.pointer (some ⟨bd, 0, none⟩)) s va vc _ (M.blk 6 rfl) (rd_rcs M (p := 7) rfl (by omega)) (by omega)) ?_
     rintro _ w38 ⟨ka, kc, rfl, hF⟩; refine ⟨_, rfl, ?_⟩; intro a S
     have hK := hF.below
     obtain ⟨lo5, hi5, -, M1⟩ := M.pushFresh hF; clear M; have M := M1; clear M1
     refine nxC ⟨fun _ => hK, ?_⟩
     refine k_one 9 rfl (by kernel_rfl) ?_
     refine st_alloc S M rfl rfl #[.int .i64 0, .int .i64 0, .int .i64 0, .int .i64 0, .int .i64 0, .int .i64 0, .int .i64 0, .int .i64 0, .int .i64 0, .int .i64 0, .int .i64 0, .int .i64 0, .int .i64 0, .int .i64 0, .int .i64 0, .int .i64 0, .int .i64 0, .int .i64 0, .int .i64 0, .int .i64 0, .int .i64 0, .int .i64 0, .int .i64 0, .int .i64 0, .slice none 0 0] (by kernel_rfl) ?_; intro a w39 bB S M hB
     refine nxC ⟨fun _ => hB, ?_⟩
     refine k_one 10 rfl (by kernel_rfl) ?_
     refine qS (sz := 25) (us := [_, _, _, _, _, _, _, _, _, _, _, _, _, _, _, _, _, _, _, _, _, _, _, _, _]) S M 3 ?_; intro w40 M
     refine nxC ⟨fun h => absurd h (by decide), ?_⟩
     refine k_one 11 rfl (by kernel_rfl) ?_
     refine qS (sz := 25) (us := [_, _, _, _, _, _, _, _, _, _, _, _, _, _, _, _, _, _, _, _, _, _, _, _, _]) S M 0 ?_; intro w41 M
     refine nxC ⟨fun h => absurd h (by decide), ?_⟩
     refine k_end (by kernel_rfl) ?_
     replace S := S.keep [0, 1, 2, 3, 4, 6, 7, 8, 19, 9, 10, 11]
     refine then_normal ?_
     skip
     replace M := M.ord [9, 9, 9, 9, 9, 9, 8, 9, 9, 9] (by simp only [ordO, oG, oS, oE, oZ, oB] <;> rfl)
     exact ⟨_, _, ra, rc, ka, kc, lo4, hi4, lo5, hi5, S.sub _ rfl, M⟩
    ·skip
     refine st_alloc S M rfl rfl #[.int .i64 0, .int .i64 0, .int .i64 0, .int .i64 0, .int .i64 0, .int .i64 0, .int .i64 0, .int .i64 0, .int .i64 0, .int .i64 0, .int .i64 0, .int .i64 0, .int .i64 0, .int .i64 0, .int .i64 0, .int .i64 0, .int .i64 0, .int .i64 0, .int .i64 0, .int .i64 0, .int .i64 0, .int .i64 0, .int .i64 0, .int .i64 0, .slice none 0 0] (by kernel_rfl) ?_; intro a w42 bB S M hB
     refine nxC ⟨fun _ => hB, ?_⟩
     refine k_one 7 rfl (by kernel_rfl) ?_
     refine qC (xs := [.tmp 30]) S (qE Tryz.func267) rfl (copied_any (.pointer (some ⟨bd, 0, none⟩)) s va vc _ (M.blk 7 rfl) (rd_rcs M (p := 8) rfl (by omega)) (by omega)) ?_
     rintro _ w43 ⟨ka, kc, rfl, hF⟩; refine ⟨_, rfl, ?_⟩; intro a S
     have hK := hF.below
     obtain ⟨lo5, hi5, -, M1⟩ := M.pushFresh hF; clear M; have M := M1; clear M1
     refine nxC ⟨fun _ => hK, ?_⟩
     refine k_one 10 rfl (by kernel_rfl) ?_
     refine qS (sz := 25) (us := [_, _, _, _, _, _, _, _, _, _, _, _, _, _, _, _, _, _, _, _, _, _, _, _, _]) S M 3 ?_; intro w44 M
     refine nxC ⟨fun h => absurd h (by decide), ?_⟩
     refine k_one 11 rfl (by kernel_rfl) ?_
     refine qS (sz := 25) (us := [_, _, _, _, _, _, _, _, _, _, _, _, _, _, _, _, _, _, _, _, _, _, _, _, _]) S M 1 ?_; intro w45 M
     refine nxC ⟨fun h => absurd h (by decide), ?_⟩
     refine k_end (by kernel_rfl) ?_
     replace S := S.keep [0, 1, 2, 3, 4, 6, 7, 8, 19, 9, 10, 11]
     refine then_normal ?_
     skip
     replace M := M.ord [9, 9, 9, 9, 9, 9, 8, 9, 8, 9] (by simp only [ordO, oG, oS, oE, oZ, oB] <;> rfl)
     exact ⟨_, _, ra, rc, ka, kc, lo4, hi4, lo5, hi5, S.sub _ rfl, M⟩
   ·skip
    refine st_alloc S M rfl rfl #[.int .i64 0, .int .i64 0, .int .i64 0, .int .i64 0, .int .i64 0, .int .i64 0, .int .i64 0, .int .i64 0, .int .i64 0, .int .i64 0, .int .i64 0, .int .i64 0, .int .i64 0, .int .i64 0, .int .i64 0, .int .i64 0, .int .i64 0, .int .i64 0, .int .i64 0, .int .i64 0, .int .i64 0, .int .i64 0, .int .i64 0, .int .i64 0, .slice none 0 0] (by kernel_rfl) ?_; intro a w46 bB S M hB
    refine nxC ⟨fun _ => hB, ?_⟩
    refine k_one 3 rfl (by kernel_rfl) ?_
    refine qC (xs := [.tmp 26]) S (qE Tryz.func267) rfl (copied_any (.pointer (some ⟨bd, 0, none⟩)) s va vc _ (M.blk 6 rfl) (rd_rcs M (p := 7) rfl (by omega)) (by omega)) ?_
    rintro _ w47 ⟨ra, rc, rfl, hF⟩; refine ⟨_, rfl, ?_⟩; intro a S
    have hK := hF.below
    obtain ⟨lo4, hi4, -, M1⟩ := M.pushFresh hF; clear M; have M := M1; clear M1
    refine nxC ⟨fun _ => hK, ?_⟩
    refine k_one 7 rfl (by kernel_rfl) ?_
    refine qC (xs := [.tmp 30]) S (qE Tryz.func267) rfl (copied_any (.pointer (some ⟨bd, 0, none⟩)) s va vc _ (M.blk 7 rfl) (rd_rcs M (p := 8) rfl (by omega)) (by omega)) ?_
    rintro _ w48 ⟨ka, kc, rfl, hF⟩; refine ⟨_, rfl, ?_⟩; intro a S
    have hK := hF.below
    obtain ⟨lo5, hi5, -, M1⟩ := M.pushFresh hF; clear M; have M := M1; clear M1
    refine nxC ⟨fun _ => hK, ?_⟩
    refine k_one 10 rfl (by kernel_rfl) ?_
    refine qS (sz := 25) (us := [_, _, _, _, _, _, _, _, _, _, _, _, _, _, _, _, _, _, _, _, _, _, _, _, _]) S M 3 ?_; intro w49 M
    refine nxC ⟨fun h => absurd h (by decide), ?_⟩
    refine k_one 11 rfl (by kernel_rfl) ?_
    refine qS (sz := 25) (us := [_, _, _, _, _, _, _, _, _, _, _, _, _, _, _, _, _, _, _, _, _, _, _, _, _]) S M 2 ?_; intro w50 M
    refine nxC ⟨fun h => absurd h (by decide), ?_⟩
    refine k_end (by kernel_rfl) ?_
    replace S := S.keep [0, 1, 2, 3, 4, 6, 7, 8, 19, 9, 10, 11]
    refine then_normal ?_
    skip
    replace M := M.ord [9, 9, 9, 9, 9, 9, 7, 9, 8, 9] (by simp only [ordO, oG, oS, oE, oZ, oB] <;> rfl)
    exact ⟨_, _, ra, rc, ka, kc, lo4, hi4, lo5, hi5, S.sub _ rfl, M⟩
  ·skip
   refine st_alloc S M rfl rfl #[.int .i64 0, .int .i64 0, .int .i64 0, .int .i64 0, .int .i64 0, .int .i64 0, .int .i64 0, .int .i64 0, .int .i64 0, .int .i64 0, .int .i64 0, .int .i64 0, .int .i64 0, .int .i64 0, .int .i64 0, .int .i64 0, .int .i64 0, .int .i64 0, .int .i64 0, .int .i64 0, .int .i64 0, .int .i64 0, .int .i64 0, .int .i64 0, .slice none 0 0] (by kernel_rfl) ?_; intro a w51 bB S M hB
   refine nxC ⟨fun _ => hB, ?_⟩
   refine k_two 3 8 rfl rfl (by kernel_rfl) ?_ ?_
   ·skip
    refine qC (xs := [.tmp 26]) S (qE Tryz.func267) rfl (copied_any (.pointer (some ⟨bd, 0, none⟩)) s va vc _ (M.blk 5 rfl) (rd_rcs M (p := 6) rfl (by omega)) (by omega)) ?_
    rintro _ w52 ⟨ra, rc, rfl, hF⟩; refine ⟨_, rfl, ?_⟩; intro a S
    have hK := hF.below
    obtain ⟨lo4, hi4, -, M1⟩ := M.pushFresh hF; clear M; have M := M1; clear M1
    refine nxC ⟨fun _ => hK, ?_⟩
    refine k_two 7 8 rfl rfl (by kernel_rfl) ?_ ?_
    ·skip
     refine qC (xs := [.tmp 30]) S (qE Tryz.func267) rfl (copied_any (.pointer (some ⟨bd, 0, none⟩)) s va vc _ (M.blk 6 rfl) (rd_rcs M (p := 7) rfl (by omega)) (by omega)) ?_
     rintro _ w53 ⟨ka, kc, rfl, hF⟩; refine ⟨_, rfl, ?_⟩; intro a S
     have hK := hF.below
     obtain ⟨lo5, hi5, -, M1⟩ := M.pushFresh hF; clear M; have M := M1; clear M1
     refine nxC ⟨fun _ => hK, ?_⟩
     refine k_one 8 rfl (by kernel_rfl) ?_
     refine st_alloc S M rfl rfl #[.int .i64 0, .int .i64 0, .int .i64 0, .int .i64 0, .int .i64 0, .int .i64 0, .int .i64 0, .int .i64 0, .int .i64 0, .int .i64 0, .int .i64 0, .int .i64 0, .int .i64 0, .int .i64 0, .int .i64 0, .int .i64 0, .int .i64 0, .int .i64 0, .int .i64 0, .int .i64 0, .int .i64 0, .int .i64 0, .int .i64 0, .int .i64 0, .slice none 0 0] (by kernel_rfl) ?_; intro a w54 bI S M hB
     refine nxC ⟨fun _ => hB, ?_⟩
     refine k_one 10 rfl (by kernel_rfl) ?_
     refine qS (sz := 25) (us := [_, _, _, _, _, _, _, _, _, _, _, _, _, _, _, _, _, _, _, _, _, _, _, _, _]) S M 0 ?_; intro w55 M
     refine nxC ⟨fun h => absurd h (by decide), ?_⟩
     refine k_one 11 rfl (by kernel_rfl) ?_
     refine qS (sz := 25) (us := [_, _, _, _, _, _, _, _, _, _, _, _, _, _, _, _, _, _, _, _, _, _, _, _, _]) S M 3 ?_; intro w56 M
     refine nxC ⟨fun h => absurd h (by decide), ?_⟩
     refine k_end (by kernel_rfl) ?_
     replace S := S.keep [0, 1, 2, 3, 4, 6, 7, 8, 19, 9, 11, 10]
     refine then_normal ?_
     skip
     replace M := M.ord [9, 9, 9, 9, 9, 9, 8, 7, 8, 9] (by simp only [ordO, oG, oS, oE, oZ, oB] <;> rfl)
     exact ⟨_, _, ra, rc, ka, kc, lo4, hi4, lo5, hi5, S.sub _ rfl, M⟩
    ·skip
     refine st_alloc S M rfl rfl #[.int .i64 0, .int .i64 0, .int .i64 0, .int .i64 0, .int .i64 0, .int .i64 0, .int .i64 0, .int .i64 0, .int .i64 0, .int .i64 0, .int .i64 0, .int .i64 0, .int .i64 0, .int .i64 0, .int .i64 0, .int .i64 0, .int .i64 0, .int .i64 0, .int .i64 0, .int .i64 0, .int .i64 0, .int .i64 0, .int .i64 0, .int .i64 0, .slice none 0 0] (by kernel_rfl) ?_; intro a w57 bI S M hB
     refine nxC ⟨fun _ => hB, ?_⟩
     refine k_one 7 rfl (by kernel_rfl) ?_
     refine qC (xs := [.tmp 30]) S (qE Tryz.func267) rfl (copied_any (.pointer (some ⟨bd, 0, none⟩)) s va vc _ (M.blk 7 rfl) (rd_rcs M (p := 8) rfl (by omega)) (by omega)) ?_
     rintro _ w58 ⟨ka, kc, rfl, hF⟩; refine ⟨_, rfl, ?_⟩; intro a S
     have hK := hF.below
     obtain ⟨lo5, hi5, -, M1⟩ := M.pushFresh hF; clear M; have M := M1; clear M1
     refine nxC ⟨fun _ => hK, ?_⟩
     refine k_one 10 rfl (by kernel_rfl) ?_
     refine qS (sz := 25) (us := [_, _, _, _, _, _, _, _, _, _, _, _, _, _, _, _, _, _, _, _, _, _, _, _, _]) S M 1 ?_; intro w59 M
     refine nxC ⟨fun h => absurd h (by decide), ?_⟩
     refine k_one 11 rfl (by kernel_rfl) ?_
     refine qS (sz := 25) (us := [_, _, _, _, _, _, _, _, _, _, _, _, _, _, _, _, _, _, _, _, _, _, _, _, _]) S M 3 ?_; intro w60 M
     refine nxC ⟨fun h => absurd h (by decide), ?_⟩
     refine k_end (by kernel_rfl) ?_
     replace S := S.keep [0, 1, 2, 3, 4, 6, 7, 8, 19, 9, 11, 10]
     refine then_normal ?_
     skip
     replace M := M.ord [9, 9, 9, 9, 9, 9, 8, 8, 8, 9] (by simp only [ordO, oG, oS, oE, oZ, oB] <;> rfl)
     exact ⟨_, _, ra, rc, ka, kc, lo4, hi4, lo5, hi5, S.sub _ rfl, M⟩
   ·skip
    refine st_alloc S M rfl rfl #[.int .i64 0, .int .i64 0, .int .i64 0, .int .i64 0, .int .i64 0, .int .i64 0, .int .i64 0, .int .i64 0, .int .i64 0, .int .i64 0, .int .i64 0, .int .i64 0, .int .i64 0, .int .i64 0, .int .i64 0, .int .i64 0, .int .i64 0, .int .i64 0, .int .i64 0, .int .i64 0, .int .i64 0, .int .i64 0, .int .i64 0, .int .i64 0, .slice none 0 0] (by kernel_rfl) ?_; intro a w61 bI S M hB
    refine nxC ⟨fun _ => hB, ?_⟩
    refine k_one 3 rfl (by kernel_rfl) ?_
    refine qC (xs := [.tmp 26]) S (qE Tryz.func267) rfl (copied_any (.pointer (some ⟨bd, 0, none⟩)) s va vc _ (M.blk 6 rfl) (rd_rcs M (p := 7) rfl (by omega)) (by omega)) ?_
    rintro _ w62 ⟨ra, rc, rfl, hF⟩; refine ⟨_, rfl, ?_⟩; intro a S
    have hK := hF.below
    obtain ⟨lo4, hi4, -, M1⟩ := M.pushFresh hF; clear M; have M := M1; clear M1
    refine nxC ⟨fun _ => hK, ?_⟩
    refine k_one 7 rfl (by kernel_rfl) ?_
    refine qC (xs := [.tmp 30]) S (qE Tryz.func267) rfl (copied_any (.pointer (some ⟨bd, 0, none⟩)) s va vc _ (M.blk 7 rfl) (rd_rcs M (p := 8) rfl (by omega)) (by omega)) ?_
    rintro _ w63 ⟨ka, kc, rfl, hF⟩; refine ⟨_, rfl, ?_⟩; intro a S
    have hK := hF.below
    obtain ⟨lo5, hi5, -, M1⟩ := M.pushFresh hF; clear M; have M := M1; clear M1
    refine nxC ⟨fun _ => hK, ?_⟩
    refine k_one 10 rfl (by kernel_rfl) ?_
    refine qS (sz := 25) (us := [_, _, _, _, _, _, _, _, _, _, _, _, _, _, _, _, _, _, _, _, _, _, _, _, _]) S M 2 ?_; intro w64 M
    refine nxC ⟨fun h => absurd h (by decide), ?_⟩
    refine k_one 11 rfl (by kernel_rfl) ?_
    refine qS (sz := 25) (us := [_, _, _, _, _, _, _, _, _, _, _, _, _, _, _, _, _, _, _, _, _, _, _, _, _]) S M 3 ?_; intro w65 M
    refine nxC ⟨fun h => absurd h (by decide), ?_⟩
    refine k_end (by kernel_rfl) ?_
    replace S := S.keep [0, 1, 2, 3, 4, 6, 7, 8, 19, 9, 11, 10]
    refine then_normal ?_
    skip
    replace M := M.ord [9, 9, 9, 9, 9, 9, 7, 8, 8, 9] (by simp only [ordO, oG, oS, oE, oZ, oB] <;> rfl)
    exact ⟨_, _, ra, rc, ka, kc, lo4, hi4, lo5, hi5, S.sub _ rfl, M⟩
 intro a wc
 rintro ⟨bI, bB, ra, rc, ka, kc, lo4, hi4, lo5, hi5, S, M⟩
 refine nxD (qY S (y_loadAgg (cs := [_, _, _, _, _, _, _, _, _, _, _, _]) S (by kernel_rfl) rfl rfl (M.cellsAt (k := 12) 6 rfl rfl)) ?_); intro a S
 refine qC (xs := [.tmp 11, .tmp 32]) S (qE Tryz.func94) rfl (take0_any s ka kc r (.slice wa wn wk) M (by omega) (rec_cs hr) hr.2) ?_
 rintro _ w66 ⟨rfl, lo6, hi6, ma, mc, M1⟩; refine ⟨_, rfl, ?_⟩; intro a S; have M := M1; clear M1
 refine nxA (qY S (y_makeFunc (fs := []) (cs := [.tmp 9, .tmp 11, .tmp 10, .tmp 3]) S rfl rfl) ?_); intro a S
 refine qG [1] S ?_; intro a S
 refine nxC (wp_seq (wp_seq ?_))
 skip
 replace M := M.ord [9, 9, 5, 5, 9, 5, 7] (by simp only [ordO, oG, oS, oE, oZ, oB] <;> rfl)
 refine wp_region_lit (qG [1] S ?_); intro a S
 refine st_callB (xs := []) (fi := []) (ca := [_, _, _, _]) S (enters_of Tryz.func268 (by decide) rfl) rfl rfl (rfl) rfl (room_any (A := _ :: _ :: _ :: A) (T := T) (K := K) (N := N) s r va ra vc rc ma mc hE M hI hk hb (by omega)) ?_
 rintro _ w67 ⟨S1, E1, va2, vc2, lo2, hi2, ia2, ic2, loI2, hiI2, rfl, hrS, hI1, hE1, M1⟩; refine ⟨_, rfl, ?_⟩; intro a S; have M := M1; clear M1
 simp only [List.cons_append] at M
 have hup1 := hI1.up
 have hl1 := hI1.mayL
 have hrm1 := made_room hI1 h8 hfew
 have hinc1 : 0 ≤ (madeS s r).su.inc ∧ (madeS s r).su.inc ≤ 1048576 := by rw [made_inc]; exact hinc
 refine qG [1] S ?_; intro a S
 refine nxA (qG [1, 1] S ?_); intro a S
 refine nxC (st_if (t := 38) S rfl ?_ ?_)
 ·intro h38 S
  exact absurd rfl h38
 intro h38 S
 refine st_condF S rfl (wp_skip (then_normal (wp_seq (wp_seq (wp_regionK [10, 15] #[false, false, false, false, false, false, false, false, false, false, false, false, false, false, false, false, false] rfl M (by kernel_rfl) ?_))))); intro w68 M
 refine k_read 0 S rfl (fun w hW => have M := M.grow hW; y_load S (by kernel_rfl) rfl (M.cell 2 rfl ((show _ = some (Value.pointer (some ⟨b, 0, none⟩)) from rfl)))) ?_; intro a S
 refine k_pure 1 S rfl (fun w => y_nilCheck S rfl) ?_; intro a S
 refine k_pure 2 S rfl (fun w => y_fieldAddr (k := 0) S (by kernel_rfl) rfl) ?_; intro a S
 refine k_read 3 S rfl (fun w hW => have M := M.grow hW; y_load S (by kernel_rfl) rfl ((M.cell 5 rfl (show _ = some (Value.pointer (some ⟨bd, 0, none⟩)) from rfl)))) ?_; intro a S
 refine k_pure 4 S rfl (fun w => y_fieldAddr (k := 22) S (by kernel_rfl) rfl) ?_; intro a S
 refine k_read 5 S rfl (fun w hW => have M := M.grow hW; y_loadAgg (cs := [_, _]) S (by kernel_rfl) rfl rfl (M.cellsAt (k := 2) 3 rfl rfl)) ?_; intro a S
 refine k_pure 6 S rfl (fun w => y_fieldAddr (k := 0) S (by kernel_rfl) rfl) ?_; intro a S
 refine k_pure 7 S rfl (fun w => y_fieldAddr (k := 3) S (by kernel_rfl) rfl) ?_; intro a S
 refine k_read 8 S rfl (fun w hW => have M := M.grow hW; y_load S (by kernel_rfl) rfl (M.cell 3 rfl rfl)) ?_; intro a S
 refine k_pure 9 S rfl (fun w => y_move S rfl) ?_; intro a S
 refine k_one 10 rfl (by kernel_rfl) ?_
 refine qC (xs := [.tmp 44, .tmp 46, .tmp 49, .tmp 50]) S (qE Tryz.func271) rfl (append_any (A := _ :: _ :: _ :: _ :: _ :: _ :: _ :: _ :: _ :: _ :: A) (madeS s r).su.tail (madeS s r).n (madeS s r).su.inc v1 (encR r) hE1 M (fun W M => M.readAll 8 rfl (by show (r.enc []).length ≤ maxLen; unfold maxLen; omega)) hup1 (by unfold mayL; omega) (by omega) hinc1 (fun k => by have := hI1.one k; omega)) ?_
 rintro _ w69 ⟨n', er, S2, rfl, hP, E2, hE2, M1⟩; refine ⟨_, rfl, ?_⟩; intro a S; have M := M1; clear M1
 simp only [List.cons_append] at M
 obtain ⟨rfl, rfl, rfl⟩ := app_rec hr (by omega) hP
 refine nxC ⟨fun h => absurd h (by decide), ?_⟩
 refine k_pure 11 S rfl (fun w => y_move S rfl) ?_; intro a S
 refine k_pure 12 S rfl (fun w => y_extract S rfl rfl) ?_; intro a S
 refine k_pure 13 S rfl (fun w => y_extract S rfl rfl) ?_; intro a S
 refine k_pure 14 S rfl (fun w => y_fieldAddr (k := 22) S (by kernel_rfl) rfl) ?_; intro a S
 refine k_one 15 rfl (by kernel_rfl) ?_
 refine qS (sz := 2) (us := [_, _]) S M 3 ?_; intro w70 M
 refine nxC ⟨fun h => absurd h (by decide), ?_⟩
 refine k_pure 16 S rfl (fun w => y_assign S rfl) ?_; intro a S
 refine k_end (by kernel_rfl) ?_
 replace S := S.keep [2, 3, 4, 7, 9, 10, 11, 12, 38, 8]
 refine nxE (qG [1, 1] S ?_); intro a S
 refine nxC (st_if (t := 56) S rfl ?_ ?_)
 ·intro h56 S
  exact absurd rfl h56
 intro h56 S
 refine st_condF S rfl (wp_skip (then_normal (wp_seq (nxD (qG [1] S ?_))))); intro a S
 refine nxC (st_tils (t := 58) S rfl ?_ ?_)
 ·intro h58 S
  refine st_condF S rfl (wp_skip (then_normal (wp_seq ?_)))
  skip
  replace M := M.ord [4, 4] (by simp only [ordO, oG, oS, oE, oZ, oB] <;> rfl)
  refine wp_region_lit (qY S (y_loadAgg (cs := [_, _, _, _, _, _, _, _, _, _, _, _]) S (by kernel_rfl) rfl rfl (M.cellsAt (k := 12) 9 rfl rfl)) ?_); intro a S
  refine qC (xs := [.tmp 10, .tmp 67]) S (qE Tryz.func94) rfl (take0_any { madeS s r with n := (madeS s r).n + 1 } ia2 ic2 r (.slice wa wn wk) M (by show (madeS s r).op.length ≤ 1000; rw [made_len]; omega) (rec_cs hr) hr.2) ?_
  rintro _ w74 ⟨rfl, lo7, hi7, na, nc, M1⟩; refine ⟨_, rfl, ?_⟩; intro a S
  rw [keep_take] at M1
  have M := M1; clear M1
  refine nxA (qY S (y_load S (by kernel_rfl) rfl (M.cell 4 rfl ((show _ = some (Value.pointer (some ⟨b, 0, none⟩)) from rfl)))) ?_); intro a S
  skip
  refine qY S (y_loadAgg (cs := [_, _, _, _, _, _, _, _, _, _, _, _, _, _, _, _, _, _, _, _, _, _, _, _, _]) S (by kernel_rfl) rfl rfl (M.cellsAt (k := 25) 0 rfl rfl)) ?_; intro a S
  refine qG [1, 2] S ?_; intro a S
  refine qS (sz := 25) (us := [_, _, _, _, _, _, _, _, _, _, _, _, _, _, _, _, _, _, _, _, _, _, _, _, _]) S M 5 ?_; intro w75 M
  refine nxA (qG [1] S ?_); intro a S
  refine nxC (wp_ret (end_one S rfl (res_tmp rfl) ?_))
  skip
  replace M := M.drp 6
  replace M := M.drp 0
  replace M := M.drp 1
  replace M := M.drp 1
  replace M := M.drp 1
  replace M := M.drp 2
  replace M := M.drp 2
  replace M := M.drp 2
  replace M := M.frn 1
  first
   | exact ⟨rfl, _, E3, na, nc, lo7, hi7, by rw [if_pos h58]; exact hI1.madeF hk1 hr h8 (by rw [if_pos h58] at hf; exact hf), (fun h => absurd h58 (by rw [h]; decide)), hE3, M⟩
   | exact ⟨rfl, _, E2, na, nc, lo7, hi7, by rw [if_neg (by rw [h58]; decide)]; exact hI1.made hk1 hr h8 (by rw [if_neg (by rw [h58]; decide)] at hf; exact hf), (fun _ h => by rw [hrS h, show madeS s r = s from if_pos h]), hE2, M⟩
 intro h58 S
 refine st_condT S rfl (nxD (qY S (y_load S (by kernel_rfl) rfl (M.cell 2 rfl ((show _ = some (Value.pointer (some ⟨b, 0, none⟩)) from rfl)))) ?_)); intro a S
 refine qG [1, 1] S ?_; intro a S
 refine qY S (y_load S (by kernel_rfl) rfl ((M.cell 5 rfl (show _ = some (Value.pointer (some ⟨bd, 0, none⟩)) from rfl)))) ?_; intro a S
 refine qC (xs := [.tmp 62]) S (qE Tryz.func272) rfl (jflush_any (A := _ :: _ :: _ :: _ :: _ :: _ :: _ :: _ :: _ :: _ :: A) hE2 M (by rw [putF_down]; exact hup1) (fun k => by have h9 := putF_cache_le (cutF (encR r) (madeS s r).n (madeS s r).su.inc) hI1.one k; rw [cutF_rec hr] at h9; rw [cutF_rec hr]; exact Nat.le_trans h9 (show 1 + 1 ≤ 1000000 by decide))) ?_
 rintro _ w71 ⟨rfl, E3, hE3, M1⟩; refine ⟨_, rfl, ?_⟩; intro a S; have M := M1; clear M1
 simp only [List.cons_append] at M
 refine qG [1] S ?_; intro a S
 refine nxA (qG [1, 1] S ?_); intro a S
 refine nxC (st_if (t := 65) S rfl ?_ ?_)
 ·intro h65 S
  exact absurd rfl h65
 intro h65 S
 refine st_condF S rfl (wp_skip (then_normal (wp_seq ?_)))
 skip
 replace M := M.ord [4, 4] (by simp only [ordO, oG, oS, oE, oZ, oB] <;> rfl)
 refine wp_region_lit (qY S (y_loadAgg (cs := [_, _, _, _, _, _, _, _, _, _, _, _]) S (by kernel_rfl) rfl rfl (M.cellsAt (k := 12) 9 rfl rfl)) ?_); intro a S
 refine qC (xs := [.tmp 10, .tmp 67]) S (qE Tryz.func94) rfl (take0_any { madeS s r with n := (madeS s r).n + 1 } ia2 ic2 r (.slice wa wn wk) M (by show (madeS s r).op.length ≤ 1000; rw [made_len]; omega) (rec_cs hr) hr.2) ?_
 rintro _ w72 ⟨rfl, lo7, hi7, na, nc, M1⟩; refine ⟨_, rfl, ?_⟩; intro a S
 rw [keep_take] at M1
 have M := M1; clear M1
 refine nxA (qY S (y_load S (by kernel_rfl) rfl (M.cell 4 rfl ((show _ = some (Value.pointer (some ⟨b, 0, none⟩)) from rfl)))) ?_); intro a S
 skip
 refine qY S (y_loadAgg (cs := [_, _, _, _, _, _, _, _, _, _, _, _, _, _, _, _, _, _, _, _, _, _, _, _, _]) S (by kernel_rfl) rfl rfl (M.cellsAt (k := 25) 0 rfl rfl)) ?_; intro a S
 refine qG [1, 2] S ?_; intro a S
 refine qS (sz := 25) (us := [_, _, _, _, _, _, _, _, _, _, _, _, _, _, _, _, _, _, _, _, _, _, _, _, _]) S M 5 ?_; intro w73 M
 replace S := S.keep [2, 3, 4, 7, 9, 10, 11, 12, 38, 56, 58, 8, 65]
 refine nxA (qG [1] S ?_); intro a S
 refine nxC (wp_ret (end_one S rfl (res_tmp rfl) ?_))
 skip
 replace M := M.drp 6
 replace M := M.drp 0
 replace M := M.drp 1
 replace M := M.drp 1
 replace M := M.drp 1
 replace M := M.drp 2
 replace M := M.drp 2
 replace M := M.drp 2
 replace M := M.frn 1
 first
  | exact ⟨rfl, _, E3, na, nc, lo7, hi7, by rw [if_pos h58]; exact hI1.madeF hk1 hr h8 (by rw [if_pos h58] at hf; exact hf), (fun h => absurd h58 (by rw [h]; decide)), hE3, M⟩
  | exact ⟨rfl, _, E2, na, nc, lo7, hi7, by rw [if_neg (by rw [h58]; decide)]; exact hI1.made hk1 hr h8 (by rw [if_neg (by rw [h58]; decide)] at hf; exact hf), (fun _ h => by rw [hrS h, show madeS s r = s from if_pos h]), hE2, M⟩
end Go.Proofs.YtkkcehcpffamkaaGreat

namespace Go.Proofs.YtkkcehcpffamkaaGreat
open Go.RowKit Go.Sort
abbrev r5 (nm : Nm) : Rc := { Rc.zero with kind := 5, name := nm }
abbrev r6 (n : Int) : Rc := { Rc.zero with kind := 6, n := n }
theorem r6_ok {n : Int} (h : withinB n 1048577 = true) : recOk (r6 n) := by
 refine ⟨?_, .inr (.inr rfl)⟩
 simp [Rc.may, Rc.ok, Rc.rest, Rc.zero, Rc.same, h, Nm.eqb, eqWs]
theorem take6_len {s : Ls} {n : Int} : (s.take (r6 n)).op = s.op := rfl
def DidP (wc : World) (A : List Ent) (b bd : Nat) (s s2 : Ls) (T : List Nm) (K : Int) (w' : World) (q : DS → Prop := fun _ => True) : Prop := ∃ S1 E' va2 vc2 lo2 hi2, LInv S1 s2 T K ∧ q S1 ∧ DkE bd S1 E' ∧ Mem wc w' (lgE b bd s2 va2 vc2 :: opE lo2 hi2 va2 vc2 s2.op :: (A ++ E'))
theorem unfinished_any {b : Nat} (dv : Value) (s : Ls) (va : Option Addr) (vc : Nat) (w : World) (B : Blk w b (lgC dv s (opV va vc s.op)).toArray 206) (hv : Rd 0 w.heap.size w 12 (opV va vc s.op) s.op.length (rcsC s.op)) (hl : s.op.length ≤ 1000) :
 Calls Tryz.prog 71 #[.pointer (some ⟨b, 0, none⟩)] w fun e w' => ∃ ra rc, e = .returned (opV ra rc s.op) ∧ Fresh w w' 211 12 (opV ra rc s.op) s.op.length (rcsC s.op) := by
 have M := Mem.start w
 refine calls_enter Tryz.func71 rfl 11 rfl rfl ?_; intro a S
 refine nxD (qG [1] S ?_); intro a S
 refine nxC (wp_seq (nxD (qG [1] S ?_))); intro a S
 refine qY S (y_eqlPS (by kernel_rfl) S rfl) ?_; intro a S
 refine nxC (st_condF S rfl (wp_skip (nxE (qG [1, 1, 2, 25] S ?_)))); intro a S
 refine qY S (y_load S (by kernel_rfl) rfl (by rw [(B.cells0 M.below).cells]; rfl)) ?_; intro a S
 refine qC (xs := [.tmp 9]) S (qE Tryz.func101) rfl (cloneR_any _ s.op _ (M.argW hv) (by omega)) ?_
 rintro _ w1 ⟨v2, rfl, hF⟩; refine ⟨_, rfl, ?_⟩; intro a S
 obtain ⟨ra, rc, rfl, -, -⟩ := (hF.rd (by unfold maxLen; omega)).form
 refine qG [1] S ?_; intro a S
 refine nxC (wp_ret (end_one S rfl (res_tmp rfl) ?_))
 exact ⟨ra, rc, rfl, hF.from M.below⟩
theorem bound_any {b : Nat} (dv : Value) (s : Ls) (v : Value) (w : World) (B : Blk w b (lgC dv s v).toArray 206) :
 Calls Tryz.prog 66 #[.pointer (some ⟨b, 0, none⟩)] w fun e w' => e = .returned (.int .i64 s.cu.bound) ∧ Below w.heap.size w w' := by
 have M := Mem.start w
 refine calls_enter Tryz.func66 rfl 10 rfl rfl ?_; intro a S
 refine nxD (qG [1] S ?_); intro a S
 refine nxC (wp_seq (nxD (qG [1] S ?_))); intro a S
 refine qY S (y_eqlPS (by kernel_rfl) S rfl) ?_; intro a S
 refine nxC (st_condF S rfl (wp_skip (nxE (qG [1, 1, 2, 14] S ?_)))); intro a S
 refine qY S (y_load S (by kernel_rfl) rfl (by rw [(B.cells0 M.below).cells]; rfl)) ?_; intro a S
 refine qG [1] S ?_; intro a S
 refine nxC (wp_ret (end_one S rfl (res_tmp rfl) ?_))
 exact ⟨rfl, M.below⟩
theorem map_any {b : Nat} (dv : Value) (s : Ls) (v : Value) (w : World) (B : Blk w b (lgC dv s v).toArray 206) :
 Calls Tryz.prog 57 #[.pointer (some ⟨b, 0, none⟩)] w fun e w' => e = .returned (.agg #[.int .i64 s.cu.m0, .int .i64 s.cu.m1, .int .i64 s.cu.m2, .int .i64 s.cu.m3, .int .i64 s.cu.m4, .int .i64 s.cu.m5, .int .i64 s.cu.m6, .int .i64 s.cu.m7]) ∧ Below w.heap.size w w' := by
 have M := Mem.start w
 refine calls_enter Tryz.func57 rfl 11 rfl rfl ?_; intro a S
 refine nxD (st_alloc S M rfl rfl #[.int .i64 0, .int .i64 0, .int .i64 0, .int .i64 0, .int .i64 0, .int .i64 0, .int .i64 0, .int .i64 0] (by kernel_rfl) ?_); intro a w1 bZ S M hB
 refine nxC (wp_seq (nxD (qG [1] S ?_))); intro a S
 refine qY S (y_eqlPS (by kernel_rfl) S rfl) ?_; intro a S
 refine nxC (st_condF S rfl (wp_skip (nxE (qG [1, 1, 2, 15] S ?_)))); intro a S
 refine qY S (y_loadAgg S (by kernel_rfl) rfl rfl (show CellsAt _ b 15 [.int .i64 s.cu.m0, .int .i64 s.cu.m1, .int .i64 s.cu.m2, .int .i64 s.cu.m3, .int .i64 s.cu.m4, .int .i64 s.cu.m5, .int .i64 s.cu.m6, .int .i64 s.cu.m7] from Blk.cellsAt (o := 15) (k := 8) (B.cells0 M.below) rfl)) ?_; intro a S
 refine qS (sz := 8) (us := [_, _, _, _, _, _, _, _]) S M 0 ?_; intro w2 M
 refine nxC (wp_ret (end_one S rfl (res_agg (cs := [_, _, _, _, _, _, _, _]) (by kernel_rfl) rfl rfl (M.cellsAt (k := 8) 0 rfl rfl)) ?_))
 exact ⟨rfl, M.below⟩
end Go.Proofs.YtkkcehcpffamkaaGreat

namespace Go.Proofs.YtkkcehcpffamkaaGreat
open Go.RowKit Go.Sort
def stI (su : Su) (n : Int) (L : List RI) (k : Nat) : Ls := ⟨su, (runK (curOf su, []) ((L.take k).map (·.1))).1, n, (runK (curOf su, []) ((L.take k).map (·.1))).2⟩
theorem stI_step (su : Su) (n : Int) {L : List RI} {k : Nat} {p : RI} (h : L[k]? = some p) : (stI su n L k).take p.1 = stI su n L (k + 1) := by
 rw [take_eq]
 unfold stI
 rw [List.take_add_one, h, List.map_append, runK_append]
 rfl
theorem stI_len (su : Su) (n : Int) (L : List RI) : ∀ k, (stI su n L k).op.length ≤ k
 | 0 => by simp [stI, runK]
 | k + 1 => by
   have ih := stI_len su n L k
   rcases Nat.lt_or_ge k L.length with h | h
   ·have h1 := stI_step su n (List.getElem?_eq_getElem h)
    have h2 := Ls.take_len (stI su n L k) L[k].1
    rw [h1] at h2; omega
   ·have e : stI su n L (k + 1) = stI su n L k := by unfold stI; rw [List.take_of_length_le (by omega), List.take_of_length_le (by omega)]
    rw [e]; omega
theorem stI_all {s : Ls} {L : List RI} {c : Nat} (G : LG s L c) : stI s.su s.n L L.length = s := by
 unfold stI
 rw [List.take_length, G.run]
theorem enc_one {r q : Rc} {x : List Wr} (h : q.may x = true) (hr : r.may [] = true) (he : q.enc x = r.enc []) : q = r ∧ x = [] := by
 have e0 : ∀ (r : Rc) (x : List Wr), (r.enc x)[0]? = some (byteOf r.kind) := fun r x => by rw [enc_head r x]; rfl
 have h1 := read_if (bs := r.enc []) (by rw [← he]; exact e0 q x) h he
 have h2 := read_if (bs := r.enc []) (e0 r []) hr rfl
 have e : byteOf q.kind = byteOf r.kind := by
  have h3 := e0 q x
  rw [he, e0 r []] at h3
  exact (Option.some.inj h3).symm
 rw [e, h2] at h1
 simp only [Prod.mk.injEq] at h1
 exact ⟨h1.1.symm, h1.2.1.symm⟩
set_option maxHeartbeats 8000000 in
theorem openL_any {wc w : World} {A E : List Ent} {bd : Nat} {S0 : DS} {K : Int} (s : Ls) (hE : DkE bd S0 E) (M : Mem wc w (A ++ E)) (hI : LInv S0 s [] K) :
 Calls Tryz.prog 61 #[.pointer (some ⟨bd, 0, none⟩)] w fun e w' => ∃ b va vc lo hi, e = .returned (.tuple #[.pointer (some ⟨b, 0, none⟩), .int .i64 0]) ∧ Mem wc w' (lgE b bd s va vc :: opE lo hi va vc s.op :: (A ++ E)) := by
 have hfew := hI.few
 have hup := hI.up
 have hw := hI.cache
 have hmay := hI.may
 obtain ⟨L, D, G, hn⟩ := hI.all
 have hgs := D.sup.gs
 obtain ⟨hsc1, hsc2⟩ := D.ph.scan
 have hLl := D.ph.lt
 rw [← hn] at hsc2
 refine calls_enter Tryz.func61 rfl 67 rfl rfl ?_; intro a S
 refine nxD (qG [1, 1] S ?_); intro a S
 refine nxC (wp_seq (nxD (qG [1] S ?_))); intro a S
 refine qY S (y_eqlPS (by kernel_rfl) S rfl) ?_; intro a S
 refine nxC (st_condF S rfl (wp_skip (nxE (qG [1] S ?_)))); intro a S
 refine qC (xs := [.tmp 16]) S (qE Tryz.func75) rfl (getH_any hE M hup hw) ?_
 rintro _ w1 ⟨rfl, M1⟩; refine ⟨_, rfl, ?_⟩; intro a S; have M := M1; clear M1
 rw [hgs] at S
 refine qG [1, 1, 1] S ?_; intro a S
 refine st_alloc S M rfl rfl #[.int .i64 0, .int .i64 0, .int .i64 0, .int .i64 0, .int .i64 0, .int .i64 0, .int .i64 0, .int .i64 0, .int .i64 0, .int .i64 0, .int .i64 0, .int .i64 0, .int .i64 0] (by kernel_rfl) ?_; intro a w2 bU S M hB
 refine qS (sz := 13) (us := [_, _, _, _, _, _, _, _, _, _, _, _, _]) S M 0 ?_; intro w3 M
 refine qG [1] S ?_; intro a S
 refine nxC (wp_seq (nxD (qG [1, 1] S ?_))); intro a S
 refine nxC (st_if (t := 21) S rfl ?_ ?_)
 ·intro h21 S
  exact absurd rfl h21
 intro h21 S
 refine st_condF S rfl (wp_skip (nxE (qR [1, 2, 1] S M ?_))); intro a S
 refine qC (xs := [.tmp 24, .tmp 26]) S (qE Tryz.func92) rfl (Scan_anyG (A := _ :: A) s.su.tail hE M hup hw (by obtain ⟨-, -, -, h4, h5, -⟩ := hmay; omega)) ?_
 rintro _ w4 ⟨rs, ra, rc, rlo, rhi, rfl, hrs, h90, h24, M1⟩; refine ⟨_, rfl, ?_⟩; intro a S
 obtain ⟨F0, hF0⟩ : ∃ F0, F0 = rowE rlo rhi 30 1 (.slice ra rs.length rc) rs.length (rs.map RB.val) :: (rs.map RB.ent ++ (A ++ E)) := ⟨_, rfl⟩
 have hRow : rowE rlo rhi 30 1 (.slice ra rs.length rc) rs.length (rs.map RB.val) ∈ F0 := by rw [hF0]; exact List.mem_cons_self ..
 have hEnt : ∀ r ∈ rs, r.ent ∈ F0 := fun r hr => by rw [hF0]; exact List.mem_cons_of_mem _ (List.mem_append_left _ (List.mem_map_of_mem hr))
 have hSub : (A ++ E).Sublist F0 := by rw [hF0]; exact .cons _ (List.sublist_append_right _ _)
 have M := M1.perm ((List.Perm.cons _ (List.perm_middle (l₁ := rs.map RB.ent))).trans (List.Perm.swap _ _ _))
 simp only [List.append_eq] at M
 rw [← hF0] at M
 clear M1 hF0
 rw [hsc1] at hrs
 rw [hsc2] at S
 have hrl : rs.length = L.length := by
  have := congrArg List.length hrs
  rwa [List.length_map, List.length_map] at this
 refine qG [1, 1, 1, 1] S ?_; intro a S
 refine st_alloc S M rfl rfl #[.int .i64 0, .int .i64 0] (by kernel_rfl) ?_; intro a w5 bLg S M hB
 refine qG [1] S ?_; intro a S
 refine qS (sz := 2) (us := [_, _]) S M 0 ?_; intro w6 M
 refine qG [1] S ?_; intro a S
 replace S := S.keep [0, 2, 3, 14, 4, 21, 7, 6, 5]
 refine nxC (wp_seq (nxD (qG [1, 1] S ?_))); intro a S
 refine nxC (st_if (t := 32) S rfl ?_ ?_)
 ·intro h32 S
  exact absurd rfl h32
 intro h32 S
 refine st_condF S rfl (wp_skip (nxE (qG [1] S ?_))); intro a S
 refine qY S (y_loadAgg (cs := [_, _, _, _, _, _, _, _, _, _, _, _, _]) S (by kernel_rfl) rfl rfl (M.cellsAt (k := 13) 1 rfl rfl)) ?_; intro a S
 refine qR [5, 2, 6] S M ?_; intro a S
 refine qY S (y_loadAgg (cs := [_, _, _, _, _, _, _, _]) S (by kernel_rfl) rfl rfl (M.cellsAt (k := 8) 1 rfl rfl)) ?_; intro a S
 refine qY S (y_loadAgg (cs := [_, _]) S (by kernel_rfl) rfl rfl (M.cellsAt (k := 2) 0 rfl rfl)) ?_; intro a S
 refine qY S (y_build (ps := [(0, .tmp 35), (1, .tmp 37), (2, .tmp 39), (3, .tmp 40)]) (pl := [(0, 13), (13, 1), (14, 8), (22, 2), (24, 1)]) (z := [.int .i64 0, .int .i64 0, .int .i64 0, .int .i64 0, .int .i64 0, .int .i64 0, .int .i64 0, .int .i64 0, .int .i64 0, .int .i64 0, .int .i64 0, .int .i64 0, .int .i64 0, .int .i64 0, .int .i64 0, .int .i64 0, .int .i64 0, .int .i64 0, .int .i64 0, .int .i64 0, .int .i64 0, .int .i64 0, .int .i64 0, .int .i64 0, .slice none 0 0]) (cs := stC ⟨s.su, curOf s.su, s.n, []⟩ (.slice none 0 0)) S (by kernel_rfl) rfl (by kernel_rfl)) ?_; intro a S
 refine qY S (y_build (ps := [(0, .tmp 34), (1, .tmp 41)]) (pl := [(0, 1), (1, 25)]) (z := [.pointer none, .int .i64 0, .int .i64 0, .int .i64 0, .int .i64 0, .int .i64 0, .int .i64 0, .int .i64 0, .int .i64 0, .int .i64 0, .int .i64 0, .int .i64 0, .int .i64 0, .int .i64 0, .int .i64 0, .int .i64 0, .int .i64 0, .int .i64 0, .int .i64 0, .int .i64 0, .int .i64 0, .int .i64 0, .int .i64 0, .int .i64 0, .int .i64 0, .slice none 0 0]) (cs := lgC (.pointer (some ⟨bd, 0, none⟩)) ⟨s.su, curOf s.su, s.n, []⟩ (.slice none 0 0)) S (by kernel_rfl) rfl (by kernel_rfl)) ?_; intro a S
 refine st_box S M rfl rfl rfl #[_, _, _, _, _, _, _, _, _, _, _, _, _, _, _, _, _, _, _, _, _, _, _, _, _, _] rfl ?_; intro a w7 bX S M hB
 refine qG [1] S ?_; intro a S
 refine nxC (wp_seq (nxD (qG [1] S ?_))); intro a S
 refine qY S (y_lenS (E := 30) S rfl (by kernel_rfl)) ?_; intro a S
 refine qG [1] S ?_; intro a S
 refine nxC (wp_block (wp_loop_g (fun m a w' => ∃ (k : Nat) (va : Option Addr) (vc dlo dhi : Nat), k ≤ rs.length ∧ m = rs.length - k ∧ Sees 67 a [(8, .pointer (some ⟨bX, 0, none⟩)), (44, .slice ra rs.length rc), (45, .int .i64 (rs.length : Int)), (46, .int .i64 (k : Int))] ∧ Mem wc w' (lgE bX bd (stI s.su s.n L k) va vc :: opE dlo dhi va vc (stI s.su s.n L k).op :: F0)) (rs.length) ?_ ?_))
 ·skip
  replace M := M.drp 1
  replace M := M.drp 1
  obtain ⟨dlo, dhi, M1⟩ := M.nilRow 211 12
  exact ⟨0, none, 0, dlo, dhi, Nat.zero_le _, rfl, S.sub _ rfl, M1.perm (List.Perm.swap _ _ _)⟩
 intro m a wl
 rintro ⟨k, va, vc, dlo, dhi, hk, rfl, S, M⟩
 have hsl := stI_len s.su s.n L k
 refine nxD (qG [1] S ?_); intro a S
 refine nxC (wp_seq (st_fi (t := 47) S rfl ?_ ?_))
 ·intro h47 S
  refine st_condF S rfl (wp_exit (then_exit (then_exit (block_hit (nxE (qG [1, 1, 1] S ?_)))))); intro a S
  refine nxC (wp_ret (end_two S rfl (res_tmp rfl) (res_tmp rfl) ?_))
  obtain rfl : k = rs.length := by omega
  rw [hrl, stI_all G] at M
  exact ⟨_, va, vc, dlo, dhi, rfl, M.sub (.cons_cons _ (.cons_cons _ hSub))⟩
 intro h47 S
 refine st_condT S rfl (wp_skip (then_normal (wp_seq (wp_block (wp_seq ?_)))))
 have hkl : k < rs.length := by omega
 obtain ⟨r, hr⟩ : ∃ r, rs[k]? = some r := ⟨_, List.getElem?_eq_getElem hkl⟩
 have hrm := List.mem_of_getElem? hr
 have hr90 := h90 r hrm
 obtain ⟨p, hp⟩ : ∃ p, L[k]? = some p := ⟨_, List.getElem?_eq_getElem (by omega)⟩
 have hpok := (D.ph.ok p (List.mem_of_getElem? hp)).1
 have hbs : r.bs = p.1.enc [] := by
  have h1 : (rs.map RB.bs)[k]? = some r.bs := by rw [List.getElem?_map, hr]; rfl
  rw [hrs, List.getElem?_map, hp] at h1
  exact (Option.some.inj h1).symm
 refine wp_region_lit (qY S (y_indexR (e := 30) (sz := 1) S (by kernel_rfl) rfl ((M.readIn (.tail _ (.tail _ hRow)) (by unfold maxLen; omega))) rfl (by first | omega | (simp; done) | (simp; omega))) ?_); intro a S
 try simp only [Int.toNat_natCast, Nat.mul_one, Nat.zero_add] at S
 refine qY S (y_load S (by kernel_rfl) rfl ((M.readIn (.tail _ (.tail _ hRow)) (by unfold maxLen; omega)).at_.one k (by rw [List.getElem?_map, hr]; rfl))) ?_; intro a S
 refine qG [1] S ?_; intro a S
 refine nxA (qG [1] S ?_); intro a S
 refine qC (xs := [.tmp 51]) S (qE Tryz.func93) rfl (readR_any r.val r.bs _ (M.readIn (.tail _ (.tail _ (hEnt r hrm))) (by unfold maxLen; omega))) ?_
 rintro _ w8 hP; obtain ⟨q, wx, wa, wcp, c, rfl, hF, h8, hs31, hcc⟩ := ReadRP.form hP; refine ⟨_, rfl, ?_⟩; intro a S
 obtain ⟨rfl, rfl, rfl⟩ : c = 0 ∧ q = p.1 ∧ wx = [] := by
  rcases hcc with ⟨h0, h1, h2⟩ | ⟨-, -, -, h1⟩
  ·exact ⟨h0, enc_one h1 hpok.1 (h2.trans hbs)⟩
  ·exact absurd hbs.symm (h1 p.1 [] hpok.1)
 replace M := M.grow hF.below
 refine qG [1, 1, 1] S ?_; intro a S
 refine st_alloc S M rfl rfl #[.int .i8 0, .int .i64 0, .int .i64 0, .int .i64 0, .bool false, .slice none 0 0, .int .i64 0, .int .i64 0, .int .i64 0, .int .i64 0, .int .i64 0, .int .i64 0] (by kernel_rfl) ?_; intro a w9 bY S M hB
 refine qS (sz := 12) (us := [_, _, _, _, _, _, _, _, _, _, _, _]) S M 0 ?_; intro w10 M
 refine qG [1] S ?_; intro a S
 refine nxC (wp_seq (wp_regionK [7] #[false, false, false, false, false, false, false, false, false, false] rfl M (by kernel_rfl) ?_)); intro w11 M
 refine k_pure 0 S rfl (fun w => y_move S rfl) ?_; intro a S
 refine k_pure 1 S rfl (fun w => y_int S rfl rfl rfl) ?_; intro a S
 refine k_pure 2 S rfl (fun w => y_move S rfl) ?_; intro a S
 refine st_if (t := 57) S rfl ?_ ?_
 ·intro h57 S
  exact absurd rfl h57
 intro h57 S
 refine k_pure 3 S rfl (fun w => y_move S rfl) ?_; intro a S
 refine k_pure 4 S rfl (fun w => y_nilCheck S rfl) ?_; intro a S
 refine k_pure 5 S rfl (fun w => y_fieldAddr (k := 1) S (by kernel_rfl) rfl) ?_; intro a S
 refine k_read 6 S rfl (fun w hW => have M := M.grow hW; y_loadAgg (cs := [_, _, _, _, _, _, _, _, _, _, _, _]) S (by kernel_rfl) rfl rfl (M.cellsAt (k := 12) 0 rfl rfl)) ?_; intro a S
 refine k_one 7 rfl (by kernel_rfl) ?_
 skip
 replace M := M.ord [2, 2] (by simp only [ordO, oG, oS, oE, oZ, oB] <;> rfl)
 refine qC (xs := [.tmp 60, .tmp 61]) S (qE Tryz.func94) rfl (take1_any (.pointer (some ⟨bd, 0, none⟩)) (stI s.su s.n L k) va vc p.1 (.slice wa 0 wcp) M (by omega) (rec_cs hpok) hpok.2) ?_
 rintro _ w12 ⟨rfl, lo2, hi2, va2, vc2, M1⟩; refine ⟨_, rfl, ?_⟩; intro a S; have M := M1; clear M1
 rw [stI_step s.su s.n hp] at M
 refine nxC ⟨fun h => absurd h (by decide), ?_⟩
 refine k_pure 8 S rfl (fun w => y_not S rfl) ?_; intro a S
 refine k_pure 9 S rfl (fun w => y_pickF S rfl rfl) ?_; intro a S
 refine k_end (by kernel_rfl) ?_
 replace S := S.keep [8, 44, 45, 46, 47, 10, 11, 12, 64]
 refine then_normal (st_if (t := 64) S rfl ?_ ?_)
 ·intro h64 S
  first | cases h64 | (simp at h64)
 intro h64 S
 refine st_condF S rfl (wp_skip (block_normal (nxF ?_)))
 (first | refine qY S (y_addN S rfl rfl (by omega)) ?_ | refine qY S (y_int S rfl rfl rfl) ?_); intro a S
 refine qG [1] S ?_; intro a S
 refine nxC ?_
 skip
 replace M := M.drp 2
 exact ⟨rs.length - (k + 1), by omega, k + 1, va2, vc2, lo2, hi2, by omega, rfl, S.sub _ rfl, M⟩
end Go.Proofs.YtkkcehcpffamkaaGreat

namespace Go.Proofs.YtkkcehcpffamkaaGreat
open Go.RowKit Go.Sort
abbrev hdC (pd pl : Value) (si nx bd ki : Int) : List Value := [.bool true, pd, pl, .slice none 0 0, .slice none 0 0, .int .i64 0, .int .i64 si, .slice none 0 0, .int .i64 nx, .int .i64 bd, .int .i64 0, .int .i64 ki, .int .i64 0, .int .i64 0, .int .i64 0, .int .i64 0, .int .i64 0, .int .i8 0, .int .i64 0, .int .i64 0, .int .i64 0, .int .i64 0, .int .i64 0, .int .i64 0, .int .i64 0, .slice none 0 0, .int .i64 0, .int .i64 0, .int .i64 0, .int .i64 0, .int .i64 0]
def sK (m : Su) (k : Nat) : Ls := if k ≤ 1 then s1M m else { s1M m with su := begunSu (suM m) }
def iK (k : Nat) (j : Nat) : Int := if j ≤ k then 1 else 0
abbrev HStE (k : Nat) (m : Su) (bX bI bP bC bd bl : Nat) (cc : List Value) : List Ent := [.blk bX (hdC (pB bd) (pB bl) (iK k 4) (iK k 3) (iK k 3) (iK k 6)).toArray 101, .blk bI #[.int .i64 (iK k 2)] 3, .blk bP #[pB bC] 140, .blk bC cc.toArray 106]
def HSt (wc : World) (A : List Ent) (m : Su) (bX bI bP bC bd : Nat) (cc : List Value) : Nat → World → Prop
 | 0, w => ∃ E, DkE bd (DS.new.write ((suM m).gen % 2) (supS (suM m))).flush E ∧ Mem wc w (.blk bX (hdC (pB bd) (.pointer none) 0 0 0 0).toArray 101 :: .blk bI #[.int .i64 0] 3 :: .blk bP #[pB bC] 140 :: .blk bC cc.toArray 106 :: (A ++ E))
 | k + 1, w => ∃ S bl va vc lo hi E, LInv S (sK m (k + 1)) [] 0 ∧ DkE bd S E ∧ Mem wc w (HStE (k + 1) m bX bI bP bC bd bl cc ++ (lgE bl bd (sK m (k + 1)) va vc :: opE lo hi va vc (sK m (k + 1)).op :: (A ++ E)))
theorem sK_inv {m : Su} (hm : m.mapOk) : LInv (DS.new.write ((suM m).gen % 2) (supS (suM m))).flush (sK m 1) [] 0 := LInv.first hm
theorem begM_may {m : Su} (hm : m.mapOk) : (begunSu (suM m)).may := begunSu_may (suM_may hm) (by decide : (1 : Int) ≤ 1000000) (by decide : (0 : Int) ≤ 1000000)
theorem ho1_any {wc w : World} {A : List Ent} {m : Su} {bX bI bP bC bd : Nat} {cc : List Value} (hm : m.mapOk) (hc : cc.toArray[1]? = some (pB bd)) (h : HSt wc A m bX bI bP bC bd cc 0 w) :
 Calls Tryz.prog 60 #[pB bP, pB bX] w fun e w' => e = .returned (.int .i64 0) ∧ HSt wc A m bX bI bP bC bd cc 1 w' := by
 obtain ⟨E, hE, M⟩ := h
 refine calls_enter Tryz.func60 rfl 13 rfl rfl ?_; intro a S
 refine wp_seq ?_
 skip
 refine wp_region_lit (qG [1] S ?_); intro a S
 refine nxA (qR [3] S M ?_); intro a S
 skip
 refine qY S (y_nilCheck S rfl) ?_; intro a S
 refine qG [2] S ?_; intro a S
 refine qY S (y_load S (by kernel_rfl) rfl (M.cell 3 rfl (hc))) ?_; intro a S
 refine qC (xs := [.tmp 7]) S (qE Tryz.func61) rfl (openL_any (A := _ :: _ :: _ :: _ :: A) (s1M m) hE M (LInv.first hm)) ?_
 rintro _ w1 ⟨bl, va, vc, lo, hi, rfl, M1⟩; refine ⟨_, rfl, ?_⟩; intro a S; have M := M1; clear M1
 simp only [List.cons_append] at M
 refine qG [1, 1, 1, 3] S ?_; intro a S
 refine qS (sz := 1) (us := [_]) S M 2 ?_; intro w2 M
 refine qG [1] S ?_; intro a S
 refine nxA (qG [1, 1] S ?_); intro a S
 refine nxC (wp_ret (end_one S rfl (res_tmp rfl) ?_))
 skip
 replace M := M.ord [1, 1, 5, 5, 5, 5] (by simp only [ordO, oG, oS, oE, oZ, oB] <;> rfl)
 exact ⟨rfl, _, bl, va, vc, lo, hi, E, sK_inv hm, hE, M⟩
theorem ho2_any {wc w : World} {A : List Ent} {m : Su} {bX bI bP bC bd : Nat} {cc : List Value} (hm : m.mapOk) (h : HSt wc A m bX bI bP bC bd cc 1 w) :
 Calls Tryz.prog 62 #[pB bX, pB bI] w fun e w' => e = .returned (.int .i64 0) ∧ HSt wc A m bX bI bP bC bd cc 2 w' := by
 obtain ⟨S0, bl, va, vc, lo, hi, E, hI, hE, M⟩ := h
 simp only [List.cons_append, List.nil_append] at M
 refine calls_enter Tryz.func62 rfl 10 rfl rfl ?_; intro a S
 refine wp_seq ?_
 skip
 refine wp_region_lit (qG [1] S ?_); intro a S
 refine nxA (qR [3, 1] S M ?_); intro a S
 skip
 replace M := M.ord [5, 4, 4, 4, 4, 5] (by simp only [ordO, oG, oS, oE, oZ, oB] <;> rfl)
 refine qC (xs := [.tmp 5]) S (qE Tryz.func63) rfl (begin_any (A := _ :: _ :: _ :: _ :: _ :: A) (s1M m) _ hE M hI.up (begM_may hm) (fun k => by have := hI.one k; omega)) ?_
 rintro _ w1 ⟨rfl, E1, hE1, M1⟩; refine ⟨_, rfl, ?_⟩; intro a S; have M := M1; clear M1
 simp only [List.cons_append] at M
 refine qG [1, 1, 1] S ?_; intro a S
 refine qS (sz := 1) (us := [_]) S M 2 ?_; intro w2 M
 refine qG [1] S ?_; intro a S
 refine nxA (qG [1, 1] S ?_); intro a S
 refine nxC (wp_ret (end_one S rfl (res_tmp rfl) ?_))
 skip
 replace M := M.ord [5, 1, 5, 5, 5, 5] (by simp only [ordO, oG, oS, oE, oZ, oB] <;> rfl)
 exact ⟨rfl, _, bl, va, vc, lo, hi, E1, hI.begin (begM_may hm), hE1, M⟩
theorem ho3_any {wc w : World} {A : List Ent} {m : Su} {bX bI bP bC bd : Nat} {cc : List Value} (hm : m.mapOk) (h : HSt wc A m bX bI bP bC bd cc 2 w) :
 Calls Tryz.prog 64 #[pB bX] w fun e w' => e = .returned (.int .i64 0) ∧ HSt wc A m bX bI bP bC bd cc 3 w' := by
 obtain ⟨S0, bl, va, vc, lo, hi, E, hI, hE, M⟩ := h
 simp only [List.cons_append, List.nil_append] at M
 refine calls_enter Tryz.func64 rfl 11 rfl rfl ?_; intro a S
 refine wp_seq ?_
 skip
 refine wp_region_lit (qG [1] S ?_); intro a S
 refine nxA (qR [3, 1] S M ?_); intro a S
 refine qQ (xs := [.tmp 4]) S (qE Tryz.func66) rfl (bound_any (pB bd) (sK m 2) _ _ (M.blk 4 rfl)) M ?_; intro a w1 S hK M
 refine qQ (xs := [.tmp 5]) S (qE Tryz.func65) rfl (newT_any 1 (by omega) _) M ?_; intro a w2 S hK M
 refine qG [1, 1, 1, 9] S ?_; intro a S
 refine qS (sz := 2) (us := [_, _]) S M 0 ?_; intro w3 M
 refine qG [1] S ?_; intro a S
 refine nxA (qG [1, 1] S ?_); intro a S
 refine nxC (wp_ret (end_one S rfl (res_tmp rfl) ?_))
 exact ⟨rfl, S0, bl, va, vc, lo, hi, E, hI, hE, M⟩
theorem ho4_any {wc w : World} {A : List Ent} {m : Su} {bX bI bP bC bd : Nat} {cc : List Value} (h : HSt wc A m bX bI bP bC bd cc 3 w) :
 Calls Tryz.prog 67 #[pB bI, pB bX] w fun e w' => e = .returned (.int .i64 0) ∧ HSt wc A m bX bI bP bC bd cc 4 w' := by
 obtain ⟨S0, bl, va, vc, lo, hi, E, hI, hE, M⟩ := h
 simp only [List.cons_append, List.nil_append] at M
 refine calls_enter Tryz.func67 rfl 10 rfl rfl ?_; intro a S
 refine wp_seq ?_
 skip
 refine wp_region_lit (qG [1] S ?_); intro a S
 refine nxA (qR [2] S M ?_); intro a S
 refine qQ (xs := [.tmp 4]) S (qE Tryz.func68) rfl (newSe_any 1 (by omega) _) M ?_; intro a w1 S hK M
 refine qG [1, 1, 1, 5] S ?_; intro a S
 refine qS (sz := 4) (us := [_, _, _, _]) S M 0 ?_; intro w2 M
 refine qG [1] S ?_; intro a S
 refine nxA (qG [1, 1] S ?_); intro a S
 refine nxC (wp_ret (end_one S rfl (res_tmp rfl) ?_))
 exact ⟨rfl, S0, bl, va, vc, lo, hi, E, hI, hE, M⟩
theorem ho5_any {wc w : World} {A : List Ent} {m : Su} {bX bI bP bC bd : Nat} {cc : List Value} (h : HSt wc A m bX bI bP bC bd cc 4 w) :
 Calls Tryz.prog 69 #[pB bX] w fun e w' => e = .returned (.int .i64 0) ∧ HSt wc A m bX bI bP bC bd cc 5 w' := by
 obtain ⟨S0, bl, va, vc, lo, hi, E, hI, hE, M⟩ := h
 simp only [List.cons_append, List.nil_append] at M
 refine calls_enter Tryz.func69 rfl 11 rfl rfl ?_; intro a S
 refine wp_seq ?_
 skip
 refine wp_region_lit (qG [1] S ?_); intro a S
 refine nxA (qR [3, 1] S M ?_); intro a S
 refine qC (xs := [.tmp 4]) S (qE Tryz.func71) rfl (unfinished_any (pB bd) (sK m 4) va vc _ (M.blk 4 rfl) (rd_rcs M (p := 5) rfl (Nat.zero_le 1000)) (Nat.zero_le 1000)) ?_
 rintro _ w1 ⟨ra, rc, rfl, hF⟩; refine ⟨_, rfl, ?_⟩; intro a S; replace M := M.grow hF.below
 refine qQ (xs := [.tmp 5]) S (qE Tryz.func70) rfl (newCo_any ra rc _) M ?_; intro a w2 S hK M
 refine qG [1, 1, 1, 4] S ?_; intro a S
 refine qS (sz := 1) (us := [_]) S M 0 ?_; intro w3 M
 refine qG [1] S ?_; intro a S
 refine nxA (qG [1, 1] S ?_); intro a S
 refine nxC (wp_ret (end_one S rfl (res_tmp rfl) ?_))
 exact ⟨rfl, S0, bl, va, vc, lo, hi, E, hI, hE, M⟩
theorem ho6_any {wc w : World} {A : List Ent} {m : Su} {bX bI bP bC bd : Nat} {cc : List Value} (h : HSt wc A m bX bI bP bC bd cc 5 w) :
 Calls Tryz.prog 72 #[pB bI, pB bX] w fun e w' => e = .returned (.int .i64 0) ∧ HSt wc A m bX bI bP bC bd cc 6 w' := by
 obtain ⟨S0, bl, va, vc, lo, hi, E, hI, hE, M⟩ := h
 simp only [List.cons_append, List.nil_append] at M
 refine calls_enter Tryz.func72 rfl 10 rfl rfl ?_; intro a S
 refine wp_seq ?_
 skip
 refine wp_region_lit (qG [1] S ?_); intro a S
 refine nxA (qR [2] S M ?_); intro a S
 refine qQ (xs := [.const (.int .i64 0), .tmp 4]) S (qE Tryz.func73) rfl (newKz_any 0 1 (by omega) (by omega) _) M ?_; intro a w1 S hK M
 refine qG [1, 1, 1, 11] S ?_; intro a S
 refine qS (sz := 7) (us := [_, _, _, _, _, _, _]) S M 0 ?_; intro w2 M
 refine qG [1] S ?_; intro a S
 refine nxA (qG [1, 1] S ?_); intro a S
 refine nxC (wp_ret (end_one S rfl (res_tmp rfl) ?_))
 exact ⟨rfl, S0, bl, va, vc, lo, hi, E, hI, hE, M⟩
end Go.Proofs.YtkkcehcpffamkaaGreat

namespace Go.Proofs.YtkkcehcpffamkaaGreat
open Go.RowKit Go.Sort
theorem hstep_any {wc w : World} {A : List Ent} {m : Su} {bX bI bP bC bd : Nat} {cc : List Value} (hm : m.mapOk) (hc : cc.toArray[1]? = some (pB bd)) {k : Nat} (hk : k < 6) (h : HSt wc A m bX bI bP bC bd cc k w) :
 ∃ (f : FuncId) (ca : List Value), [Value.func (.func 60) #[] #[pB bP, pB bX], .func (.func 62) #[] #[pB bX, pB bI], .func (.func 64) #[] #[pB bX], .func (.func 67) #[] #[pB bI, pB bX], .func (.func 69) #[] #[pB bX], .func (.func 72) #[] #[pB bI, pB bX]][k]? = some (.func (.func f) #[] ca.toArray) ∧ Enters Tryz.prog f ∧
  Calls Tryz.prog f ca.toArray w fun e w' => e = .returned (.int .i64 0) ∧ HSt wc A m bX bI bP bC bd cc (k + 1) w' := by
 have h6 : k = 0 ∨ k = 1 ∨ k = 2 ∨ k = 3 ∨ k = 4 ∨ k = 5 := by omega
 rcases h6 with rfl | rfl | rfl | rfl | rfl | rfl
 ·exact ⟨_, [_, _], rfl, enters_of Tryz.func60 (by decide) rfl, ho1_any hm hc h⟩
 ·exact ⟨_, [_, _], rfl, enters_of Tryz.func62 (by decide) rfl, ho2_any hm h⟩
 ·exact ⟨_, [_], rfl, enters_of Tryz.func64 (by decide) rfl, ho3_any hm h⟩
 ·exact ⟨_, [_, _], rfl, enters_of Tryz.func67 (by decide) rfl, ho4_any h⟩
 ·exact ⟨_, [_], rfl, enters_of Tryz.func69 (by decide) rfl, ho5_any h⟩
 ·exact ⟨_, [_, _], rfl, enters_of Tryz.func72 (by decide) rfl, ho6_any h⟩
abbrev cl0 (pd : Value) : List Value := [.bool false, pd, .pointer none, .slice none 0 0, .slice none 0 0, .int .i64 0, .int .i64 0, .slice none 0 0, .int .i64 0, .int .i64 0, .int .i64 0, .int .i64 0, .int .i64 0, .int .i64 0, .int .i64 0, .int .i64 0, .int .i64 0, .int .i8 0, .int .i64 0, .int .i64 0, .int .i64 0, .int .i64 0, .int .i64 0, .int .i64 0, .int .i64 0, .slice none 0 0, .int .i64 0, .int .i64 0, .int .i64 0, .int .i64 0, .int .i64 0, .slice none 0 0, .slice none 0 0, .slice none 0 0, .slice none 0 0]
abbrev clC (pd pl sl : Value) (la nx bd : Int) (si an hi : Value) : List Value := [.bool true, pd, pl, .slice none 0 0, sl, .int .i64 la, .int .i64 1, .slice none 0 0, .int .i64 nx, .int .i64 bd, .int .i64 0, .int .i64 1, .int .i64 0, .int .i64 0, .int .i64 0, .int .i64 0, .int .i64 0, .int .i8 0, .int .i64 0, .int .i64 0, .int .i64 0, .int .i64 0, .int .i64 0, .int .i64 0, .int .i64 0, .slice none 0 0, .int .i64 0, .int .i64 0, .int .i64 0, .int .i64 0, .int .i64 0, si, .slice none 0 0, an, hi]
abbrev clZ (bd bl : Nat) (si : Value) : List Value := clC (pB bd) (pB bl) (.slice none 0 0) 0 1 1 si (.slice none 0 0) (.slice none 0 0)
def HOpenP (wc : World) (A : List Ent) (m : Su) (bC bd : Nat) (w : World) : Prop := ∃ S bl va vc lo hi E, LInv S (sK m 6) [] 0 ∧ DkE bd S E ∧ Mem wc w (.blk bC (clZ bd bl (.slice none 0 0)).toArray 106 :: lgE bl bd (sK m 6) va vc :: opE lo hi va vc (sK m 6).op :: (A ++ E))
set_option maxHeartbeats 1000000 in
theorem headOpen_any {wc w : World} {A E : List Ent} {m : Su} {bC bd : Nat} (hm : m.mapOk) (hE : DkE bd (DS.new.write ((suM m).gen % 2) (supS (suM m))).flush E) (M : Mem wc w (.blk bC (cl0 (pB bd)).toArray 106 :: (A ++ E))) :
 Calls Tryz.prog 39 #[pB bC] w fun e w' => e = .returned (.int .i64 0) ∧ HOpenP wc A m bC bd w' := by
 refine calls_enter Tryz.func39 rfl 34 rfl rfl ?_; intro a S
 refine wp_seq ?_
 skip
 refine wp_region_lit (st_box S M rfl rfl rfl #[_] rfl ?_); intro a w1 bP S M hB
 refine qG [1] S ?_; intro a S
 refine nxA (qR [1] S M ?_); intro a S
 skip
 refine qY S (y_nilCheck S rfl) ?_; intro a S
 refine qR [2, 2] S M ?_; intro a S
 refine qY S (y_build (ps := [(0, .const (.bool true)), (1, .tmp 12)]) (pl := [(0, 1), (1, 1), (2, 1), (3, 1), (4, 4), (8, 2), (10, 7), (17, 9), (26, 3), (29, 2)]) (z := [.bool false, .pointer none, .pointer none, .slice none 0 0, .slice none 0 0, .int .i64 0, .int .i64 0, .slice none 0 0, .int .i64 0, .int .i64 0, .int .i64 0, .int .i64 0, .int .i64 0, .int .i64 0, .int .i64 0, .int .i64 0, .int .i64 0, .int .i8 0, .int .i64 0, .int .i64 0, .int .i64 0, .int .i64 0, .int .i64 0, .int .i64 0, .int .i64 0, .slice none 0 0, .int .i64 0, .int .i64 0, .int .i64 0, .int .i64 0, .int .i64 0]) (cs := [_, _, _, _, _, _, _, _, _, _, _, _, _, _, _, _, _, _, _, _, _, _, _, _, _, _, _, _, _, _, _]) S (by kernel_rfl) rfl (rfl)) ?_; intro a S
 refine st_alloc S M rfl rfl #[.bool false, .pointer none, .pointer none, .slice none 0 0, .slice none 0 0, .int .i64 0, .int .i64 0, .slice none 0 0, .int .i64 0, .int .i64 0, .int .i64 0, .int .i64 0, .int .i64 0, .int .i64 0, .int .i64 0, .int .i64 0, .int .i64 0, .int .i8 0, .int .i64 0, .int .i64 0, .int .i64 0, .int .i64 0, .int .i64 0, .int .i64 0, .int .i64 0, .slice none 0 0, .int .i64 0, .int .i64 0, .int .i64 0, .int .i64 0, .int .i64 0] (by kernel_rfl) ?_; intro a w2 bX S M hB
 refine qS (sz := 31) (us := [_, _, _, _, _, _, _, _, _, _, _, _, _, _, _, _, _, _, _, _, _, _, _, _, _, _, _, _, _, _, _]) S M 0 ?_; intro w3 M
 refine nxA (st_alloc S M rfl rfl #[.int .i64 0] (by kernel_rfl) ?_); intro a w4 bI S M hB
 refine nxA (qG [1] S ?_); intro a S
 refine nxA (qY S (y_makeFunc (fs := []) (cs := [.tmp 1, .tmp 3]) S rfl rfl) ?_); intro a S
 refine qY S (y_makeFunc (fs := []) (cs := [.tmp 3, .tmp 4]) S rfl rfl) ?_; intro a S
 refine qY S (y_makeFunc (fs := []) (cs := [.tmp 3]) S rfl rfl) ?_; intro a S
 refine qY S (y_makeFunc (fs := []) (cs := [.tmp 4, .tmp 3]) S rfl rfl) ?_; intro a S
 refine qY S (y_makeFunc (fs := []) (cs := [.tmp 3]) S rfl rfl) ?_; intro a S
 refine qY S (y_makeFunc (fs := []) (cs := [.tmp 4, .tmp 3]) S rfl rfl) ?_; intro a S
 refine qY S (y_buildA (ps := [(0, .tmp 14), (1, .tmp 15), (2, .tmp 16), (3, .tmp 17), (4, .tmp 18), (5, .tmp 19)]) (sz := 1) (z := [.nilFunc, .nilFunc, .nilFunc, .nilFunc, .nilFunc, .nilFunc]) (cs := [_, _, _, _, _, _]) S (by kernel_rfl) rfl rfl) ?_; intro a S
 refine st_alloc S M rfl rfl #[.nilFunc, .nilFunc, .nilFunc, .nilFunc, .nilFunc, .nilFunc] (by kernel_rfl) ?_; intro a w5 bT S M hB
 refine qS (sz := 6) (us := [_, _, _, _, _, _]) S M 0 ?_; intro w6 M
 refine nxC (wp_seq (nxD (qY S (y_loadAgg (cs := [_, _, _, _, _, _]) S (by kernel_rfl) rfl rfl (M.cellsAt (k := 6) 0 rfl rfl)) ?_))); intro a S
 refine qG [1] S ?_; intro a S
 refine nxC (wp_block (wp_loop_g (fun q a w' => ∃ (k : Nat), k ≤ 6 ∧ q = 6 - k ∧ Sees 34 a [(1, pB bP), (3, pB bX), (21, .agg #[.func (.func 60) #[] #[pB bP, pB bX], .func (.func 62) #[] #[pB bX, pB bI], .func (.func 64) #[] #[pB bX], .func (.func 67) #[] #[pB bI, pB bX], .func (.func 69) #[] #[pB bX], .func (.func 72) #[] #[pB bI, pB bX]]), (22, .int .i64 (k : Int))] ∧ HSt wc A m bX bI bP bC bd (cl0 (pB bd)) k w') (6) ?_ ?_))
 ·skip
  replace M := M.drp 0
  replace M := M.ord [3, 3, 2, 3] (by simp only [ordO, oG, oS, oE, oZ, oB] <;> rfl)
  exact ⟨0, Nat.zero_le _, rfl, S.sub _ rfl, E, hE, M⟩
 intro m a wl
 rintro ⟨k, hk, rfl, S, hS⟩
 refine nxD (qG [1] S ?_); intro a S
 refine nxC (wp_seq (st_fi (t := 23) S rfl ?_ ?_))
 ·intro h23 S
  refine st_condF S rfl (wp_exit (then_exit (then_exit (block_hit (then_normal (wp_seq ?_))))))
  obtain rfl : k = 6 := by omega
  obtain ⟨S1, bl, va, vc, lo, hi, E1, hI, hE1, M⟩ := hS
  simp only [List.cons_append, List.nil_append] at M
  refine wp_region_lit (qR [3] S M ?_); intro a S
  refine qY S (y_loadAgg (cs := [_, _, _, _, _, _, _, _, _, _, _, _, _, _, _, _, _, _, _, _, _, _, _, _, _, _, _, _, _, _, _]) S (by kernel_rfl) rfl rfl (M.cellsAt (k := 31) 0 rfl rfl)) ?_; intro a S
  skip
  refine qY S (y_nilCheck S rfl) ?_; intro a S
  skip
  refine qS (sz := 31) (us := [_, _, _, _, _, _, _, _, _, _, _, _, _, _, _, _, _, _, _, _, _, _, _, _, _, _, _, _, _, _, _]) S M 3 ?_; intro w8 M
  refine nxA (qG [1] S ?_); intro a S
  refine nxC (wp_ret (end_one S rfl (res_tmp rfl) ?_))
  skip
  replace M := M.drp 2
  replace M := M.drp 1
  replace M := M.drp 0
  exact ⟨rfl, S1, bl, va, vc, lo, hi, E1, hI, hE1, M⟩
 intro h23 S
 refine st_condT S rfl (wp_skip (then_normal (wp_seq (wp_block (wp_seq ?_)))))
 obtain ⟨f, ca, hv, hEn, hCall⟩ := hstep_any hm rfl (show k < 6 by omega) hS
 refine wp_region_lit (qY S (y_indexP (m := 6) (sz := 1) S (by kernel_rfl) (fun e he => by cases he.symm.trans (show _ = some (.array 6 143) by kernel_rfl); kernel_rfl) rfl rfl (by first | omega | (simp; done) | (simp; omega)) ((by rw [Int.toNat_natCast, Nat.mul_one]; exact hv))) ?_); intro a S
 refine qG [1] S ?_; intro a S
 refine nxA (qG [1] S ?_); intro a S
 refine st_callB (xs := []) (fi := []) (ca := ca) S (hEn) rfl rfl (rfl) rfl (hCall) ?_
 rintro _ w7 ⟨rfl, hS2⟩; refine ⟨_, rfl, ?_⟩; intro a S
 refine qG [1] S ?_; intro a S
 refine nxA (qG [1, 1] S ?_); intro a S
 refine nxC (st_if (t := 28) S rfl ?_ ?_)
 ·intro h28 S
  exact absurd rfl h28
 intro h28 S
 refine st_condF S rfl (wp_skip (block_normal (nxF ?_)))
 (first | refine qY S (y_addN S rfl rfl (by omega)) ?_ | refine qY S (y_int S rfl rfl rfl) ?_); intro a S
 refine qG [1] S ?_; intro a S
 refine nxC ?_
 exact ⟨6 - (k + 1), by omega, k + 1, by omega, rfl, S.sub _ rfl, hS2⟩
end Go.Proofs.YtkkcehcpffamkaaGreat

namespace Go.Proofs.YtkkcehcpffamkaaGreat
open Go.RowKit Go.Sort
set_option maxHeartbeats 1000000 in
theorem headFormat_any {wc w : World} {A : List Ent} {m : Su} {bC : Nat} (hm : m.mapOk) (M : Mem wc w (.blk bC (cl0 (.pointer none)).toArray 106 :: A)) :
 Calls Tryz.prog 22 #[pB bC, .agg (mapL m).toArray] w fun e w' => e = .returned (.int .i64 0) ∧ ∃ bd, HOpenP wc A m bC bd w' := by
 refine calls_enter Tryz.func22 rfl 21 rfl rfl ?_; intro a S
 refine wp_seq ?_
 skip
 refine wp_region_lit (st_box S M rfl rfl rfl #[_, _, _, _, _, _, _, _] rfl ?_); intro a w1 bF S M hB
 refine qG [1] S ?_; intro a S
 refine nxA (qG [1] S ?_); intro a S
 refine qC (xs := []) S (qE Tryz.func37) rfl (new_any _) ?_
 rintro _ w2 ⟨bd, E, rfl, hE, M1⟩; refine ⟨_, rfl, ?_⟩; intro a S
 replace M := M.joinR M1
 simp only [List.cons_append] at M
 refine qG [1, 2] S ?_; intro a S
 refine qS (sz := 1) (us := [_]) S M 1 ?_; intro w3 M
 refine nxC (wp_seq (wp_seq (wp_regionKC (C := fun W => Blk W bF (mapL m).toArray 54) [5] #[false, false, false, false, false, false, false] rfl M (by kernel_rfl) ?_))); intro w4 M; have hC := M.blk 0 rfl
 refine kc_readC 0 S rfl hC (fun w _ => y_move S rfl) ?_; intro a S
 refine kc_readC 1 S rfl hC (fun w _ => y_nilCheck S rfl) ?_; intro a S
 refine kc_readC 2 S rfl hC (fun w _ => y_fieldAddr (k := 1) S (by kernel_rfl) rfl) ?_; intro a S
 refine kc_read 3 S rfl hC (fun w hW => have M := M.grow hW; y_load S (by kernel_rfl) rfl (M.cell 1 rfl rfl)) ?_; intro a S
 refine kc_readC 4 S rfl hC (fun w hC => y_loadAgg (cs := [_, _, _, _, _, _, _, _]) S (by kernel_rfl) rfl rfl (Blk.cellsAt (o := 0) (k := 8) hC rfl)) ?_; intro a S
 refine kc_one 5 rfl (by kernel_rfl) ?_
 refine qC (xs := [.tmp 13, .tmp 14]) S (qE Tryz.func38) rfl (formatM_any (A := _ :: _ :: A) m hm hE M rfl (fun k => Nat.zero_le _)) ?_
 rintro _ w5 ⟨rfl, E1, hE1, M1⟩; refine ⟨_, rfl, ?_⟩; intro a S; have M := M1; clear M1
 simp only [List.cons_append] at M
 replace hC := M.blk 0 rfl
 refine nxC ⟨fun h => absurd h (by decide), hC, ?_⟩
 refine kc_readC 6 S rfl hC (fun w _ => y_assign S rfl) ?_; intro a S
 refine kc_end (by kernel_rfl) ?_
 refine nxE (qG [1, 1] S ?_); intro a S
 refine nxC (st_if (t := 17) S rfl ?_ ?_)
 ·intro h17 S
  exact absurd rfl h17
 intro h17 S
 refine st_condF S rfl (wp_skip (nxE (qG [1] S ?_))); intro a S
 skip
 replace M := M.drp 0
 refine qC (xs := [.tmp 19]) S (qE Tryz.func39) rfl (headOpen_any hm hE1 M) ?_
 rintro _ w6 ⟨rfl, hP⟩; refine ⟨_, rfl, ?_⟩; intro a S
 refine qG [1] S ?_; intro a S
 replace S := S.keep [0, 1, 3, 5, 17, 4]
 refine nxC (wp_ret (end_one S rfl (res_tmp rfl) ?_))
 exact ⟨rfl, bd, hP⟩
theorem perm_site {α : Type} {X T D C L O R B : α} {es E F G : List α} : (X :: T :: D :: (es ++ ((C :: L :: O :: R :: B :: (F ++ G)) ++ E))).Perm (C :: L :: O :: R :: B :: ((X :: T :: D :: (es ++ (E ++ F))) ++ G)) := by
 have e1 : X :: T :: D :: (es ++ ((C :: L :: O :: R :: B :: (F ++ G)) ++ E)) = ([X, T, D] ++ es) ++ (([C, L, O, R, B] ++ (F ++ G)) ++ E) := by simp
 have e2 : C :: L :: O :: R :: B :: ((X :: T :: D :: (es ++ (E ++ F))) ++ G) = [C, L, O, R, B] ++ (([X, T, D] ++ es) ++ (E ++ (F ++ G))) := by simp
 rw [e1, e2]
 refine (List.Perm.append_left _ (?_ : ((([C, L, O, R, B] ++ (F ++ G)) ++ E).Perm ([C, L, O, R, B] ++ (E ++ (F ++ G)))))).trans ?_
 ·rw [List.append_assoc]; exact List.Perm.append_left _ List.perm_append_comm
 ·rw [← List.append_assoc, ← List.append_assoc [C, L, O, R, B]]; exact List.Perm.append_right _ List.perm_append_comm
def SiteE (o : Int) (self : Int) (v : Value) (F : List Ent) : Prop := ∃ (b bd bs : Nat) (da : Option Addr) (dc lo hi : Nat) (cs : List Value) (es : List Ent), v = pB b ∧ Ent.blk b (siteC self true bd (pB bs) self 1).toArray 130 ∈ F ∧ shE bs bd (shN o) (.slice da 0 dc) ∈ F ∧ rowE lo hi 199 6 (.slice da 0 dc) 0 cs ∈ F ∧ PrBk cs [] es ∧ ∀ e ∈ es, e ∈ F
def SitesE (m : Su) (ps : List Value) (F : List Ent) : Prop := ∀ (j : Nat) v, ps[j]? = some v → SiteE (ownB m ((j : Int) + 1) 8) ((j : Int) + 1) v F
theorem SiteE.mono {o self : Int} {v : Value} {F F2 : List Ent} (h : SiteE o self v F) (hs : ∀ e ∈ F, e ∈ F2) : SiteE o self v F2 := by
 obtain ⟨b, bd, bs, da, dc, lo, hi, cs, es, h1, h2, h3, h4, h5, h6⟩ := h
 exact ⟨b, bd, bs, da, dc, lo, hi, cs, es, h1, hs _ h2, hs _ h3, hs _ h4, h5, fun e he => hs _ (h6 e he)⟩
theorem SitesE.snoc {m : Su} {ps : List Value} {F F2 : List Ent} {v : Value} (h : SitesE m ps F) (hs : ∀ e ∈ F, e ∈ F2) (hv : SiteE (ownB m ((ps.length : Int) + 1) 8) ((ps.length : Int) + 1) v F2) : SitesE m (ps ++ [v]) F2 := fun j u hu => by
 rcases Nat.lt_or_ge j ps.length with hj | hj
 ·rw [List.getElem?_append_left hj] at hu
  exact (h j u hu).mono hs
 ·have e : j = ps.length := by
   have := (List.getElem?_eq_some_iff.1 hu).1
   simp at this; omega
  subst e
  rw [List.getElem?_append_right (Nat.le_refl _), Nat.sub_self] at hu
  cases hu; exact hv
theorem own_bd {n self : Int} (hn : 1 ≤ n ∧ n ≤ 4) (hs : 1 ≤ self ∧ self ≤ 4) {k : Nat} (hk : k ≤ 8) : 0 ≤ ownB (firM n) self k ∧ ownB (firM n) self k ≤ 255 := by
 have e1 : n = 1 ∨ n = 2 ∨ n = 3 ∨ n = 4 := by omega
 have e2 : self = 1 ∨ self = 2 ∨ self = 3 ∨ self = 4 := by omega
 have e3 : k = 0 ∨ k = 1 ∨ k = 2 ∨ k = 3 ∨ k = 4 ∨ k = 5 ∨ k = 6 ∨ k = 7 ∨ k = 8 := by omega
 rcases e1 with rfl | rfl | rfl | rfl <;> rcases e2 with rfl | rfl | rfl | rfl <;> rcases e3 with rfl | rfl | rfl | rfl | rfl | rfl | rfl | rfl | rfl <;> decide +kernel
def NewP (wc : World) (A : List Ent) (n : Nat) (bC : Nat) (w : World) : Prop := ∃ (bd bl : Nat) (sa : Option Addr) (sc lo hi : Nat) (ps : List Value) (S : DS) (va : Option Addr) (vc lo2 hi2 : Nat) (F E : List Ent), ps.length = n ∧ SitesE (firM n) ps F ∧ LInv S (sK (firM n) 6) [] 0 ∧ DkE bd S E ∧
 Mem wc w (.blk bC (clZ bd bl (.slice sa n sc)).toArray 106 :: lgE bl bd (sK (firM n) 6) va vc :: opE lo2 hi2 va vc (sK (firM n) 6).op :: rowE lo hi 108 1 (.slice sa n sc) n ps :: (F ++ (A ++ E)))
set_option maxHeartbeats 2000000 in
theorem newC_any (n : Nat) (hn : 1 ≤ n ∧ n ≤ 4) (w : World) : Calls Tryz.prog 7 #[.int .i64 (n : Int)] w fun e w' => ∃ bC, e = .returned (.tuple #[pB bC, .int .i64 0]) ∧ NewP w [] n bC w' := by
 have M := Mem.start w
 have hm : (firM (n : Int)).mapOk := firM_ok (by omega)
 refine calls_enter Tryz.func7 rfl 55 rfl rfl ?_; intro a S
 refine nxD (qG [1, 1] S ?_); intro a S
 refine nxA (qG [1] S ?_); intro a S
 refine qQ (xs := [.tmp 12]) S (qE Tryz.func21) rfl (first_any (n : Int) (by omega) _) M ?_; intro a w1 S hK M
 refine qG [1, 1, 1] S ?_; intro a S
 refine st_alloc S M rfl rfl #[.int .i64 0, .int .i64 0, .int .i64 0, .int .i64 0, .int .i64 0, .int .i64 0, .int .i64 0, .int .i64 0] (by kernel_rfl) ?_; intro a w2 bB S M hB
 refine qS (sz := 8) (us := [_, _, _, _, _, _, _, _]) S M 0 ?_; intro w3 M
 refine qG [1] S ?_; intro a S
 refine nxC (wp_seq (nxD (qG [1, 1] S ?_))); intro a S
 refine nxC (st_if (t := 17) S rfl ?_ ?_)
 ·intro h17 S
  exact absurd rfl h17
 intro h17 S
 refine st_condF S rfl (wp_skip (nxE (qY S (y_build (ps := []) (pl := [(0, 31), (31, 1), (32, 1), (33, 1), (34, 1)]) (z := [.bool false, .pointer none, .pointer none, .slice none 0 0, .slice none 0 0, .int .i64 0, .int .i64 0, .slice none 0 0, .int .i64 0, .int .i64 0, .int .i64 0, .int .i64 0, .int .i64 0, .int .i64 0, .int .i64 0, .int .i64 0, .int .i64 0, .int .i8 0, .int .i64 0, .int .i64 0, .int .i64 0, .int .i64 0, .int .i64 0, .int .i64 0, .int .i64 0, .slice none 0 0, .int .i64 0, .int .i64 0, .int .i64 0, .int .i64 0, .int .i64 0, .slice none 0 0, .slice none 0 0, .slice none 0 0, .slice none 0 0]) (cs := [_, _, _, _, _, _, _, _, _, _, _, _, _, _, _, _, _, _, _, _, _, _, _, _, _, _, _, _, _, _, _, _, _, _, _]) S (by kernel_rfl) rfl (rfl)) ?_))); intro a S
 refine st_box S M rfl rfl rfl #[_, _, _, _, _, _, _, _, _, _, _, _, _, _, _, _, _, _, _, _, _, _, _, _, _, _, _, _, _, _, _, _, _, _, _] rfl ?_; intro a w4 bC S M hB
 refine qG [1] S ?_; intro a S
 refine nxC (wp_seq (wp_seq (wp_regionKC (C := fun W => Blk W bB (mapL (firM (n : Int))).toArray 54) [4] #[false, false, false, false, false, false] rfl M (by kernel_rfl) ?_))); intro w5 M; have hC := M.blk 1 rfl
 refine kc_readC 0 S rfl hC (fun w _ => y_move S rfl) ?_; intro a S
 refine kc_readC 1 S rfl hC (fun w _ => y_nilCheck S rfl) ?_; intro a S
 refine kc_readC 2 S rfl hC (fun w _ => y_fieldAddr (k := 0) S (by kernel_rfl) rfl) ?_; intro a S
 refine kc_readC 3 S rfl hC (fun w hC => y_loadAgg (cs := [_, _, _, _, _, _, _, _]) S (by kernel_rfl) rfl rfl (Blk.cellsAt (o := 0) (k := 8) hC rfl)) ?_; intro a S
 refine kc_one 4 rfl (by kernel_rfl) ?_
 refine qC (xs := [.tmp 22, .tmp 23]) S (qE Tryz.func22) rfl (headFormat_any hm M) ?_
 rintro _ w6 ⟨rfl, bd, S1, bl, va, vc, lo2, hi2, E, hI, hE, M1⟩; refine ⟨_, rfl, ?_⟩; intro a S; have M := M1; clear M1
 simp only [List.cons_append, List.nil_append] at M
 replace hC := M.blk 3 rfl
 refine nxC ⟨fun h => absurd h (by decide), hC, ?_⟩
 refine kc_readC 5 S rfl hC (fun w _ => y_assign S rfl) ?_; intro a S
 refine kc_end (by kernel_rfl) ?_
 refine nxE (qG [1, 1] S ?_); intro a S
 replace S := S.keep [0, 2, 3, 4, 5, 17, 6, 7, 26]
 refine nxC (st_if (t := 26) S rfl ?_ ?_)
 ·intro h26 S
  exact absurd rfl h26
 intro h26 S
 refine st_condF S rfl (wp_skip (then_normal (wp_seq (nxD (qG [1] S ?_))))); intro a S
 refine nxC (wp_block (wp_loop_g (fun q a w' => ∃ (k : Nat) (sa : Option Addr) (sc lo hi : Nat) (ps : List Value) (F : List Ent), k ≤ n ∧ q = n - k ∧ ps.length = k ∧ SitesE (firM (n : Int)) ps F ∧ Sees 55 a [(0, .int .i64 (n : Int)), (4, pB bB), (6, pB bC), (8, .int .i64 ((k : Int) + 1))] ∧ Mem w w' (.blk bC (clZ bd bl (.slice sa k sc)).toArray 106 :: lgE bl bd (sK (firM n) 6) va vc :: opE lo2 hi2 va vc (sK (firM n) 6).op :: rowE lo hi 108 1 (.slice sa k sc) k ps :: .blk bB (mapL (firM (n : Int))).toArray 54 :: (F ++ E))) (n) ?_ ?_))
 ·skip
  obtain ⟨lo9, hi9, M1⟩ := M.nilRow 108 1
  clear M; have M := M1; clear M1
  replace M := M.ord [4, 1, 4, 4, 4] (by simp only [ordO, oG, oS, oE, oZ, oB] <;> rfl)
  exact ⟨0, none, 0, lo9, hi9, [], [], Nat.zero_le _, rfl, rfl, fun j v h => (by simp at h), S.sub _ rfl, M⟩
 intro m a wl
 rintro ⟨k, sa, sc, lo, hi, ps, F, hk, rfl, hpl, hSi, S, M⟩
 refine wp_seq (nxD (qG [1, 1, 1] S ?_)); intro a S
 refine nxC (st_fi (t := 30) S rfl ?_ ?_)
 ·intro h30 S
  refine st_condF S rfl (wp_exit (then_exit (then_exit (block_hit (nxE (qG [1, 1, 1] S ?_)))))); intro a S
  refine nxC (wp_ret (end_two S rfl (res_tmp rfl) (res_tmp rfl) ?_))
  obtain rfl : k = n := by omega
  exact ⟨bC, rfl, bd, bl, sa, sc, lo, hi, ps, S1, va, vc, lo2, hi2, F, E, hpl, hSi, hI, hE, M.drop 4⟩
 intro h30 S
 refine st_condT S rfl (wp_skip (then_normal (wp_seq (wp_block (nxD (qG [1] S ?_)))))); intro a S
 refine qY S (y_loadAgg (cs := [_, _, _, _, _, _, _, _]) S (by kernel_rfl) rfl rfl (M.cellsAt (k := 8) 4 rfl rfl)) ?_; intro a S
 refine qG [1] S ?_; intro a S
 refine qQ (xs := [.tmp 35, .tmp 36]) S (qE Tryz.func24) rfl (owned_any (firM (n : Int)) ((k : Int) + 1) (fun j hj => own_bd (by omega) (by omega) (by omega)) _) M ?_; intro a w7 S hK M
 refine qC (xs := [.tmp 34, .tmp 37]) S (qE Tryz.func23) rfl (newSite_any ((k : Int) + 1) _ (by omega) (own_bd (by omega) (by omega) (Nat.le_refl 8)) M) ?_
 rintro _ w8 ⟨b, bd9, bs9, S9, rfl, hM⟩; refine ⟨_, rfl, ?_⟩; intro a S
 obtain ⟨da9, dc9, lo9, hi9, cs9, es9, E9, hE9, hBk9, M1⟩ := ShM.open (P := [_]) hM
 clear hM
 have M := M1.perm perm_site
 clear M1
 obtain ⟨F2, hF2⟩ : ∃ F2, F2 = .blk b (siteC ((k : Int) + 1) true bd9 (pB bs9) ((k : Int) + 1) 1).toArray 130 :: shE bs9 bd9 (shN (ownB (firM (n : Int)) ((k : Int) + 1) 8)) (.slice da9 (shN (ownB (firM (n : Int)) ((k : Int) + 1) 8)).ps.length dc9) :: rowE lo9 hi9 199 6 (.slice da9 (shN (ownB (firM (n : Int)) ((k : Int) + 1) 8)).ps.length dc9) (shN (ownB (firM (n : Int)) ((k : Int) + 1) 8)).ps.length cs9 :: (es9 ++ (E9 ++ F)) := ⟨_, rfl⟩
 rw [← hF2] at M
 have hSi2 : SitesE (firM (n : Int)) (ps ++ [pB b]) F2 := by
  refine hSi.snoc (fun e he => ?_) ?_
  ·rw [hF2]; exact .tail _ (.tail _ (.tail _ (List.mem_append_right _ (List.mem_append_right _ he))))
  ·rw [hpl, hF2]
   exact ⟨b, bd9, bs9, da9, dc9, lo9, hi9, cs9, es9, rfl, .head _, .tail _ (.head _), .tail _ (.tail _ (.head _)), hBk9, fun e he => .tail _ (.tail _ (.tail _ (List.mem_append_left _ he)))⟩
 refine qG [1, 1, 1, 1, 1] S ?_; intro a S
 refine nxC (wp_seq (nxD (qG [1, 1] S ?_))); intro a S
 refine nxC (st_if (t := 42) S rfl ?_ ?_)
 ·intro h42 S
  exact absurd rfl h42
 intro h42 S
 refine st_condF S rfl (wp_skip (nxF (qR [1, 1, 1, 32, 1, 1] S M ?_))); intro a S
 refine st_lit (ps := [(0, .tmp 49)]) (e := 108) (sz := 1) (zl := [.pointer none]) (cs := [_]) S M rfl rfl (by kernel_rfl) rfl (rfl) ?_; intro a w9 bZ S M hB
 refine st_append (e := 108) (sz := 1) (by_ := 8) (zc := [.pointer none]) S M 4 rfl rfl (by kernel_rfl) rfl (by decide) rfl rfl rfl (show Rd _ _ _ 1 _ 1 [pB b] from M.sliceAt 0 rfl (M.cellsAt (k := 1) 0 rfl rfl) rfl (Nat.le_refl _) (by unfold maxLen; omega)) (rfl) (by omega) (by unfold maxLen; omega) ?_; intro a w10 vA loA hiA S M
 obtain ⟨aA, cA, rfl, -, -⟩ := (M.readAll 0 rfl (by unfold maxLen; omega)).form
 refine qY S (y_nilCheck S rfl) ?_; intro a S
 refine qG [32] S ?_; intro a S
 refine qS (sz := 1) (us := [_]) S M 2 ?_; intro w11 M
 replace S := S.keep [0, 4, 6, 8, 30, 9, 10, 42]
 refine wpList_nil (block_normal (nxF (qG [1] S ?_))); intro a S
 (first | refine qY S (y_addN S rfl rfl (by omega)) ?_ | refine qY S (y_int S rfl rfl rfl) ?_); intro a S
 refine qG [1] S ?_; intro a S
 refine nxC ?_
 skip
 replace M := M.drp 1
 replace M := M.ord [4, 1, 4, 4, 4] (by simp only [ordO, oG, oS, oE, oZ, oB] <;> rfl)
 exact ⟨n - (k + 1), by omega, k + 1, aA, cA, loA, hiA, ps ++ [pB b], F2, by omega, rfl, by simp [hpl], hSi2, S.sub _ rfl, M⟩
end Go.Proofs.YtkkcehcpffamkaaGreat

namespace Go.Proofs.YtkkcehcpffamkaaGreat
open Go.RowKit Go.Sort
set_option maxHeartbeats 1000000 in
theorem nextT_any (n b : Int) (h : stOk n b) (hb : n < b) (w : World) : Calls Tryz.prog 116 #[.agg #[.int .i64 n, .int .i64 b]] w fun e w' => e = .returned (.tuple #[.int .i64 n, .agg #[.int .i64 (n + 1), .int .i64 b], .bool false, .int .i64 0]) ∧ Below w.heap.size w w' := by
 have M := Mem.start w
 have h' := h
 unfold stOk at h'
 refine calls_enter Tryz.func116 rfl 31 rfl rfl ?_; intro a S
 refine nxD (st_box S M rfl rfl rfl #[_, _] rfl ?_); intro a w1 bX S M hB
 refine qG [1] S ?_; intro a S
 refine st_alloc S M rfl rfl #[.int .i64 0, .int .i64 0] (by kernel_rfl) ?_; intro a w2 bR S M hB
 refine qG [1, 1] S ?_; intro a S
 refine nxC (wp_scope_straight ?_)
 refine wp_seq (nxD (qY S (y_loadAgg (cs := [_, _]) S (by kernel_rfl) rfl rfl (M.cellsAt (k := 2) 1 rfl rfl)) ?_)); intro a S
 refine qQ (xs := [.tmp 6]) S (qE Tryz.func95) rfl (mayT_any n b h _) M ?_; intro a w3 S hK M
 refine qG [1] S ?_; intro a S
 refine nxC (st_if (t := 8) S rfl ?_ ?_)
 ·intro h8 S
  cases h8
 intro h8 S
 refine st_condF S rfl (wp_skip (then_normal (wp_seq (wp_label ?_))))
 refine then_normal (wp_seq (wp_block (nxD (qR [1, 2, 1, 1] S M ?_)))); intro a S
 refine nxC (st_if (t := 19) S rfl ?_ ?_)
 ·intro h19 S
  exfalso; omega
 intro h19 S
 refine st_condF S rfl (nxD (qR [1, 2, 2, 2, 1, 1] S M ?_)); intro a S
 refine nxC (st_if (t := 24) S rfl ?_ ?_)
 ·intro h24 S
  exfalso; omega
 intro h24 S
 refine st_condF S rfl (nxD (qR [1, 2] S M ?_)); intro a S
 (first | refine qY S (y_addN S rfl rfl (by omega)) ?_ | refine qY S (y_int S rfl rfl rfl) ?_); intro a S
 refine qR [2, 2] S M ?_; intro a S
 refine qY S (y_build (ps := [(0, .tmp 12), (1, .tmp 14)]) (pl := [(0, 1), (1, 1)]) (z := [.int .i64 0, .int .i64 0]) (cs := [_, _]) S (by kernel_rfl) rfl (rfl)) ?_; intro a S
 refine qS (sz := 2) (us := [_, _]) S M 0 ?_; intro w4 M
 replace S := S.keep [0, 1, 2, 3, 4, 5, 8, 19, 24]
 refine nxC (wp_seq (wp_regionKC (C := fun W => Blk W bX #[.int .i64 n, .int .i64 b] 91) [4] #[false, false, false, false, false, false, false] rfl M (by kernel_rfl) ?_)); intro w5 M; have hC := M.blk 1 rfl
 refine kc_readC 0 S rfl hC (fun w _ => y_fieldAddr (k := 0) S (by kernel_rfl) rfl) ?_; intro a S
 refine kc_readC 1 S rfl hC (fun w hC => y_load S (by kernel_rfl) rfl (by rw [hC.cells]; rfl)) ?_; intro a S
 refine kc_read 2 S rfl hC (fun w hW => have M := M.grow hW; y_loadAgg (cs := [_, _]) S (by kernel_rfl) rfl rfl (M.cellsAt (k := 2) 0 rfl rfl)) ?_; intro a S
 refine kc_readC 3 S rfl hC (fun w _ => y_assign S rfl) ?_; intro a S
 refine kc_one 4 rfl (by kernel_rfl) ?_
 refine qS (sz := 2) (us := [_, _]) S M 0 ?_; intro w6 M
 replace hC := M.blk 1 rfl
 refine nxC ⟨fun h => absurd h (by decide), hC, ?_⟩
 refine kc_readC 5 S rfl hC (fun w _ => y_assign S rfl) ?_; intro a S
 refine kc_readC 6 S rfl hC (fun w _ => y_assign S rfl) ?_; intro a S
 refine kc_end (by kernel_rfl) ?_
 refine then_normal (wp_ret (block_ret (then_ret (sc_ret ?_))))
 refine end_four S rfl (res_tmp rfl) (res_agg (cs := [_, _]) (by kernel_rfl) rfl rfl (M.cellsAt (k := 2) 0 rfl rfl)) (res_tmp rfl) (res_tmp rfl) ?_
 exact ⟨rfl, M.below⟩
set_option maxHeartbeats 1000000 in
theorem nextTK_any (n : Int) (h : stOk n n) (hl : n ≠ 1048577) (w : World) : Calls Tryz.prog 116 #[.agg #[.int .i64 n, .int .i64 n]] w fun e w' => e = .returned (.tuple #[.int .i64 0, .agg #[.int .i64 n, .int .i64 n], .bool true, .int .i64 0]) ∧ Below w.heap.size w w' := by
 have M := Mem.start w
 have h' := h
 unfold stOk at h'
 refine calls_enter Tryz.func116 rfl 31 rfl rfl ?_; intro a S
 refine nxD (st_box S M rfl rfl rfl #[_, _] rfl ?_); intro a w1 bX S M hB
 refine qG [1] S ?_; intro a S
 refine st_alloc S M rfl rfl #[.int .i64 0, .int .i64 0] (by kernel_rfl) ?_; intro a w2 bR S M hB
 refine qG [1, 1] S ?_; intro a S
 refine nxC (wp_scope_straight ?_)
 refine wp_seq (nxD (qY S (y_loadAgg (cs := [_, _]) S (by kernel_rfl) rfl rfl (M.cellsAt (k := 2) 1 rfl rfl)) ?_)); intro a S
 refine qQ (xs := [.tmp 6]) S (qE Tryz.func95) rfl (mayT_any n n h _) M ?_; intro a w3 S hK M
 refine qG [1] S ?_; intro a S
 refine nxC (st_if (t := 8) S rfl ?_ ?_)
 ·intro h8 S
  cases h8
 intro h8 S
 refine st_condF S rfl (wp_skip (then_normal (wp_seq (wp_label ?_))))
 refine then_normal (wp_seq (wp_block (nxD (qR [1, 2, 1, 1] S M ?_)))); intro a S
 refine nxC (st_if (t := 19) S rfl ?_ ?_)
 ·intro h19 S
  exact absurd h19 hl
 intro h19 S
 refine st_condF S rfl (nxD (qR [1, 2, 2, 2, 1, 1] S M ?_)); intro a S
 refine nxC (st_fi (t := 24) S rfl ?_ ?_)
 ·intro h24 S
  exfalso; omega
 intro h24 S
 refine st_condT S rfl (wp_exit (block_hit (then_normal (wp_seq (wp_regionK [2] #[false, false, false, false, false] rfl M (by kernel_rfl) ?_))))); intro w4 M
 refine k_read 0 S rfl (fun w hW => have M := M.grow hW; y_loadAgg (cs := [_, _]) S (by kernel_rfl) rfl rfl (M.cellsAt (k := 2) 1 rfl rfl)) ?_; intro a S
 refine k_pure 1 S rfl (fun w => y_assign S rfl) ?_; intro a S
 refine k_one 2 rfl (by kernel_rfl) ?_
 refine qS (sz := 2) (us := [_, _]) S M 0 ?_; intro w5 M
 refine nxC ⟨fun h => absurd h (by decide), ?_⟩
 refine k_pure 3 S rfl (fun w => y_assign S rfl) ?_; intro a S
 refine k_pure 4 S rfl (fun w => y_assign S rfl) ?_; intro a S
 refine k_end (by kernel_rfl) ?_
 replace S := S.keep [0, 1, 3, 8, 19, 24, 2, 4, 5]
 refine then_normal (wp_ret (sc_ret ?_))
 refine end_four S rfl (res_tmp rfl) (res_agg (cs := [_, _]) (by kernel_rfl) rfl rfl (M.cellsAt (k := 2) 0 rfl rfl)) (res_tmp rfl) (res_tmp rfl) ?_
 exact ⟨rfl, M.below⟩
theorem keptT_any (n b c : Int) (h : stOk n b) (hc : c = min (b + 16) 1048577) (w : World) : Calls Tryz.prog 118 #[.agg #[.int .i64 n, .int .i64 b], .int .i64 c] w fun e w' => e = .returned (.tuple #[.agg #[.int .i64 n, .int .i64 c], .int .i64 0]) ∧ Below w.heap.size w w' := by
 have M := Mem.start w
 have h' := h
 unfold stOk at h'
 refine calls_enter Tryz.func118 rfl 22 rfl rfl ?_; intro a S
 refine nxD (st_box S M rfl rfl rfl #[_, _] rfl ?_); intro a w1 bX S M hB
 refine st_alloc S M rfl rfl #[.int .i64 0, .int .i64 0] (by kernel_rfl) ?_; intro a w2 bR S M hB
 refine qG [1] S ?_; intro a S
 refine nxC (wp_seq (nxD (qY S (y_loadAgg (cs := [_, _]) S (by kernel_rfl) rfl rfl (M.cellsAt (k := 2) 1 rfl rfl)) ?_))); intro a S
 refine qQ (xs := [.tmp 6]) S (qE Tryz.func95) rfl (mayT_any n b h _) M ?_; intro a w3 S hK M
 refine qG [1, 1] S ?_; intro a S
 refine st_if (t := 9) S rfl ?_ ?_
 ·intro h9 S
  cases h9
 intro h9 S
 refine qR [1, 2, 2] S M ?_; intro a S
 (first | refine qY S (y_addN S rfl rfl (by omega)) ?_ | refine qY S (y_int S rfl rfl rfl) ?_); intro a S
 refine qQ (xs := [.tmp 13, .const (.int .i64 1048577)]) S (qE Tryz.func175) rfl (least_any _ _ _) M ?_; intro a w4 S hK M
 refine qG [1, 1] S ?_; intro a S
 refine nxC (st_if (t := 16) S rfl ?_ ?_)
 ·intro h16 S
  exact absurd hc h16
 intro h16 S
 refine st_condF S rfl (wp_skip (nxE (qR [1, 2, 1] S M ?_))); intro a S
 refine qY S (y_build (ps := [(0, .tmp 19), (1, .tmp 20)]) (pl := [(0, 1), (1, 1)]) (z := [.int .i64 0, .int .i64 0]) (cs := [_, _]) S (by kernel_rfl) rfl (rfl)) ?_; intro a S
 refine qS (sz := 2) (us := [_, _]) S M 0 ?_; intro w5 M
 refine qG [1] S ?_; intro a S
 replace S := S.keep [0, 1, 2, 4, 16, 5]
 refine nxC (wp_ret (end_two S rfl (res_agg (cs := [_, _]) (by kernel_rfl) rfl rfl (M.cellsAt (k := 2) 0 rfl rfl)) (res_tmp rfl) ?_))
 exact ⟨rfl, M.below⟩
theorem stampsK_any {wc w : World} {A E : List Ent} {b bd lo hi : Nat} {S0 : DS} {T : List Nm} {K N : Int} (s : Ls) (n : Int) (va : Option Addr) (vc : Nat) (hn : 1 ≤ n ∧ n ≤ 1048577 ∧ s.cu.bound ≤ n) (hE : DkE bd S0 E)
 (M : Mem wc w (lgE b bd s va vc :: opE lo hi va vc s.op :: (A ++ E))) (hI : LInv S0 s T K) (hk : K ≤ s.su.inc) (hb : Lb s N) :
 Calls Tryz.prog 117 #[pB b, .int .i64 n] w fun e w' => e = .returned (.int .i64 0) ∧ DidP wc A b bd s (keepS s (r6 n)) [] K w' := by
 have hfew := hI.few
 have hr : recOk (r6 n) := r6_ok (by unfold withinB; simp; omega)
 refine calls_enter Tryz.func117 rfl 26 rfl rfl ?_; intro a S
 refine wp_seq ?_
 skip
 refine wp_region_lit (qG [1] S ?_); intro a S
 refine nxC (wp_seq (nxD (qG [1] S ?_))); intro a S
 refine qY S (y_eqlPS (by kernel_rfl) S rfl) ?_; intro a S
 refine nxC (st_condF S rfl (wp_skip (then_normal (wp_seq (nxD (qR [1, 1, 1, 2, 14, 1, 1, 1] S M ?_)))))); intro a S
 refine st_if (t := 14) S rfl ?_ ?_
 ·intro h14 S
  exfalso; omega
 intro h14 S
 refine qG [1, 1, 1, 1] S ?_; intro a S
 refine st_if (t := 18) S rfl ?_ ?_
 ·intro h18 S
  exfalso; omega
 intro h18 S
 refine qG [1, 1, 1] S ?_; intro a S
 replace S := S.keep [0, 1, 4, 6, 21]
 refine nxC (st_if (t := 21) S rfl ?_ ?_)
 ·intro h21 S
  exfalso; omega
 intro h21 S
 refine st_condF S rfl (wp_skip (nxE (qG [1, 1] S ?_))); intro a S
 refine qY S (y_build (ps := [(0, .const (.int .i8 6)), (8, .tmp 23)]) (pl := [(0, 1), (1, 3), (4, 1), (5, 1), (6, 1), (7, 1), (8, 1), (9, 2), (11, 1)]) (z := [.int .i8 0, .int .i64 0, .int .i64 0, .int .i64 0, .bool false, .slice none 0 0, .int .i64 0, .int .i64 0, .int .i64 0, .int .i64 0, .int .i64 0, .int .i64 0]) (cs := [_, _, _, _, _, _, _, _, _, _, _, _]) S (by kernel_rfl) rfl (rfl)) ?_; intro a S
 refine qC (xs := [.tmp 22, .tmp 24, .const (.bool true)]) S (qE Tryz.func174) rfl (keep_any (A := A) (T := T) (K := K) (N := N) s (r6 n) true va none vc 0 0 hE M (Rd.nil 0 _ _ 9) hI hk hb hr (by rw [take6_len]; omega) (by rw [if_pos rfl, take6_len]; exact Nat.le_refl _)) ?_
 rintro _ w1 ⟨rfl, S1, E1, va2, vc2, lo2, hi2, hI1, hq1, hE1, M1⟩; refine ⟨_, rfl, ?_⟩; intro a S; have M := M1; clear M1
 refine qG [1] S ?_; intro a S
 refine nxC (wp_ret (end_one S rfl (res_tmp rfl) ?_))
 exact ⟨rfl, S1, E1, va2, vc2, lo2, hi2, hI1, trivial, hE1, M⟩
set_option maxHeartbeats 2000000 in
theorem newStamp_any {wc w : World} {A E : List Ent} {bC bd bl lo hi : Nat} {S0 : DS} {N : Int} (s : Ls) (va : Option Addr) (vc : Nat) (sl si an hs : Value) (la : Int) (hE : DkE bd S0 E) (hI : LInv S0 s [] 0) (hk : 0 ≤ s.su.inc) (hb : Lb s N) (hbd : s.cu.bound ≤ 17)
 (M : Mem wc w (.blk bC (clC (pB bd) (pB bl) sl la 1 1 si an hs).toArray 106 :: lgE bl bd s va vc :: opE lo hi va vc s.op :: (A ++ E))) :
 Calls Tryz.prog 80 #[pB bC] w fun e w' => e = .returned (.int .i64 1) ∧ ∃ S1 E' va2 vc2 lo2 hi2, DkE bd S1 E' ∧ Mem wc w' (.blk bC (clC (pB bd) (pB bl) sl la 2 17 si an hs).toArray 106 :: lgE bl bd (keepS s (r6 17)) va2 vc2 :: opE lo2 hi2 va2 vc2 (keepS s (r6 17)).op :: (A ++ E')) := by
 refine calls_enter Tryz.func80 rfl 67 rfl rfl ?_; intro a S
 refine wp_seq ?_
 skip
 refine wp_region_lit (qG [1] S ?_); intro a S
 refine nxC (wp_scope_all 1000 (fun l m a w' => (l = 0 ∧ (fun m a w' => m = 1 ∧ ∃ (S1 : DS) (E1 : List Ent) (va2 : Option Addr) (vc2 lo2 hi2 : Nat), DkE bd S1 E1 ∧ Sees 67 a [(0, pB bC)] ∧ Mem wc w' (.blk bC (clC (pB bd) (pB bl) sl la 1 17 si an hs).toArray 106 :: lgE bl bd (keepS s (r6 17)) va2 vc2 :: opE lo2 hi2 va2 vc2 (keepS s (r6 17)).op :: (A ++ E1))) m a w')) ?_ ?_)
 ·skip
  refine wp_seq (wp_label ?_)
  refine nxE (qG [1, 1, 9] S ?_); intro a S
  refine qY S (y_loadAgg (cs := [_, _]) S (by kernel_rfl) rfl rfl (M.cellsAt (k := 2) 0 rfl rfl)) ?_; intro a S
  refine qQ (xs := [.tmp 14]) S (qE Tryz.func116) rfl (nextTK_any 1 ⟨by omega, by omega, by omega⟩ (by omega) _) M ?_; intro a w1 S hK M
  refine qG [1, 1, 1, 1, 1] S ?_; intro a S
  refine st_alloc S M rfl rfl #[.int .i64 0, .int .i64 0] (by kernel_rfl) ?_; intro a w2 bY S M hB
  refine qG [1] S ?_; intro a S
  refine qS (sz := 2) (us := [_, _]) S M 0 ?_; intro w3 M
  refine qG [1, 1] S ?_; intro a S
  refine nxC (wp_seq (nxD (qG [1, 1] S ?_))); intro a S
  refine nxC (st_if (t := 21) S rfl ?_ ?_)
  ·intro h21 S
   exact absurd rfl h21
  intro h21 S
  refine st_condF S rfl (wp_skip (then_normal (wp_seq (nxD (qG [1] S ?_))))); intro a S
  refine nxC (st_fi (t := 22) S rfl ?_ ?_)
  ·intro h22 S
   cases h22
  intro h22 S
  refine st_condT S rfl (nxD (qR [1, 1, 9, 2, 2] S M ?_)); intro a S
  (first | refine qY S (y_addN S rfl rfl (by omega)) ?_ | refine qY S (y_int S rfl rfl rfl) ?_); intro a S
  refine qY S (y_min S rfl rfl) ?_; intro a S
  refine qG [1] S ?_; intro a S
  replace S := S.keep [0, 2, 4, 3, 5, 6, 21, 22, 7]
  refine nxC (wp_seq (nxD (qR [1, 1, 3, 2, 1] S M ?_))); intro a S
  skip
  replace M := M.ord [3, 3] (by simp only [ordO, oG, oS, oE, oZ, oB] <;> rfl)
  refine qC (xs := [.tmp 33, .tmp 34]) S (qE Tryz.func117) rfl (stampsK_any (A := _ :: _ :: A) (T := []) (K := 0) (N := N) s 17 va vc (by omega) hE M hI hk hb) ?_
  rintro _ w4 ⟨rfl, S1, E1, va2, vc2, lo2, hi2, -, -, hE1, M1⟩; refine ⟨_, rfl, ?_⟩; intro a S; have M := M1; clear M1
  simp only [List.cons_append] at M
  refine qG [1] S ?_; intro a S
  refine nxC (st_if (t := 36) S rfl ?_ ?_)
  ·intro h36 S
   exact absurd rfl h36
  intro h36 S
  refine st_condF S rfl (wp_skip (nxE (qG [1, 1, 9] S ?_))); intro a S
  refine qY S (y_loadAgg (cs := [_, _]) S (by kernel_rfl) rfl rfl (M.cellsAt (k := 2) 3 rfl rfl)) ?_; intro a S
  refine qG [1] S ?_; intro a S
  refine qQ (xs := [.tmp 41, .tmp 42]) S (qE Tryz.func118) rfl (keptT_any 1 1 17 ⟨by omega, by omega, by omega⟩ (by omega) _) M ?_; intro a w5 S hK M
  refine qG [1, 1, 1] S ?_; intro a S
  refine st_alloc S M rfl rfl #[.int .i64 0, .int .i64 0] (by kernel_rfl) ?_; intro a w6 bZ S M hB
  refine qS (sz := 2) (us := [_, _]) S M 0 ?_; intro w7 M
  refine qG [1] S ?_; intro a S
  replace S := S.keep [0, 2, 4, 3, 5, 6, 21, 22, 7, 36, 8, 9]
  refine nxC (wp_seq (wp_seq (wp_quiet M (by kernel_rfl) (by kernel_rfl) ?_)))
  refine qt_y S rfl rfl rfl (fun w M => y_move S rfl) ?_; intro a S
  refine qt_y S rfl rfl rfl (fun w M => y_int S rfl rfl rfl) ?_; intro a S
  refine qt_y S rfl rfl rfl (fun w M => y_move S rfl) ?_; intro a S
  refine st_if (t := 48) S rfl ?_ ?_
  ·intro h48 S
   exact absurd rfl h48
  intro h48 S
  refine qt_y S rfl rfl rfl (fun w M => y_fieldAddr (k := 1) S (by kernel_rfl) rfl) ?_; intro a S
  refine qt_y S rfl rfl rfl (fun w M => y_load S (by kernel_rfl) rfl (M.cell 0 rfl rfl)) ?_; intro a S
  refine qt_y S rfl rfl rfl (fun w M => y_move S rfl) ?_; intro a S
  refine qt_y S rfl rfl rfl (fun w M => y_nilCheck S rfl) ?_; intro a S
  refine qt_y S rfl rfl rfl (fun w M => y_fieldAddr (k := 8) S (by kernel_rfl) rfl) ?_; intro a S
  refine qt_y S rfl rfl rfl (fun w M => y_fieldAddr (k := 1) S (by kernel_rfl) rfl) ?_; intro a S
  refine qt_y S rfl rfl rfl (fun w M => y_load S (by kernel_rfl) rfl (M.cell 4 rfl rfl)) ?_; intro a S
  refine qt_y S rfl rfl rfl (fun w M => y_int S rfl rfl rfl) ?_; intro a S
  refine qt_y S rfl rfl rfl (fun w M => y_pickF S rfl rfl) ?_; intro a S
  refine wpQuiet_nil ?_; intro w8 M
  refine then_normal (st_if (t := 57) S rfl ?_ ?_)
  ·intro h57 S
   exfalso; omega
  intro h57 S
  refine st_condF S rfl (wp_skip (nxE (qG [1] S ?_))); intro a S
  refine qY S (y_loadAgg (cs := [_, _]) S (by kernel_rfl) rfl rfl (M.cellsAt (k := 2) 0 rfl rfl)) ?_; intro a S
  refine qG [1, 9] S ?_; intro a S
  refine qS (sz := 2) (us := [_, _]) S M 4 ?_; intro w9 M
  replace S := S.keep [0, 2, 4, 3, 5, 6, 21, 22, 7, 36, 8, 9, 57]
  refine nxC (wp_goto ?_)
  refine then_goto ?_
  refine sg_goto ?_
  skip
  replace M := M.drp 0
  replace M := M.drp 2
  replace M := M.ord [1, 1, 2] (by simp only [ordO, oG, oS, oE, oZ, oB] <;> rfl)
  exact ⟨1, by omega, rfl, rfl, S1, E1, va2, vc2, lo2, hi2, hE1, S.sub _ rfl, M⟩
 intro l m a wc hJ; rcases hJ with ⟨rfl, hJ⟩
 ·refine ⟨_, rfl, ?_⟩
  obtain ⟨rfl, S1, E1, va2, vc2, lo2, hi2, hE1, S, M⟩ := hJ
  refine wp_seq (wp_skip (nxE (qG [1, 1, 9] S ?_))); intro a S
  refine qY S (y_loadAgg (cs := [_, _]) S (by kernel_rfl) rfl rfl (M.cellsAt (k := 2) 0 rfl rfl)) ?_; intro a S
  refine qQ (xs := [.tmp 14]) S (qE Tryz.func116) rfl (nextT_any 1 17 ⟨by omega, by omega, by omega⟩ (by omega) _) M ?_; intro a w10 S hK M
  refine qG [1, 1, 1, 1, 1] S ?_; intro a S
  refine st_alloc S M rfl rfl #[.int .i64 0, .int .i64 0] (by kernel_rfl) ?_; intro a w11 bY S M hB
  refine qG [1] S ?_; intro a S
  refine qS (sz := 2) (us := [_, _]) S M 0 ?_; intro w12 M
  refine qG [1, 1] S ?_; intro a S
  refine nxC (wp_seq (nxD (qG [1, 1] S ?_))); intro a S
  refine nxC (st_if (t := 21) S rfl ?_ ?_)
  ·intro h21 S
   exact absurd rfl h21
  intro h21 S
  refine st_condF S rfl (wp_skip (then_normal (wp_seq (nxD (qG [1] S ?_))))); intro a S
  refine nxC (st_if (t := 22) S rfl ?_ ?_)
  ·intro h22 S
   cases h22
  intro h22 S
  refine st_condF S rfl (wp_skip (nxE (qG [1] S ?_))); intro a S
  refine qY S (y_loadAgg (cs := [_, _]) S (by kernel_rfl) rfl rfl (M.cellsAt (k := 2) 0 rfl rfl)) ?_; intro a S
  refine qG [1, 9] S ?_; intro a S
  refine qS (sz := 2) (us := [_, _]) S M 1 ?_; intro w13 M
  replace S := S.keep [0, 4, 3, 5, 6, 21, 22]
  refine nxA (qG [1, 1] S ?_); intro a S
  refine nxC (wp_ret (sg_ret ?_))
  refine end_one S rfl (res_tmp rfl) ?_
  skip
  replace M := M.drp 0
  exact ⟨rfl, S1, E1, va2, vc2, lo2, hi2, hE1, M⟩
end Go.Proofs.YtkkcehcpffamkaaGreat

namespace Go.Proofs.YtkkcehcpffamkaaGreat
open Go.RowKit Go.Sort
variable {ds : List Deferred} {κ : Type}
theorem st_makeMapN {P : Program} {ops : Array Oper} {Q : Exit → Act → World → Prop} {rest : List Oper} {n : Nat} {a : Act} {L : List (Nat × Value)} {w w0 : World} {H : List Ent} {t kt et : TypeId} {x : Operand} {ki : IntKind} {i : Int} (S : SeesD ds n a L) (M : Mem w0 w H) (ht : P.underlying t = some (.map kt et)) (hx : val L x = some (.int ki i)) {d : Nat} {ty : TypeId} {p : String} {e : Array Edge} {g : Option (Nat × Bool)} (hg : gd ops L ⟨some d, .makeMap t (some x), ty, p, e, g⟩ = some true) (hn : Nat.blt d n = true)
 (k : ∀ a w' b, SeesD ds n a ((d, .map (some b)) :: L) → Mem w0 w' (mapX b ([] : Mes κ) 0 :: H) → Below w.heap.size w w' → wpList P ops Q rest a w') : wpList P ops Q (⟨some d, .makeMap t (some x), ty, p, e, g⟩ :: rest) a w := by
 refine st_w (v := .map (some w.heap.size)) (w' := w.alloc (.map #[] 0)) S hg rfl hn ?_ fun a S => k a _ w.heap.size S ?_ (ext_alloc (ext_refl _) _)
 ·unfold execOp
  simp only [Option.map_some, S.eval hx, Sem.run_bind, Instr.makeMap, run_underlying ht, Result.andThen]
  simp [newObj, Sem.run, go_sem, asInt]
 ·refine M.push (ext_alloc (ext_refl _) _) _ (fun W' hs => ?_) (Nat.le_refl _) (by simp [Ent.hi])
  show W'.heap[w.heap.size]? = _
  rw [hs w.heap.size (Nat.le_refl _) (Nat.lt_succ_self _)]; exact World.alloc_heap_new w _
end Go.Proofs.YtkkcehcpffamkaaGreat

namespace Go.Proofs.YtkkcehcpffamkaaGreat
open Go.RowKit Go.Sort
abbrev nS : Value := .slice none 0 0
theorem clientK_any (n : Int) (h : 1 ≤ n ∧ n ≤ 1048576) (w : World) : Calls Tryz.prog 115 #[.int .i64 n] w fun e w' => e = .returned (.bool true) ∧ Below w.heap.size w w' := by
 have M := Mem.start w
 refine calls_enter Tryz.func115 rfl 9 rfl rfl ?_; intro a S
 refine nxD (qG [1] S ?_); intro a S
 refine nxA (qG [1, 1, 1] S ?_); intro a S
 refine st_if (t := 5) S rfl ?_ ?_
 ·intro h5 S
  refine qG [1, 1, 1, 1] S ?_; intro a S
  refine nxC (wp_ret (end_one S rfl (res_tmp rfl) ?_))
  refine ⟨ret_bool ?_, M.below⟩; first | (simp; done) | (simp; omega)
 intro h5 S
 refine qG [0, 0, 1, 1] S ?_; intro a S
 refine nxC (wp_ret (end_one S rfl (res_tmp rfl) ?_))
 refine ⟨ret_bool ?_, M.below⟩; first | (simp; done) | (simp; omega)
set_option maxHeartbeats 1000000 in
theorem check0_any (la inc : Int) (hi : 1 ≤ inc ∧ inc ≤ 1048576) (hl : 0 ≤ la ∧ la ≤ 1099511627776) (w : World) : Calls Tryz.prog 114 #[.agg #[nS, .int .i64 la, .int .i64 inc, nS]] w fun e w' => e = .returned (.int .i64 0) ∧ Below w.heap.size w w' := by
 have M := Mem.start w
 refine calls_enter Tryz.func114 rfl 129 rfl rfl ?_; intro a S
 refine nxD (st_box S M rfl rfl rfl #[_, _, _, _] rfl ?_); intro a w1 bB S M hB
 refine qG [1] S ?_; intro a S
 refine nxC (wp_seq (nxD (qR [3, 1, 1, 1] S M ?_))); intro a S
 refine st_if (t := 13) S rfl ?_ ?_
 ·intro h13 S
  exfalso; omega
 intro h13 S
 refine qR [3, 1, 1, 1, 1] S M ?_; intro a S
 refine st_if (t := 18) S rfl ?_ ?_
 ·intro h18 S
  exfalso; omega
 intro h18 S
 refine qR [2, 1, 1, 1, 1] S M ?_; intro a S
 refine st_if (t := 23) S rfl ?_ ?_
 ·intro h23 S
  exfalso; omega
 intro h23 S
 refine qR [2, 1, 1, 1, 1] S M ?_; intro a S
 refine st_if (t := 28) S rfl ?_ ?_
 ·intro h28 S
  exfalso; omega
 intro h28 S
 refine qR [1, 1] S M ?_; intro a S
 refine qY S (y_lenS (E := 326) S rfl (by kernel_rfl)) ?_; intro a S
 refine qG [1, 1] S ?_; intro a S
 replace S := S.keep [0, 1, 2, 33]
 refine nxC (st_if (t := 33) S rfl ?_ ?_)
 ·intro h33 S
  exfalso; omega
 intro h33 S
 refine st_condF S rfl (wp_skip (nxE (qR [1, 1] S M ?_))); intro a S
 refine qY S (y_lenS (E := 326) S rfl (by kernel_rfl)) ?_; intro a S
 refine st_makeMapN (κ := Int) S M Tryz.underlying324 rfl rfl rfl ?_; intro a w2 bO S M hB
 refine qG [1] S ?_; intro a S
 refine nxA (qR [1, 2] S M ?_); intro a S
 refine qY S (y_lenS (E := 326) S rfl (by kernel_rfl)) ?_; intro a S
 refine st_makeMapN (κ := Int) S M Tryz.underlying324 rfl rfl rfl ?_; intro a w3 bS S M hB
 refine qG [1] S ?_; intro a S
 refine nxA (qG [1] S ?_); intro a S
 refine nxC (wp_seq (nxD (qR [1, 3] S M ?_))); intro a S
 refine qY S (y_lenS (E := 326) S rfl (by kernel_rfl)) ?_; intro a S
 refine qG [1] S ?_; intro a S
 refine nxC (wp_block (wp_loop_g (fun m a w' => m = 0 ∧ Sees 129 a [(1, pB bB), (43, nS), (44, .int .i64 0), (45, .int .i64 0)] ∧ Mem w w' [.blk bB #[nS, .int .i64 la, .int .i64 inc, nS] 89]) (0) ?_ ?_))
 ·skip
  replace M := M.drp 1
  replace M := M.drp 0
  exact ⟨rfl, S.sub _ rfl, M⟩
 intro m a wl
 rintro ⟨rfl, S, M⟩
 refine nxD (qG [1] S ?_); intro a S
 refine nxC (wp_seq (st_if (t := 46) S rfl ?_ ?_))
 ·intro h46 S
  exfalso; omega
 intro h46 S
 refine st_condF S rfl (wp_exit (then_exit (then_exit (block_hit (then_normal (wp_seq (nxD (qR [4, 1] S M ?_)))))))); intro a S
 refine qY S (y_lenS (E := 329) S rfl (by kernel_rfl)) ?_; intro a S
 refine qG [1] S ?_; intro a S
 refine nxC (wp_block (wp_loop_g (fun m a w' => m = 0 ∧ Sees 129 a [(1, pB bB), (90, nS), (91, .int .i64 0), (92, .int .i64 0)] ∧ Mem w w' [.blk bB #[nS, .int .i64 la, .int .i64 inc, nS] 89]) (0) ?_ ?_))
 ·skip
  exact ⟨rfl, S.sub _ rfl, M⟩
 intro m a wl
 rintro ⟨rfl, S, M⟩
 refine nxD (qG [1] S ?_); intro a S
 refine nxC (wp_seq (st_if (t := 93) S rfl ?_ ?_))
 ·intro h93 S
  exfalso; omega
 intro h93 S
 refine st_condF S rfl (wp_exit (then_exit (then_exit (block_hit (nxE (qG [1] S ?_)))))); intro a S
 refine nxC (wp_ret (end_one S rfl (res_tmp rfl) ?_))
 exact ⟨rfl, M.below⟩
abbrev begC (c : Int) : List Value := [.int .i8 0, .int .i64 c, .int .i64 0, .int .i64 0, nS, .int .i64 0]
set_option maxHeartbeats 1000000 in
theorem wants0_any (la inc c : Int) (hi : 1 ≤ inc ∧ inc ≤ 1048576) (hl : 0 ≤ la ∧ la < 1099511627776) (hc : 1 ≤ c ∧ c ≤ 1048576) (w : World) : Calls Tryz.prog 79 #[.agg #[nS, .int .i64 la, .int .i64 inc, nS], .agg (begC c).toArray] w fun e w' => e = .returned (.bool true) ∧ Below w.heap.size w w' := by
 have M := Mem.start w
 refine calls_enter Tryz.func79 rfl 36 rfl rfl ?_; intro a S
 refine nxD (st_box S M rfl rfl rfl #[_, _, _, _] rfl ?_); intro a w1 b1 S M hB
 refine st_box S M rfl rfl rfl #[_, _, _, _, _, _] rfl ?_; intro a w2 b2 S M hB
 refine qG [1] S ?_; intro a S
 refine nxA (qR [1, 2] S M ?_); intro a S
 refine qY S (y_lenS (E := 326) S rfl (by kernel_rfl)) ?_; intro a S
 refine qG [1, 1] S ?_; intro a S
 refine st_fi (t := 10) S rfl ?_ ?_
 ·intro h10 S
  exfalso; omega
 intro h10 S
 refine qR [2, 2, 1, 1, 1] S M ?_; intro a S
 refine nxA (qY S (y_loadAgg (cs := [_, _, _, _]) S (by kernel_rfl) rfl rfl (M.cellsAt (k := 4) 1 rfl rfl)) ?_); intro a S
 refine qQ (xs := [.tmp 15]) S (qE Tryz.func114) rfl (check0_any la inc hi (by omega) _) M ?_; intro a w3 S hK M
 refine qG [1, 1] S ?_; intro a S
 refine st_fi (t := 18) S rfl ?_ ?_
 ·intro h18 S
  exact absurd rfl h18
 intro h18 S
 refine qR [1, 1, 1, 1, 1] S M ?_; intro a S
 refine st_fi (t := 23) S rfl ?_ ?_
 ·intro h23 S
  exact absurd rfl h23
 intro h23 S
 refine qR [6, 1, 1, 1, 1] S M ?_; intro a S
 refine st_fi (t := 28) S rfl ?_ ?_
 ·intro h28 S
  exact absurd rfl h28
 intro h28 S
 refine qR [2, 1] S M ?_; intro a S
 refine qQ (xs := [.tmp 30]) S (qE Tryz.func115) rfl (clientK_any c hc _) M ?_; intro a w4 S hK M
 refine qG [1, 1] S ?_; intro a S
 refine st_fi (t := 33) S rfl ?_ ?_
 ·intro h33 S
  cases h33
 intro h33 S
 refine qG [1, 1, 1] S ?_; intro a S
 replace S := S.keep [0, 1, 2, 3, 5, 4]
 refine nxC (wp_ret (end_one S rfl (res_tmp rfl) ?_))
 first | exact ⟨rfl, M.below⟩ | (refine ⟨ret_bool ?_, M.below⟩; simp; omega)
set_option maxHeartbeats 1000000 in
theorem copied0_any (la inc : Int) (w : World) : Calls Tryz.prog 119 #[.agg #[nS, .int .i64 la, .int .i64 inc, nS]] w fun e w' => ∃ (sa oa : Option Addr) (sc oc lo1 hi1 lo2 hi2 : Nat), e = .returned (.agg #[.slice sa 0 sc, .int .i64 la, .int .i64 inc, .slice oa 0 oc]) ∧ Mem w w' [rowE lo1 hi1 326 37 (.slice sa 0 sc) 0 [], rowE lo2 hi2 329 5 (.slice oa 0 oc) 0 []] := by
 have M := Mem.start w
 refine calls_enter Tryz.func119 rfl 26 rfl rfl ?_; intro a S
 refine nxD (st_box S M rfl rfl rfl #[_, _, _, _] rfl ?_); intro a w1 bB S M hB
 refine st_alloc S M rfl rfl #[.slice none 0 0, .int .i64 0, .int .i64 0, .slice none 0 0] (by kernel_rfl) ?_; intro a w2 bR S M hB
 refine nxC (wp_seq ?_)
 replace M := (M.rowNil 326 37).rowNil 329 5
 refine wp_region_lit (qR [1, 4] S M ?_); intro a S
 refine st_append (e := 326) (sz := 37) (by_ := 256) (zc := [.int .i64 0, .int .i64 0, .int .i64 0, .int .i64 0, .int .i64 0, .int .i8 0, .int .i64 0, .int .i64 0, .int .i64 0, .int .i64 0, .int .i64 0, .int .i64 0, .int .i64 0, .int .i8 0, .int .i64 0, .int .i64 0, .int .i64 0, .int .i64 0, .int .i64 0, .int .i64 0, .int .i64 0, .int .i64 0, .int .i8 0, .int .i64 0, .int .u8 0, .int .u8 0, .int .u8 0, .int .u8 0, .int .u8 0, .int .u8 0, .int .u8 0, .int .u8 0, .int .i64 0, .bool false, .int .i64 0, .int .i64 0, .slice none 0 0]) S M 1 rfl rfl (by kernel_rfl) rfl (by decide) rfl rfl rfl ((Rd.nil 0 0 _ 37)) (rfl) (by omega) (by unfold maxLen; omega) ?_; intro a w3 vA loA hiA S M
 simp only [List.nil_append, Nat.zero_add] at M S
 obtain ⟨sa, sc, rfl, -, -⟩ := (M.readAll 0 rfl (by unfold maxLen; omega)).form
 refine qY S (y_fieldAddr (k := 0) S (by kernel_rfl) rfl) ?_; intro a S
 refine qS (sz := 1) (us := [_]) S M 3 ?_; intro w4 M
 refine nxA (qR [4, 4] S M ?_); intro a S
 refine st_append (e := 329) (sz := 5) (by_ := 40) (zc := [.int .i64 0, .int .i64 0, .int .i64 0, .int .i64 0, .int .i64 0]) S M 1 rfl rfl (by kernel_rfl) rfl (by decide) rfl rfl rfl ((Rd.nil 0 0 _ 5)) (rfl) (by omega) (by unfold maxLen; omega) ?_; intro a w5 vA loA hiA S M
 simp only [List.nil_append, Nat.zero_add] at M S
 obtain ⟨oa, oc, rfl, -, -⟩ := (M.readAll 0 rfl (by unfold maxLen; omega)).form
 refine qY S (y_fieldAddr (k := 3) S (by kernel_rfl) rfl) ?_; intro a S
 refine qS (sz := 1) (us := [_]) S M 3 ?_; intro w6 M
 refine nxC (wp_seq (nxD (qR [1, 4] S M ?_))); intro a S
 refine qY S (y_lenS (E := 326) S rfl (by kernel_rfl)) ?_; intro a S
 refine qG [1] S ?_; intro a S
 refine nxC (wp_block (wp_loop_g (fun m a w' => m = 0 ∧ ∃ (lo1 hi1 lo2 hi2 : Nat), Sees 26 a [(1, pB bB), (2, pB bR), (14, .int .i64 0), (15, .int .i64 0)] ∧ Mem w w' [rowE lo2 hi2 329 5 (.slice oa 0 oc) 0 [], rowE lo1 hi1 326 37 (.slice sa 0 sc) 0 [], .blk bR #[nS, .int .i64 0, .int .i64 0, nS] 89, .blk bB #[.slice sa 0 sc, .int .i64 la, .int .i64 inc, .slice oa 0 oc] 89]) (0) ?_ ?_))
 ·skip
  exact ⟨rfl, _, _, _, _, S.sub _ rfl, M⟩
 intro m a wl
 rintro ⟨rfl, lo1, hi1, lo2, hi2, S, M⟩
 refine nxD (qG [1] S ?_); intro a S
 refine nxC (wp_seq (st_if (t := 16) S rfl ?_ ?_))
 ·intro h16 S
  exfalso; omega
 intro h16 S
 refine st_condF S rfl (wp_exit (then_exit (then_exit (block_hit (nxE (qY S (y_loadAgg (cs := [_, _, _, _]) S (by kernel_rfl) rfl rfl (M.cellsAt (k := 4) 3 rfl rfl)) ?_)))))); intro a S
 refine qS (sz := 4) (us := [_, _, _, _]) S M 2 ?_; intro w7 M
 refine nxC (wp_ret (end_one S rfl (res_agg (cs := [_, _, _, _]) (by kernel_rfl) rfl rfl (M.cellsAt (k := 4) 2 rfl rfl)) ?_))
 skip
 replace M := M.drp 2
 replace M := M.drp 2
 replace M := M.frn 1
 exact ⟨sa, oa, sc, oc, _, _, _, _, rfl, M⟩
end Go.Proofs.YtkkcehcpffamkaaGreat

namespace Go.Proofs.YtkkcehcpffamkaaGreat
open Go.RowKit Go.Sort
abbrev opC (h c s i : Int) : List Value := [.int .i64 h, .int .i64 c, .int .i64 s, .int .i64 i, .int .i64 1, .int .i8 0, .int .i64 0, .int .i64 0, .int .i64 0, .int .i64 0, .int .i64 0, .int .i64 0, .int .i64 0, .int .i8 0, .int .i64 0, .int .i64 0, .int .i64 0, .int .i64 0, .int .i64 0, .int .i64 0, .int .i64 0, .int .i64 0, .int .i8 0, .int .i64 0, .int .u8 0, .int .u8 0, .int .u8 0, .int .u8 0, .int .u8 0, .int .u8 0, .int .u8 0, .int .u8 0, .int .i64 0, .bool false, .int .i64 0, .int .i64 0, nS]
abbrev ansC (c h s : Int) : List Value := [.int .i64 c, .int .i64 h, .int .i64 0, .int .u8 0, .int .u8 0, .int .u8 0, .int .u8 0, .int .u8 0, .int .u8 0, .int .u8 0, .int .u8 0, .int .i64 s, .int .i8 0]
abbrev seC (s i : Int) : List Value := [.int .i8 0, .int .i64 s, .int .i64 i, .int .i64 1, .int .i64 0, .int .u8 0, .int .u8 0, .int .u8 0, .int .u8 0, .int .u8 0, .int .u8 0, .int .u8 0, .int .u8 0, .int .i64 0]
abbrev dkC (l : Value) (la inc : Int) (ov an se : Value) (m : Su) : List Value := [l, .int .i64 la, .int .i64 inc, ov, nS, an, se, nS, nS, .int .i64 m.m0, .int .i64 m.m1, .int .i64 m.m2, .int .i64 m.m3, .int .i64 m.m4, .int .i64 m.m5, .int .i64 m.m6, .int .i64 m.m7]
theorem answer0_any {wc w : World} {H : List Ent} {b : Nat} (l : Value) (la inc : Int) (ov se : Value) (m : Su) (c h s : Int) (M : Mem wc w (.blk b (dkC l la inc ov nS se m).toArray 245 :: H)) :
 Calls Tryz.prog 178 #[pB b, .agg (ansC c h s).toArray] w fun e w' => e = .returned (.tuple #[]) ∧ ∃ aa ac lo hi, Mem wc w' (.blk b (dkC l la inc ov (.slice aa 1 ac) se m).toArray 245 :: rowE lo hi 81 13 (.slice aa 1 ac) 1 (ansC c h s) :: H) := by
 refine calls_enter Tryz.func178 rfl 16 rfl rfl ?_; intro a S
 refine wp_seq ?_
 replace M := M.rowNil 81 13
 refine wp_region_lit (st_box S M rfl rfl rfl #[_, _, _, _, _, _, _, _, _, _, _, _, _] rfl ?_); intro a w1 bX S M hB
 refine nxC (wp_regionK [8, 12] #[false, false, false, false, false, false, false, false, false, false, false, false, false] rfl M (by kernel_rfl) ?_); intro w2 M
 refine k_pure 0 S rfl (fun w => y_move S rfl) ?_; intro a S
 refine k_pure 1 S rfl (fun w => y_move S rfl) ?_; intro a S
 refine k_pure 2 S rfl (fun w => y_nilCheck S rfl) ?_; intro a S
 refine k_pure 3 S rfl (fun w => y_fieldAddr (k := 4) S (by kernel_rfl) rfl) ?_; intro a S
 refine k_pure 4 S rfl (fun w => y_fieldAddr (k := 1) S (by kernel_rfl) rfl) ?_; intro a S
 refine k_read 5 S rfl (fun w hW => have M := M.grow hW; y_load S (by kernel_rfl) rfl (M.cell 2 rfl rfl)) ?_; intro a S
 refine k_read 6 S rfl (fun w hW => have M := M.grow hW; y_loadAgg (cs := [_, _, _, _, _, _, _, _, _, _, _, _, _]) S (by kernel_rfl) rfl rfl (M.cellsAt (k := 13) 0 rfl rfl)) ?_; intro a S
 refine k_one 7 rfl (by kernel_rfl) ?_
 refine st_lit (ps := [(0, .tmp 10)]) (e := 81) (sz := 13) (zl := [.int .i64 0, .int .i64 0, .int .i64 0, .int .u8 0, .int .u8 0, .int .u8 0, .int .u8 0, .int .u8 0, .int .u8 0, .int .u8 0, .int .u8 0, .int .i64 0, .int .i8 0]) (cs := [_, _, _, _, _, _, _, _, _, _, _, _, _]) S M rfl rfl (by kernel_rfl) rfl (rfl) ?_; intro a w3 bZ S M hB
 refine nxC ⟨fun _ => hB, ?_⟩
 refine k_one 8 rfl (by kernel_rfl) ?_
 refine st_append (e := 81) (sz := 13) (by_ := 48) (zc := [.int .i64 0, .int .i64 0, .int .i64 0, .int .u8 0, .int .u8 0, .int .u8 0, .int .u8 0, .int .u8 0, .int .u8 0, .int .u8 0, .int .u8 0, .int .i64 0, .int .i8 0]) S M 2 rfl rfl (by kernel_rfl) rfl (by decide) rfl rfl rfl (show Rd _ _ _ 13 _ 1 (ansC c h s) from M.sliceAt 0 rfl (M.cellsAt (k := 13) 0 rfl rfl) rfl (Nat.le_refl _) (by unfold maxLen; omega)) (rfl) (by omega) (by unfold maxLen; omega) ?_; intro a w4 vA loA hiA S M
 refine nxC ⟨fun h => absurd h (by decide), ?_⟩
 refine k_pure 9 S rfl (fun w => y_nilCheck S rfl) ?_; intro a S
 refine k_pure 10 S rfl (fun w => y_fieldAddr (k := 4) S (by kernel_rfl) rfl) ?_; intro a S
 refine k_pure 11 S rfl (fun w => y_fieldAddr (k := 1) S (by kernel_rfl) rfl) ?_; intro a S
 refine k_one 12 rfl (by kernel_rfl) ?_
 obtain ⟨aA, cA, rfl, -, -⟩ := (M.readAll 0 rfl (by unfold maxLen; omega)).form
 refine qS (sz := 1) (us := [_]) S M 3 ?_; intro w5 M
 refine nxC ⟨fun h => absurd h (by decide), ?_⟩
 refine k_end (by kernel_rfl) ?_
 refine end_noneN S rfl ?_
 skip
 replace M := M.drp 1
 replace M := M.drp 1
 replace M := M.frn 1
 exact ⟨rfl, aA, cA, loA, hiA, M⟩
theorem seen0_any {wc w : World} {H : List Ent} {b : Nat} (l : Value) (la inc : Int) (ov an : Value) (m : Su) (s i : Int) (M : Mem wc w (.blk b (dkC l la inc ov an nS m).toArray 245 :: H)) :
 Calls Tryz.prog 179 #[pB b, .agg (seC s i).toArray] w fun e w' => e = .returned (.tuple #[]) ∧ ∃ aa ac lo hi, Mem wc w' (.blk b (dkC l la inc ov an (.slice aa 1 ac) m).toArray 245 :: rowE lo hi 118 14 (.slice aa 1 ac) 1 (seC s i) :: H) := by
 refine calls_enter Tryz.func179 rfl 16 rfl rfl ?_; intro a S
 refine wp_seq ?_
 replace M := M.rowNil 118 14
 refine wp_region_lit (st_box S M rfl rfl rfl #[_, _, _, _, _, _, _, _, _, _, _, _, _, _] rfl ?_); intro a w1 bX S M hB
 refine nxC (wp_regionK [8, 12] #[false, false, false, false, false, false, false, false, false, false, false, false, false] rfl M (by kernel_rfl) ?_); intro w2 M
 refine k_pure 0 S rfl (fun w => y_move S rfl) ?_; intro a S
 refine k_pure 1 S rfl (fun w => y_move S rfl) ?_; intro a S
 refine k_pure 2 S rfl (fun w => y_nilCheck S rfl) ?_; intro a S
 refine k_pure 3 S rfl (fun w => y_fieldAddr (k := 4) S (by kernel_rfl) rfl) ?_; intro a S
 refine k_pure 4 S rfl (fun w => y_fieldAddr (k := 2) S (by kernel_rfl) rfl) ?_; intro a S
 refine k_read 5 S rfl (fun w hW => have M := M.grow hW; y_load S (by kernel_rfl) rfl (M.cell 2 rfl rfl)) ?_; intro a S
 refine k_read 6 S rfl (fun w hW => have M := M.grow hW; y_loadAgg (cs := [_, _, _, _, _, _, _, _, _, _, _, _, _, _]) S (by kernel_rfl) rfl rfl (M.cellsAt (k := 14) 0 rfl rfl)) ?_; intro a S
 refine k_one 7 rfl (by kernel_rfl) ?_
 refine st_lit (ps := [(0, .tmp 10)]) (e := 118) (sz := 14) (zl := [.int .i8 0, .int .i64 0, .int .i64 0, .int .i64 0, .int .i64 0, .int .u8 0, .int .u8 0, .int .u8 0, .int .u8 0, .int .u8 0, .int .u8 0, .int .u8 0, .int .u8 0, .int .i64 0]) (cs := [_, _, _, _, _, _, _, _, _, _, _, _, _, _]) S M rfl rfl (by kernel_rfl) rfl (rfl) ?_; intro a w3 bZ S M hB
 refine nxC ⟨fun _ => hB, ?_⟩
 refine k_one 8 rfl (by kernel_rfl) ?_
 refine st_append (e := 118) (sz := 14) (by_ := 56) (zc := [.int .i8 0, .int .i64 0, .int .i64 0, .int .i64 0, .int .i64 0, .int .u8 0, .int .u8 0, .int .u8 0, .int .u8 0, .int .u8 0, .int .u8 0, .int .u8 0, .int .u8 0, .int .i64 0]) S M 2 rfl rfl (by kernel_rfl) rfl (by decide) rfl rfl rfl (show Rd _ _ _ 14 _ 1 (seC s i) from M.sliceAt 0 rfl (M.cellsAt (k := 14) 0 rfl rfl) rfl (Nat.le_refl _) (by unfold maxLen; omega)) (rfl) (by omega) (by unfold maxLen; omega) ?_; intro a w4 vA loA hiA S M
 refine nxC ⟨fun h => absurd h (by decide), ?_⟩
 refine k_pure 9 S rfl (fun w => y_nilCheck S rfl) ?_; intro a S
 refine k_pure 10 S rfl (fun w => y_fieldAddr (k := 4) S (by kernel_rfl) rfl) ?_; intro a S
 refine k_pure 11 S rfl (fun w => y_fieldAddr (k := 2) S (by kernel_rfl) rfl) ?_; intro a S
 refine k_one 12 rfl (by kernel_rfl) ?_
 obtain ⟨aA, cA, rfl, -, -⟩ := (M.readAll 0 rfl (by unfold maxLen; omega)).form
 refine qS (sz := 1) (us := [_]) S M 3 ?_; intro w5 M
 refine nxC ⟨fun h => absurd h (by decide), ?_⟩
 refine k_end (by kernel_rfl) ?_
 refine end_noneN S rfl ?_
 skip
 replace M := M.drp 1
 replace M := M.drp 1
 replace M := M.frn 1
 exact ⟨rfl, aA, cA, loA, hiA, M⟩
theorem find0K_any (va : Option Addr) (vc : Nat) (f : Value) (w : World) : Calls Tryz.prog 182 #[.slice va 0 vc, f] w fun e w' => e = .returned (.int .i64 (-1)) ∧ Below w.heap.size w w' := by
 have M := Mem.start w
 refine calls_enter Tryz.func182 rfl 19 rfl rfl ?_; intro a S
 refine nxD (qG [1] S ?_); intro a S
 refine nxC (wp_seq (nxD (qG [1] S ?_))); intro a S
 refine qY S (y_lenS (E := 326) S rfl (by kernel_rfl)) ?_; intro a S
 refine qG [1] S ?_; intro a S
 refine nxC (wp_block (wp_loop_g (fun m a w' => m = 0 ∧ Sees 19 a [(7, .slice va 0 vc), (8, .int .i64 0), (9, .int .i64 0)] ∧ Mem w w' []) (0) ?_ ?_))
 ·skip
  exact ⟨rfl, S.sub _ rfl, M⟩
 intro m a wl
 rintro ⟨rfl, S, M⟩
 refine nxD (qG [1] S ?_); intro a S
 refine nxC (wp_seq (st_if (t := 10) S rfl ?_ ?_))
 ·intro h10 S
  exfalso; omega
 intro h10 S
 refine st_condF S rfl (wp_exit (then_exit (then_exit (block_hit (nxE (qG [1] S ?_)))))); intro a S
 refine nxC (wp_ret (end_one S rfl (res_tmp rfl) ?_))
 exact ⟨rfl, M.below⟩
set_option maxHeartbeats 1000000 in
theorem name0_any {wc w : World} {H : List Ent} {b : Nat} (sa : Option Addr) (sc : Nat) (la inc : Int) (ov an se : Value) (m : Su) (c st : Int) (hc : 1 ≤ c ∧ c ≤ 1048576) (hst : st ≠ 0) (hl : la < 1099511627776) (M : Mem wc w (.blk b (dkC (.slice sa 0 sc) la inc ov an se m).toArray 245 :: H)) :
 Calls Tryz.prog 176 #[pB b, .agg (begC c).toArray, .int .i64 st] w fun e w' => e = .returned (.tuple #[.agg #[.int .i64 st, .int .i64 inc, .int .i64 1], .int .i64 0]) ∧ Mem wc w' (.blk b (dkC (.slice sa 0 sc) la inc ov an se m).toArray 245 :: H) := by
 refine calls_enter Tryz.func176 rfl 99 rfl rfl ?_; intro a S
 refine wp_seq ?_
 skip
 refine wp_region_lit (st_box S M rfl rfl rfl #[_, _, _, _, _, _] rfl ?_); intro a w1 bX S M hB
 refine st_alloc S M rfl rfl #[.int .i64 0, .int .i64 0, .int .i64 0] (by kernel_rfl) ?_; intro a w2 bR S M hB
 refine qG [1] S ?_; intro a S
 refine nxC (wp_seq (nxD (qR [2, 2] S M ?_))); intro a S
 refine qQ (xs := [.tmp 12]) S (qE Tryz.func115) rfl (clientK_any c hc _) M ?_; intro a w3 S hK M
 refine qG [1] S ?_; intro a S
 refine nxC (st_if (t := 14) S rfl ?_ ?_)
 ·intro h14 S
  cases h14
 intro h14 S
 refine st_condF S rfl (wp_skip (then_normal (wp_seq (nxD (qR [1, 1, 1, 1, 3] S M ?_))))); intro a S
 refine qY S (y_lenS (E := 326) S rfl (by kernel_rfl)) ?_; intro a S
 refine qG [1] S ?_; intro a S
 refine nxC (st_if (t := 22) S rfl ?_ ?_)
 ·intro h22 S
  exfalso; omega
 intro h22 S
 refine st_condF S rfl (wp_skip (then_normal (wp_seq (wp_regionK [9] #[false, false, false, false, false, false, false, false, false, false] rfl M (by kernel_rfl) ?_)))); intro w4 M
 refine k_pure 0 S rfl (fun w => y_fieldAddr (k := 5) S (by kernel_rfl) rfl) ?_; intro a S
 refine k_read 1 S rfl (fun w hW => have M := M.grow hW; y_load S (by kernel_rfl) rfl (M.cell 1 rfl rfl)) ?_; intro a S
 refine k_pure 2 S rfl (fun w => y_move S rfl) ?_; intro a S
 refine k_pure 3 S rfl (fun w => y_nilCheck S rfl) ?_; intro a S
 refine k_pure 4 S rfl (fun w => y_fieldAddr (k := 0) S (by kernel_rfl) rfl) ?_; intro a S
 refine k_pure 5 S rfl (fun w => y_fieldAddr (k := 2) S (by kernel_rfl) rfl) ?_; intro a S
 refine k_read 6 S rfl (fun w hW => have M := M.grow hW; y_load S (by kernel_rfl) rfl (M.cell 2 rfl rfl)) ?_; intro a S
 refine k_pure 7 S rfl (fun w => y_build (ps := [(0, .tmp 25), (1, .tmp 30)]) (pl := [(0, 1), (1, 1), (2, 1)]) (z := [.int .i64 0, .int .i64 0, .int .i64 0]) (cs := [_, _, _]) S (by kernel_rfl) rfl (rfl)) ?_; intro a S
 refine k_one 8 rfl (by kernel_rfl) ?_
 refine st_alloc S M rfl rfl #[.int .i64 0, .int .i64 0, .int .i64 0] (by kernel_rfl) ?_; intro a w5 bN S M hB
 refine nxC ⟨fun _ => hB, ?_⟩
 refine k_one 9 rfl (by kernel_rfl) ?_
 refine qS (sz := 3) (us := [_, _, _]) S M 0 ?_; intro w6 M
 refine nxC ⟨fun h => absurd h (by decide), ?_⟩
 refine k_end (by kernel_rfl) ?_
 replace S := S.keep [0, 1, 2, 4, 6, 7, 14, 22, 8]
 refine then_normal (wp_seq (nxD (qR [6, 3, 1] S M ?_))); intro a S
 refine nxC (st_fi (t := 34) S rfl ?_ ?_)
 ·intro h34 S
  exact absurd rfl h34
 intro h34 S
 refine st_condT S rfl (wp_seq (nxD (qG [1, 1] S ?_))); intro a S
 refine nxC (st_if (t := 36) S rfl ?_ ?_)
 ·intro h36 S
  exact absurd h36 hst
 intro h36 S
 refine st_condF S rfl (wp_skip (nxF (qG [1, 1] S ?_))); intro a S
 refine qS (sz := 1) (us := [_]) S M 0 ?_; intro w7 M
 refine nxC (wp_seq (nxD (qR [1, 1, 1, 1, 4] S M ?_))); intro a S
 refine qY S (y_makeFunc (fs := []) (cs := [.tmp 8]) S rfl rfl) ?_; intro a S
 refine qQ (xs := [.tmp 77, .tmp 78]) S (qE Tryz.func182) rfl (find0K_any _ _ _ _) M ?_; intro a w8 S hK M
 refine qG [1, 1] S ?_; intro a S
 refine st_if (t := 81) S rfl ?_ ?_
 ·intro h81 S
  exfalso; omega
 intro h81 S
 refine qR [3, 1, 1, 1] S M ?_; intro a S
 replace S := S.keep [0, 1, 2, 4, 6, 7, 14, 22, 8, 34, 36, 85]
 refine nxC (st_if (t := 85) S rfl ?_ ?_)
 ·intro h85 S
  exfalso; omega
 intro h85 S
 refine st_condF S rfl (wp_skip (then_normal (wp_seq (nxD (qR [1, 1, 1, 2, 4, 1] S M ?_))))); intro a S
 refine nxC (st_if (t := 92) S rfl ?_ ?_)
 ·intro h92 S
  exfalso; omega
 intro h92 S
 refine st_condF S rfl (wp_skip (nxE (qR [3, 1] S M ?_))); intro a S
 (first | refine qY S (y_addN S rfl rfl (by omega)) ?_ | refine qY S (y_int S rfl rfl rfl) ?_); intro a S
 refine qG [3] S ?_; intro a S
 refine qS (sz := 1) (us := [_]) S M 0 ?_; intro w9 M
 refine nxA (qY S (y_loadAgg (cs := [_, _, _]) S (by kernel_rfl) rfl rfl (M.cellsAt (k := 3) 0 rfl rfl)) ?_); intro a S
 refine qS (sz := 3) (us := [_, _, _]) S M 1 ?_; intro w10 M
 refine qG [1] S ?_; intro a S
 refine nxC (wp_ret (end_two S rfl (res_agg (cs := [_, _, _]) (by kernel_rfl) rfl rfl (M.cellsAt (k := 3) 1 rfl rfl)) (res_tmp rfl) ?_))
 skip
 replace M := M.drp 0
 replace M := M.drp 0
 replace M := M.drp 0
 exact ⟨rfl, M⟩
end Go.Proofs.YtkkcehcpffamkaaGreat

namespace Go.Proofs.YtkkcehcpffamkaaGreat
open Go.RowKit Go.Sort
def BegE (b : Nat) (la inc : Int) (ov : Value) (m : Su) (c st : Int) (E : List Ent) : Prop := ∃ (sa aa ha : Option Addr) (sc ac hc lo1 hi1 lo2 hi2 lo3 hi3 : Nat), E = [.blk b (dkC (.slice sa 1 sc) (la + 1) inc ov (.slice aa 1 ac) (.slice ha 1 hc) m).toArray 245, rowE lo1 hi1 326 37 (.slice sa 1 sc) 1 (opC (la + 1) c st inc), rowE lo2 hi2 81 13 (.slice aa 1 ac) 1 (ansC c (la + 1) st), rowE lo3 hi3 118 14 (.slice ha 1 hc) 1 (seC st inc)]
set_option maxHeartbeats 2000000 in
theorem begin0_any {wc w : World} {H : List Ent} {b lo hi : Nat} (sa : Option Addr) (sc : Nat) (la inc : Int) (ov : Value) (m : Su) (c st : Int) (hc : 1 ≤ c ∧ c ≤ 1048576) (hst : st ≠ 0) (hl : 0 ≤ la ∧ la < 1099511627776)
 (M : Mem wc w (.blk b (dkC (.slice sa 0 sc) la inc ov nS nS m).toArray 245 :: rowE lo hi 326 37 (.slice sa 0 sc) 0 [] :: H)) :
 Calls Tryz.prog 120 #[pB b, .agg (begC c).toArray, .int .i64 st] w fun e w' => e = .returned (.tuple #[]) ∧ ∃ E, BegE b la inc ov m c st E ∧ Mem wc w' (E ++ H) := by
 refine calls_enter Tryz.func120 rfl 69 rfl rfl ?_; intro a S
 refine wp_seq ?_
 skip
 refine wp_region_lit (st_box S M rfl rfl rfl #[_, _, _, _, _, _] rfl ?_); intro a w1 bX S M hB
 refine nxA (qG [1] S ?_); intro a S
 refine qY S (y_loadAgg (cs := [_, _, _, _, _, _]) S (by kernel_rfl) rfl rfl (M.cellsAt (k := 6) 0 rfl rfl)) ?_; intro a S
 refine qG [1] S ?_; intro a S
 skip
 replace M := M.frn 1
 refine qC (xs := [.tmp 9, .tmp 10, .tmp 11]) S (qE Tryz.func176) rfl (name0_any sa sc la inc ov nS nS m c st hc hst hl.2 M) ?_
 rintro _ w2 ⟨rfl, M1⟩; refine ⟨_, rfl, ?_⟩; intro a S; have M := M1; clear M1
 refine qG [1, 1, 1] S ?_; intro a S
 refine st_alloc S M rfl rfl #[.int .i64 0, .int .i64 0, .int .i64 0] (by kernel_rfl) ?_; intro a w3 bN S M hB
 refine qS (sz := 3) (us := [_, _, _]) S M 0 ?_; intro w4 M
 refine qG [1] S ?_; intro a S
 refine nxC (wp_seq (nxD (qG [1, 1] S ?_))); intro a S
 refine nxC (st_if (t := 16) S rfl ?_ ?_)
 ·intro h16 S
  exact absurd rfl h16
 intro h16 S
 refine st_condF S rfl (wp_skip (nxE (qR [1, 1, 1, 2, 2] S M ?_))); intro a S
 (first | refine qY S (y_addN S rfl rfl (by omega)) ?_ | refine qY S (y_int S rfl rfl rfl) ?_); intro a S
 refine qG [1, 1, 2] S ?_; intro a S
 refine qS (sz := 1) (us := [_]) S M 1 ?_; intro w5 M
 replace S := S.keep [0, 1, 2, 4, 6, 7, 16]
 refine nxC (wp_seq (wp_regionK [16, 20] #[false, false, false, false, false, false, false, false, false, false, false, false, false, false, false, false, false, false, false, false, false] rfl M (by kernel_rfl) ?_)); intro w6 M
 refine k_pure 0 S rfl (fun w => y_move S rfl) ?_; intro a S
 refine k_pure 1 S rfl (fun w => y_move S rfl) ?_; intro a S
 refine k_pure 2 S rfl (fun w => y_nilCheck S rfl) ?_; intro a S
 refine k_pure 3 S rfl (fun w => y_fieldAddr (k := 0) S (by kernel_rfl) rfl) ?_; intro a S
 refine k_pure 4 S rfl (fun w => y_fieldAddr (k := 0) S (by kernel_rfl) rfl) ?_; intro a S
 refine k_read 5 S rfl (fun w hW => have M := M.grow hW; y_load S (by kernel_rfl) rfl (M.cell 1 rfl rfl)) ?_; intro a S
 refine k_pure 6 S rfl (fun w => y_move S rfl) ?_; intro a S
 refine k_pure 7 S rfl (fun w => y_nilCheck S rfl) ?_; intro a S
 refine k_pure 8 S rfl (fun w => y_fieldAddr (k := 0) S (by kernel_rfl) rfl) ?_; intro a S
 refine k_pure 9 S rfl (fun w => y_fieldAddr (k := 1) S (by kernel_rfl) rfl) ?_; intro a S
 refine k_read 10 S rfl (fun w hW => have M := M.grow hW; y_load S (by kernel_rfl) rfl (M.cell 1 rfl rfl)) ?_; intro a S
 refine k_pure 11 S rfl (fun w => y_fieldAddr (k := 1) S (by kernel_rfl) rfl) ?_; intro a S
 refine k_read 12 S rfl (fun w hW => have M := M.grow hW; y_load S (by kernel_rfl) rfl (M.cell 2 rfl rfl)) ?_; intro a S
 refine k_read 13 S rfl (fun w hW => have M := M.grow hW; y_loadAgg (cs := [_, _, _]) S (by kernel_rfl) rfl rfl (M.cellsAt (k := 3) 0 rfl rfl)) ?_; intro a S
 refine k_pure 14 S rfl (fun w => y_build (ps := [(0, .tmp 41), (1, .tmp 43), (2, .tmp 44)]) (pl := [(0, 1), (1, 1), (2, 3), (5, 1), (6, 1), (7, 5), (12, 1), (13, 24)]) (z := [.int .i64 0, .int .i64 0, .int .i64 0, .int .i64 0, .int .i64 0, .int .i8 0, .int .i64 0, .int .i64 0, .int .i64 0, .int .i64 0, .int .i64 0, .int .i64 0, .int .i64 0, .int .i8 0, .int .i64 0, .int .i64 0, .int .i64 0, .int .i64 0, .int .i64 0, .int .i64 0, .int .i64 0, .int .i64 0, .int .i8 0, .int .i64 0, .int .u8 0, .int .u8 0, .int .u8 0, .int .u8 0, .int .u8 0, .int .u8 0, .int .u8 0, .int .u8 0, .int .i64 0, .bool false, .int .i64 0, .int .i64 0, .slice none 0 0]) (cs := opC (la + 1) c st inc) S (by kernel_rfl) rfl (by kernel_rfl)) ?_; intro a S
 refine k_one 15 rfl (by kernel_rfl) ?_
 refine st_lit (ps := [(0, .tmp 45)]) (e := 326) (sz := 37) (zl := [.int .i64 0, .int .i64 0, .int .i64 0, .int .i64 0, .int .i64 0, .int .i8 0, .int .i64 0, .int .i64 0, .int .i64 0, .int .i64 0, .int .i64 0, .int .i64 0, .int .i64 0, .int .i8 0, .int .i64 0, .int .i64 0, .int .i64 0, .int .i64 0, .int .i64 0, .int .i64 0, .int .i64 0, .int .i64 0, .int .i8 0, .int .i64 0, .int .u8 0, .int .u8 0, .int .u8 0, .int .u8 0, .int .u8 0, .int .u8 0, .int .u8 0, .int .u8 0, .int .i64 0, .bool false, .int .i64 0, .int .i64 0, .slice none 0 0]) (cs := opC (la + 1) c st inc) S M rfl rfl (by kernel_rfl) rfl (by kernel_rfl) ?_; intro a w7 bZ S M hB
 refine nxC ⟨fun _ => hB, ?_⟩
 refine k_one 16 rfl (by kernel_rfl) ?_
 refine st_append (e := 326) (sz := 37) (by_ := 256) (zc := [.int .i64 0, .int .i64 0, .int .i64 0, .int .i64 0, .int .i64 0, .int .i8 0, .int .i64 0, .int .i64 0, .int .i64 0, .int .i64 0, .int .i64 0, .int .i64 0, .int .i64 0, .int .i8 0, .int .i64 0, .int .i64 0, .int .i64 0, .int .i64 0, .int .i64 0, .int .i64 0, .int .i64 0, .int .i64 0, .int .i8 0, .int .i64 0, .int .u8 0, .int .u8 0, .int .u8 0, .int .u8 0, .int .u8 0, .int .u8 0, .int .u8 0, .int .u8 0, .int .i64 0, .bool false, .int .i64 0, .int .i64 0, .slice none 0 0]) S M 4 rfl rfl (by kernel_rfl) rfl (by decide) rfl rfl rfl (show Rd _ _ _ 37 _ 1 (opC (la + 1) c st inc) from M.sliceAt 0 rfl (M.cellsAt (k := 37) 0 rfl rfl) rfl (Nat.le_refl _) (by unfold maxLen; omega)) (rfl) (by omega) (by unfold maxLen; omega) ?_; intro a w8 vA loA hiA S M
 refine nxC ⟨fun h => absurd h (by decide), ?_⟩
 refine k_pure 17 S rfl (fun w => y_nilCheck S rfl) ?_; intro a S
 refine k_pure 18 S rfl (fun w => y_fieldAddr (k := 0) S (by kernel_rfl) rfl) ?_; intro a S
 refine k_pure 19 S rfl (fun w => y_fieldAddr (k := 0) S (by kernel_rfl) rfl) ?_; intro a S
 refine k_one 20 rfl (by kernel_rfl) ?_
 obtain ⟨aL, cL, rfl, -, -⟩ := (M.readAll 0 rfl (by unfold maxLen; omega)).form
 refine qS (sz := 1) (us := [_]) S M 3 ?_; intro w9 M
 refine nxC ⟨fun h => absurd h (by decide), ?_⟩
 refine k_end (by kernel_rfl) ?_
 replace S := S.keep [0, 1, 2, 4, 6, 7, 16]
 refine then_normal (wp_seq ?_)
 skip
 replace M := M.drp 1
 replace M := M.frn 2
 refine wp_regionK [13] #[false, false, false, false, false, false, false, false, false, false, false, false, false, false] rfl M (by kernel_rfl) ?_; intro w10 M
 refine k_pure 0 S rfl (fun w => y_move S rfl) ?_; intro a S
 refine k_pure 1 S rfl (fun w => y_fieldAddr (k := 1) S (by kernel_rfl) rfl) ?_; intro a S
 refine k_read 2 S rfl (fun w hW => have M := M.grow hW; y_load S (by kernel_rfl) rfl (M.cell 3 rfl rfl)) ?_; intro a S
 refine k_pure 3 S rfl (fun w => y_move S rfl) ?_; intro a S
 refine k_pure 4 S rfl (fun w => y_nilCheck S rfl) ?_; intro a S
 refine k_pure 5 S rfl (fun w => y_fieldAddr (k := 0) S (by kernel_rfl) rfl) ?_; intro a S
 refine k_pure 6 S rfl (fun w => y_fieldAddr (k := 1) S (by kernel_rfl) rfl) ?_; intro a S
 refine k_read 7 S rfl (fun w hW => have M := M.grow hW; y_load S (by kernel_rfl) rfl (M.cell 0 rfl rfl)) ?_; intro a S
 refine k_pure 8 S rfl (fun w => y_fieldAddr (k := 0) S (by kernel_rfl) rfl) ?_; intro a S
 refine k_read 9 S rfl (fun w hW => have M := M.grow hW; y_load S (by kernel_rfl) rfl (M.cell 2 rfl rfl)) ?_; intro a S
 refine k_pure 10 S rfl (fun w => y_fieldAddr (k := 0) S (by kernel_rfl) rfl) ?_; intro a S
 refine k_read 11 S rfl (fun w hW => have M := M.grow hW; y_load S (by kernel_rfl) rfl (M.cell 3 rfl rfl)) ?_; intro a S
 refine k_pure 12 S rfl (fun w => y_build (ps := [(0, .tmp 53), (1, .tmp 58), (4, .tmp 60), (5, .tmp 62)]) (pl := [(0, 1), (1, 1), (2, 1), (3, 8), (11, 1), (12, 1)]) (z := [.int .i64 0, .int .i64 0, .int .i64 0, .int .u8 0, .int .u8 0, .int .u8 0, .int .u8 0, .int .u8 0, .int .u8 0, .int .u8 0, .int .u8 0, .int .i64 0, .int .i8 0]) (cs := [_, _, _, _, _, _, _, _, _, _, _, _, _]) S (by kernel_rfl) rfl (rfl)) ?_; intro a S
 refine k_one 13 rfl (by kernel_rfl) ?_
 skip
 refine qC (xs := [.tmp 51, .tmp 63]) S (qE Tryz.func178) rfl (answer0_any (.slice aL 1 cL) (la + 1) inc ov nS m c (la + 1) st M) ?_
 rintro _ w11 ⟨rfl, aa, ac, lo2, hi2, M1⟩; refine ⟨_, rfl, ?_⟩; intro a S; have M := M1; clear M1
 refine nxC ⟨fun h => absurd h (by decide), ?_⟩
 refine k_end (by kernel_rfl) ?_
 replace S := S.keep [0, 1, 2, 4, 6, 7, 16]
 refine nxF (qG [1] S ?_); intro a S
 refine qY S (y_loadAgg (cs := [_, _, _]) S (by kernel_rfl) rfl rfl (M.cellsAt (k := 3) 3 rfl rfl)) ?_; intro a S
 refine qY S (y_build (ps := [(0, .const (.int .i8 0)), (1, .tmp 66)]) (pl := [(0, 1), (1, 3), (4, 1), (5, 8), (13, 1)]) (z := [.int .i8 0, .int .i64 0, .int .i64 0, .int .i64 0, .int .i64 0, .int .u8 0, .int .u8 0, .int .u8 0, .int .u8 0, .int .u8 0, .int .u8 0, .int .u8 0, .int .u8 0, .int .i64 0]) (cs := seC st inc) S (by kernel_rfl) rfl (by kernel_rfl)) ?_; intro a S
 skip
 refine qC (xs := [.tmp 65, .tmp 67]) S (qE Tryz.func179) rfl (seen0_any (.slice aL 1 cL) (la + 1) inc ov (.slice aa 1 ac) m st inc M) ?_
 rintro _ w12 ⟨rfl, ha, hc9, lo3, hi3, M1⟩; refine ⟨_, rfl, ?_⟩; intro a S; have M := M1; clear M1
 refine wpList_nil (end_noneN S rfl ?_)
 skip
 replace M := M.drp 4
 replace M := M.drp 4
 replace M := M.ord [1, 2, 3, 3] (by simp only [ordO, oG, oS, oE, oZ, oB] <;> rfl)
 exact ⟨rfl, _, ⟨aL, aa, ha, cL, ac, hc9, _, _, lo2, hi2, lo3, hi3, rfl⟩, M⟩
set_option maxHeartbeats 2000000 in
theorem call0_any {wc w : World} {A : List Ent} (la inc : Int) (m : Su) (c st : Int) (hi : 1 ≤ inc ∧ inc ≤ 1048576) (hl : 0 ≤ la ∧ la < 1099511627776) (hc : 1 ≤ c ∧ c ≤ 1048576) (hst : 1 ≤ st ∧ st ≤ 1048576) (M : Mem wc w A) :
 Calls Tryz.prog 81 #[.agg #[nS, .int .i64 la, .int .i64 inc, nS], .agg (begC c).toArray, .agg (mapL m).toArray, .int .i64 st] w fun e w' => ∃ (sa oa aa ha : Option Addr) (sc oc ac hc lo1 hi1 lo2 hi2 lo3 hi3 : Nat), e = .returned (.tuple #[.agg #[.slice sa 1 sc, .int .i64 (la + 1), .int .i64 inc, .slice oa 0 oc], .agg #[nS, .slice aa 1 ac, .slice ha 1 hc, nS, nS], .int .i64 0]) ∧
  Mem wc w' (rowE lo1 hi1 326 37 (.slice sa 1 sc) 1 (opC (la + 1) c st inc) :: rowE lo2 hi2 81 13 (.slice aa 1 ac) 1 (ansC c (la + 1) st) :: rowE lo3 hi3 118 14 (.slice ha 1 hc) 1 (seC st inc) :: A) := by
 refine calls_enter Tryz.func81 rfl 67 rfl rfl ?_; intro a S
 refine nxD (st_box S M rfl rfl rfl #[_, _, _, _] rfl ?_); intro a w1 bS0 S M hB
 refine st_box S M rfl rfl rfl #[_, _, _, _, _, _] rfl ?_; intro a w2 bC0 S M hB
 refine st_box S M rfl rfl rfl #[_, _, _, _, _, _, _, _] rfl ?_; intro a w3 bF0 S M hB
 refine st_alloc S M rfl rfl #[.slice none 0 0, .int .i64 0, .int .i64 0, .slice none 0 0] (by kernel_rfl) ?_; intro a w4 bR0 S M hB
 refine st_alloc S M rfl rfl #[.slice none 0 0, .slice none 0 0, .slice none 0 0, .slice none 0 0, .slice none 0 0] (by kernel_rfl) ?_; intro a w5 bT0 S M hB
 refine qG [1] S ?_; intro a S
 refine nxC (wp_seq (nxD (qY S (y_loadAgg (cs := [_, _, _, _]) S (by kernel_rfl) rfl rfl (M.cellsAt (k := 4) 4 rfl rfl)) ?_))); intro a S
 refine qQ (xs := [.tmp 13]) S (qE Tryz.func114) rfl (check0_any la inc hi (by omega) _) M ?_; intro a w6 S hK M
 refine qG [1, 1] S ?_; intro a S
 refine st_if (t := 16) S rfl ?_ ?_
 ·intro h16 S
  exact absurd rfl h16
 intro h16 S
 refine qR [1, 4, 1, 1, 1] S M ?_; intro a S
 refine st_if (t := 21) S rfl ?_ ?_
 ·intro h21 S
  exact absurd h21 (by decide)
 intro h21 S
 refine qR [1, 4, 1, 1, 1] S M ?_; intro a S
 refine st_if (t := 26) S rfl ?_ ?_
 ·intro h26 S
  exact absurd h26 (by decide)
 intro h26 S
 refine qG [1, 1, 1, 1] S ?_; intro a S
 refine st_if (t := 30) S rfl ?_ ?_
 ·intro h30 S
  exfalso; omega
 intro h30 S
 refine qG [1, 1, 1] S ?_; intro a S
 replace S := S.keep [0, 1, 2, 3, 4, 5, 6, 8, 9, 10, 33]
 refine nxC (st_if (t := 33) S rfl ?_ ?_)
 ·intro h33 S
  exfalso; omega
 intro h33 S
 refine st_condF S rfl (wp_skip (then_normal (wp_seq (wp_regionKC (C := fun W => CellsAt W bF0 0 (mapL m)) [1] #[false, false, false, false, false, false] rfl M (by kernel_rfl) ?_)))); intro w7 M; have hC := M.cellsAt (o := 0) (k := 8) 2 rfl rfl
 refine kc_read 0 S rfl hC (fun w hW => have M := M.grow hW; y_loadAgg (cs := [_, _, _, _]) S (by kernel_rfl) rfl rfl (M.cellsAt (k := 4) 4 rfl rfl)) ?_; intro a S
 refine kc_readC 2 S rfl hC (fun w hC => y_loadAgg (cs := [_, _, _, _, _, _, _, _]) S (by kernel_rfl) rfl rfl (hC)) ?_; intro a S
 refine kc_one 1 rfl (by kernel_rfl) ?_
 refine qC (xs := [.tmp 36]) S (qE Tryz.func119) rfl (copied0_any la inc _) ?_
 rintro _ w8 ⟨sa, oa, sc, oc, lo1, hi1, lo2, hi2, rfl, M1⟩; refine ⟨_, rfl, ?_⟩; intro a S
 replace M := M.join M1
 clear M1
 simp only [List.cons_append, List.nil_append] at M
 replace hC := M.cellsAt (o := 0) (k := 8) 4 rfl rfl
 refine nxC ⟨fun h => absurd h (by decide), hC, ?_⟩
 refine kc_readC 3 S rfl hC (fun w _ => y_build (ps := [(0, .tmp 37), (2, .tmp 38)]) (pl := [(0, 4), (4, 5), (9, 8)]) (z := [.slice none 0 0, .int .i64 0, .int .i64 0, .slice none 0 0, .slice none 0 0, .slice none 0 0, .slice none 0 0, .slice none 0 0, .slice none 0 0, .int .i64 0, .int .i64 0, .int .i64 0, .int .i64 0, .int .i64 0, .int .i64 0, .int .i64 0, .int .i64 0]) (cs := [_, _, _, _, _, _, _, _, _, _, _, _, _, _, _, _, _]) S (by kernel_rfl) rfl (rfl)) ?_; intro a S
 refine kc_one 4 rfl (by kernel_rfl) ?_
 refine st_box S M rfl rfl rfl #[_, _, _, _, _, _, _, _, _, _, _, _, _, _, _, _, _] rfl ?_; intro a w9 bB S M hB
 replace hC := M.cellsAt (o := 0) (k := 8) 5 rfl rfl
 refine nxC ⟨fun _ => hB, hC, ?_⟩
 refine kc_readC 5 S rfl hC (fun w _ => y_assign S rfl) ?_; intro a S
 refine kc_end (by kernel_rfl) ?_
 refine nxE (qG [1] S ?_); intro a S
 refine qY S (y_makeFunc (fs := [.tmp 41]) (cs := []) S rfl rfl) ?_; intro a S
 refine qG [1] S ?_; intro a S
 refine qY S (y_makeFunc (fs := [.tmp 43]) (cs := []) S rfl rfl) ?_; intro a S
 refine qG [1] S ?_; intro a S
 refine qY S (y_makeFunc (fs := [.tmp 45]) (cs := []) S rfl rfl) ?_; intro a S
 refine qG [1] S ?_; intro a S
 refine qY S (y_makeFunc (fs := [.tmp 47]) (cs := []) S rfl rfl) ?_; intro a S
 refine qG [1] S ?_; intro a S
 refine qY S (y_makeFunc (fs := [.tmp 49]) (cs := []) S rfl rfl) ?_; intro a S
 refine qY S (y_buildA (ps := [(0, .tmp 42), (1, .tmp 44), (2, .tmp 46), (3, .tmp 48), (4, .tmp 50)]) (sz := 1) (z := [.nilFunc, .nilFunc, .nilFunc, .nilFunc, .nilFunc]) (cs := [_, _, _, _, _]) S (by kernel_rfl) rfl rfl) ?_; intro a S
 refine st_alloc S M rfl rfl #[.nilFunc, .nilFunc, .nilFunc, .nilFunc, .nilFunc] (by kernel_rfl) ?_; intro a w10 bK0 S M hB
 refine qS (sz := 5) (us := [_, _, _, _, _]) S M 0 ?_; intro w11 M
 replace S := S.keep [0, 1, 2, 3, 4, 5, 6, 8, 9, 10, 33, 11, 12]
 refine nxC (wp_seq ?_)
 skip
 replace M := M.ord [2, 2] (by simp only [ordO, oG, oS, oE, oZ, oB] <;> rfl)
 refine wp_regionK [6] #[false, false, false, false, false, false, false] rfl M (by kernel_rfl) ?_; intro w12 M
 refine k_pure 0 S rfl (fun w => y_fieldAddr (k := 0) S (by kernel_rfl) rfl) ?_; intro a S
 refine k_read 1 S rfl (fun w hW => have M := M.grow hW; y_load S (by kernel_rfl) rfl (M.cell 7 rfl rfl)) ?_; intro a S
 refine k_pure 2 S rfl (fun w => y_indexA (m := 5) (sz := 1) S (by kernel_rfl) rfl rfl (by first | omega | (simp; done) | (simp; omega))) ?_; intro a S
 try simp only [Int.toNat_natCast, Nat.mul_one, Nat.zero_add] at S
 refine k_read 3 S rfl (fun w hW => have M := M.grow hW; y_load S (by kernel_rfl) rfl (M.cell 2 rfl ((show _ = some (Value.func (.func 120) #[pB bB] #[]) from rfl)))) ?_; intro a S
 refine k_read 4 S rfl (fun w hW => have M := M.grow hW; y_loadAgg (cs := [_, _, _, _, _, _]) S (by kernel_rfl) rfl rfl (M.cellsAt (k := 6) 7 rfl rfl)) ?_; intro a S
 refine k_pure 5 S rfl (fun w => y_move S rfl) ?_; intro a S
 refine k_one 6 rfl (by kernel_rfl) ?_
 refine st_callB (xs := [.tmp 56, .tmp 57]) (fi := [pB bB]) (ca := []) S (enters_of Tryz.func120 (by decide) rfl) rfl rfl (rfl) rfl (begin0_any sa sc la inc (.slice oa 0 oc) m c st hc (by omega) hl M) ?_
 rintro _ w13 ⟨rfl, E, ⟨sa2, aa, ha, sc2, ac, hc2, lo4, hi4, lo5, hi5, lo6, hi6, rfl⟩, M1⟩; refine ⟨_, rfl, ?_⟩; intro a S; have M := M1; clear M1
 simp only [List.cons_append, List.nil_append] at M
 refine nxC ⟨fun h => absurd h (by decide), ?_⟩
 refine k_end (by kernel_rfl) ?_
 refine then_normal (wp_seq ?_)
 skip
 refine wp_regionKC (C := fun W => CellsAt W bB 4 [nS, .slice aa 1 ac, .slice ha 1 hc2, nS, nS]) [8, 9] #[false, false, false, false, false, false, false, false, false, false, false] rfl M (by kernel_rfl) ?_; intro w14 M; have hC := M.cellsAt (o := 4) (k := 5) 0 rfl rfl
 refine kc_readC 0 S rfl hC (fun w _ => y_move S rfl) ?_; intro a S
 refine kc_readC 1 S rfl hC (fun w _ => y_nilCheck S rfl) ?_; intro a S
 refine kc_readC 2 S rfl hC (fun w _ => y_fieldAddr (k := 0) S (by kernel_rfl) rfl) ?_; intro a S
 refine kc_read 3 S rfl hC (fun w hW => have M := M.grow hW; y_loadAgg (cs := [_, _, _, _]) S (by kernel_rfl) rfl rfl (M.cellsAt (k := 4) 0 rfl rfl)) ?_; intro a S
 refine kc_readC 4 S rfl hC (fun w _ => y_move S rfl) ?_; intro a S
 refine kc_readC 5 S rfl hC (fun w _ => y_nilCheck S rfl) ?_; intro a S
 refine kc_readC 6 S rfl hC (fun w _ => y_fieldAddr (k := 4) S (by kernel_rfl) rfl) ?_; intro a S
 refine kc_readC 7 S rfl hC (fun w hC => y_loadAgg (cs := [_, _, _, _, _]) S (by kernel_rfl) rfl rfl (hC)) ?_; intro a S
 refine kc_one 8 rfl (by kernel_rfl) ?_
 refine qS (sz := 4) (us := [_, _, _, _]) S M 7 ?_; intro w15 M
 replace hC := M.cellsAt (o := 4) (k := 5) 0 rfl rfl
 refine nxC ⟨fun h => absurd h (by decide), hC, ?_⟩
 refine kc_one 9 rfl (by kernel_rfl) ?_
 refine qS (sz := 5) (us := [_, _, _, _, _]) S M 6 ?_; intro w16 M
 replace hC := M.cellsAt (o := 4) (k := 5) 0 rfl rfl
 refine nxC ⟨fun h => absurd h (by decide), hC, ?_⟩
 refine kc_readC 10 S rfl hC (fun w _ => y_assign S rfl) ?_; intro a S
 refine kc_end (by kernel_rfl) ?_
 replace S := S.keep [0, 1, 2, 3, 4, 5, 6, 8, 9, 33, 11, 12, 10]
 refine then_normal (wp_ret (end_three S rfl (res_agg (cs := [_, _, _, _]) (by kernel_rfl) rfl rfl (M.cellsAt (k := 4) 7 rfl rfl)) (res_agg (cs := [_, _, _, _, _]) (by kernel_rfl) rfl rfl (M.cellsAt (k := 5) 6 rfl rfl)) (res_tmp rfl) ?_))
 skip
 replace M := M.drp 0
 replace M := M.drp 3
 replace M := M.drp 3
 replace M := M.drp 3
 replace M := M.drp 3
 replace M := M.drp 3
 replace M := M.drp 3
 replace M := M.drp 3
 exact ⟨sa2, oa, aa, ha, sc2, oc, ac, hc2, _, _, _, _, _, _, rfl, M⟩
end Go.Proofs.YtkkcehcpffamkaaGreat

