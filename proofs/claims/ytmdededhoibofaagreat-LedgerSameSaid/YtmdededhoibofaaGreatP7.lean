/-
  What LedgerSame rests on, part 7.
-/
import Derived.Test.YtmdededhoibofaaGreatP6
namespace Go.Proofs.YtmdededhoibofaaGreat
open Go.RowKit Go.Sort
theorem write_le {S0 : DS} (hw : ∀ k, (S0.cache k).length ≤ 1000) (k : Int) (bs : List UInt8) (j : Int) : ((S0.write k bs).cache j).length ≤ 1000000 := by have := write_cache_le (k := k) (bs := bs) hw j; omega
theorem super_any {wc w : World} {A E : List Ent} {b : Nat} {S0 : DS} (s : Su) (hE : DkE b S0 E) (M : Mem wc w (A ++ E)) (hup : S0.down = false) (hm : s.may) (hw : ∀ k, (S0.cache k).length ≤ 1000) :
    Calls Tryz.prog 32 #[.pointer (some ⟨b, 0, none⟩), .agg s.cellsL.toArray] w fun e w' => e = .returned (.int .i64 0) ∧ ∃ E', DkE b (S0.write (s.gen % 2) (supS s)).flush E' ∧ Mem wc w' (A ++ E') := by
  refine calls_enter Tryz.func32 rfl 14 rfl rfl ?_; intro a S
  refine nxD ?_
  refine st_box S M rfl rfl rfl #[_, _, _, _, _, _, _, _, _, _, _, _, _] rfl ?_; clear S M a; intro a w1 bB S M hB
  refine st_go [1] S rfl (by kernel_rfl) ?_; clear S a; intro a S
  refine nxC ?_
  refine wp_seq ?_
  refine nxD ?_
  refine st_go [1] S rfl (by kernel_rfl) ?_; clear S a; intro a S
  refine st_y S rfl rfl rfl (y_loadAgg (cs := [_, _, _, _, _, _, _, _, _, _, _, _, _]) S (by kernel_rfl) rfl rfl (M.cellsAt (k := 13) 0 rfl rfl)) ?_; clear S a; intro a S
  refine st_call (xs := [(Operand.tmp 6), (Operand.tmp 7)]) S (enters_of Tryz.func46 (by decide) rfl) rfl rfl rfl (putSuper_any (A := _ :: A) s hE M hup hm (fun k => by have := hw k; omega)) ?_
  rintro _ w2 ⟨rfl, E1, hE1, M1⟩; refine ⟨_, rfl, ?_⟩; clear S M a; intro a S; have M := M1; clear M1
  simp only [List.cons_append] at M
  refine st_go [1] S rfl (by kernel_rfl) ?_; clear S a; intro a S
  refine nxA ?_
  refine st_go [1, 1] S rfl (by kernel_rfl) ?_; clear S a; intro a S
  refine nxC ?_
  refine st_if (t := 10) S rfl ?_ ?_
  · clear S; intro h10 S
    exact absurd rfl h10
  clear S; intro h10 S
  refine st_condF S rfl ?_
  refine wp_skip ?_
  refine nxE ?_
  refine st_go [1] S rfl (by kernel_rfl) ?_; clear S a; intro a S
  refine st_call (xs := [(Operand.tmp 12)]) S (enters_of Tryz.func47 (by decide) rfl) rfl rfl rfl (flush_any (A := _ :: A) hE1 M hup (write_le hw _ _)) ?_
  rintro _ w3 ⟨rfl, E2, hE2, M1⟩; refine ⟨_, rfl, ?_⟩; clear S M a; intro a S; have M := M1; clear M1
  simp only [List.cons_append] at M
  refine st_go [1] S rfl (by kernel_rfl) ?_; clear S a; intro a S
  refine nxC ?_
  refine wp_ret ?_
  refine end_one S rfl (res_tmp rfl) ?_
  exact ⟨rfl, E2, hE2, M.drop 0⟩
theorem down_any {wc w : World} {A E : List Ent} {b : Nat} {S0 : DS} (hE : DkE b S0 E) (M : Mem wc w (A ++ E)) :
    Calls Tryz.prog 71 #[.pointer (some ⟨b, 0, none⟩)] w fun e w' => e = .returned (.bool S0.down) ∧ Mem wc w' (A ++ E) := by
  obtain ⟨D, rfl, O, rfl, rfl⟩ := hE
  replace M := M.perm List.perm_append_comm
  obtain ⟨dn, hd⟩ : ∃ dn, D.down = dn := ⟨_, rfl⟩
  show Calls Tryz.prog 71 _ w fun e w' => e = .returned (.bool D.down) ∧ _
  rw [hd]
  replace M : Mem wc w (.blk D.b (dcells D.dur D.m D.down).toArray 95 :: mapX D.m D.ml D.cl :: (secsE D.secs ++ A)) := M
  refine calls_enter Tryz.func71 rfl 11 rfl rfl ?_; intro a S
  refine wp_seq ?_
  skip
  refine wp_region_lit ?_
  refine st_go [1] S rfl (by kernel_rfl) ?_; clear S a; intro a S
  refine nxA ?_
  refine st_go [1] S rfl (by kernel_rfl) ?_; clear S a; intro a S
  refine st_y S rfl rfl rfl (y_eqlPS (by kernel_rfl) S rfl) ?_; clear S a; intro a S
  refine st_go [1, 1, 1, 2178] S rfl (by kernel_rfl) ?_; clear S a; intro a S
  refine st_y S rfl rfl rfl (y_load S (by kernel_rfl) rfl (M.cell 0 rfl ((dcells_down O.dur _ _).trans (by rw [hd])))) ?_; clear S a; intro a S
  refine st_go [1, 1] S rfl (by kernel_rfl) ?_; clear S a; intro a S
  refine nxC ?_
  refine wp_ret ?_
  refine end_one S rfl (res_tmp rfl) ?_
  exact ⟨rfl, Mem.perm (H := Dk.ents D ++ A) M List.perm_append_comm⟩
set_option maxHeartbeats 1000000 in
theorem format_any {wc w : World} {A E : List Ent} {b : Nat} {S0 : DS} (hE : DkE b S0 E) (M : Mem wc w (A ++ E)) (hup : S0.down = false) (hw : ∀ k, (S0.cache k).length ≤ 1000) :
    Calls Tryz.prog 10 #[.pointer (some ⟨b, 0, none⟩), .agg #[.int .i64 0, .int .i64 0, .int .i64 0, .int .i64 0, .int .i64 0, .int .i64 0, .int .i64 0, .int .i64 0]] w fun e w' => e = .returned (.int .i64 0) ∧ ∃ E', DkE b (S0.write (su1.gen % 2) (supS su1)).flush E' ∧ Mem wc w' (A ++ E') := by
  refine calls_enter Tryz.func10 rfl 28 rfl rfl ?_; intro a S
  refine nxD ?_
  refine st_box S M rfl rfl rfl #[_, _, _, _, _, _, _, _] rfl ?_; clear S M a; intro a w1 bF S M hB
  refine st_go [1] S rfl (by kernel_rfl) ?_; clear S a; intro a S
  refine nxC ?_
  refine wp_seq ?_
  refine nxD ?_
  refine st_go [1] S rfl (by kernel_rfl) ?_; clear S a; intro a S
  refine st_y S rfl rfl rfl (y_eqlPS (by kernel_rfl) S rfl) ?_; clear S a; intro a S
  refine nxC ?_
  refine st_condF S rfl ?_
  refine wp_skip ?_
  refine nxE ?_
  refine st_call (xs := []) S (enters_of Tryz.func37 (by decide) rfl) rfl rfl rfl (firstH_any _) ?_
  rintro _ w2 ⟨rfl, hK⟩; refine ⟨_, rfl, ?_⟩; clear S a; intro a S; replace M := M.grow hK
  refine st_alloc S M rfl rfl #[.int .i64 0, .int .i64 0, .int .i64 0, .int .i64 0, .int .i64 0, .int .i64 0, .int .i64 0, .int .i64 0, .int .i64 0, .int .i64 0, .int .i64 0, .int .i64 0, .int .i64 0] (by kernel_rfl) ?_; clear S M a; intro a w3 bU S M hB
  refine st_store (sz := 13) (us := [_, _, _, _, _, _, _, _, _, _, _, _, _]) S M 0 rfl (by kernel_rfl) rfl rfl rfl rfl rfl rfl (by first | decide | (simp; done) | (simp; omega)) ?_; clear M; intro w4 M
  simp only [putL, List.set_cons_zero, List.set_cons_succ, Nat.reduceAdd] at M
  refine nxC ?_
  refine wp_seq ?_
  refine wp_regionKC (C := fun W => Blk W bF #[.int .i64 0, .int .i64 0, .int .i64 0, .int .i64 0, .int .i64 0, .int .i64 0, .int .i64 0, .int .i64 0] 30) [2, 4] #[false, false, false, false, false] rfl M (by kernel_rfl) ?_; clear M; intro w5 M; have hC := M.blk 1 rfl
  refine kc_readC 0 S rfl hC (fun w hC => y_loadAgg (cs := [_, _, _, _, _, _, _, _]) S (by kernel_rfl) rfl rfl (Blk.cellsAt (o := 0) (k := 8) hC rfl)) ?_; clear S a; intro a S
  refine kc_readC 1 S rfl hC (fun w _ => y_fieldAddr (k := 0) S (by kernel_rfl) rfl) ?_; clear S a; intro a S
  refine kc_one 2 rfl (by kernel_rfl) ?_
  refine st_store (sz := 1) (us := [_]) S M 0 rfl (by kernel_rfl) rfl rfl rfl rfl rfl rfl (by first | decide | (simp; done) | (simp; omega)) ?_; clear M; intro w6 M
  simp only [putL, List.set_cons_zero, List.set_cons_succ, Nat.reduceAdd] at M
  replace hC := M.blk 1 rfl
  refine wpList_nil ?_; refine then_normal ?_; refine ⟨fun h => absurd h (by decide), hC, ?_⟩
  refine kc_readC 3 S rfl hC (fun w _ => y_fieldAddr (k := 5) S (by kernel_rfl) rfl) ?_; clear S a; intro a S
  refine kc_one 4 rfl (by kernel_rfl) ?_
  refine st_store (sz := 8) (us := [_, _, _, _, _, _, _, _]) S M 0 rfl (by kernel_rfl) rfl rfl rfl rfl rfl rfl (by first | decide | (simp; done) | (simp; omega)) ?_; clear M; intro w7 M
  simp only [putL, List.set_cons_zero, List.set_cons_succ, Nat.reduceAdd] at M
  replace hC := M.blk 1 rfl
  refine wpList_nil ?_; refine then_normal ?_; refine ⟨fun h => absurd h (by decide), hC, ?_⟩
  refine kc_end (by kernel_rfl) ?_
  refine then_normal ?_
  refine wp_seq ?_
  refine nxD ?_
  refine st_y S rfl rfl rfl (y_loadAgg (cs := [_, _, _, _, _, _, _, _]) S (by kernel_rfl) rfl rfl (M.cellsAt (k := 8) 1 rfl rfl)) ?_; clear S a; intro a S
  refine st_go [1] S rfl (by kernel_rfl) ?_; clear S a; intro a S
  refine nxC ?_
  refine wp_block ?_
  refine wp_loop_g (fun m a w' => ∃ (k : Nat), k ≤ 8 ∧ m = 8 - k ∧ Sees 28 a [(0, .pointer (some ⟨b, 0, none⟩)), (5, .pointer (some ⟨bU, 0, none⟩)), (14, .agg #[.int .i64 0, .int .i64 0, .int .i64 0, .int .i64 0, .int .i64 0, .int .i64 0, .int .i64 0, .int .i64 0]), (15, .int .i64 (k : Int))] ∧ Mem wc w' (.blk bU su1.cellsL.toArray 72 :: .blk bF #[.int .i64 0, .int .i64 0, .int .i64 0, .int .i64 0, .int .i64 0, .int .i64 0, .int .i64 0, .int .i64 0] 30 :: (A ++ E))) (8) ?_ ?_
  · skip
    exact ⟨0, Nat.zero_le _, rfl, S.sub _ rfl, M⟩
  clear S M a; intro m a wl
  rintro ⟨k, hk, rfl, S, M⟩
  refine nxD ?_
  refine st_go [1] S rfl (by kernel_rfl) ?_; clear S a; intro a S
  refine nxC ?_
  refine wp_seq ?_
  refine st_fi (t := 16) S rfl ?_ ?_
  · clear S; intro h16 S
    refine st_condF S rfl ?_
    refine wp_exit ?_
    refine then_exit ?_
    refine then_exit ?_
    refine block_hit ?_
    refine nxE ?_
    refine st_go [1] S rfl (by kernel_rfl) ?_; clear S a; intro a S
    refine st_y S rfl rfl rfl (y_loadAgg (cs := [_, _, _, _, _, _, _, _, _, _, _, _, _]) S (by kernel_rfl) rfl rfl (M.cellsAt (k := 13) 0 rfl rfl)) ?_; clear S a; intro a S
    refine st_call (xs := [(Operand.tmp 25), (Operand.tmp 26)]) S (enters_of Tryz.func32 (by decide) rfl) rfl rfl rfl (super_any (A := _ :: _ :: A) su1 hE M hup su1_may hw) ?_
    rintro _ w8 ⟨rfl, E1, hE1, M1⟩; refine ⟨_, rfl, ?_⟩; clear S M a; intro a S; have M := M1; clear M1
    simp only [List.cons_append] at M
    refine st_go [1] S rfl (by kernel_rfl) ?_; clear S a; intro a S
    refine nxC ?_
    refine wp_ret ?_
    refine end_one S rfl (res_tmp rfl) ?_
    exact ⟨rfl, E1, hE1, (M.drop 0).drop 0⟩
  clear S; intro h16 S
  refine st_condT S rfl ?_
  refine wp_skip ?_
  refine then_normal ?_
  refine wp_seq ?_
  refine wp_block ?_
  refine nxD ?_
  refine st_y S rfl rfl rfl (y_indexP (m := 8) (sz := 1) S (by kernel_rfl) (fun e he => by cases he.symm.trans (show _ = some (.array 8 3) by kernel_rfl); kernel_rfl) rfl rfl (by first | omega | (simp; done) | (simp; omega)) (show _ = some (Value.int .i64 0) from (by rw [Int.toNat_natCast, Nat.mul_one]; rcases lt8 (show k < 8 by omega) with rfl | rfl | rfl | rfl | rfl | rfl | rfl | rfl <;> rfl))) ?_; clear S a; intro a S
  refine st_go [1] S rfl (by kernel_rfl) ?_; clear S a; intro a S
  refine nxA ?_
  refine st_go [1, 1, 1] S rfl (by kernel_rfl) ?_; clear S a; intro a S
  refine st_if (t := 20) S rfl ?_ ?_
  · clear S; intro h20 S
    first | cases h20 | (simp at h20)
  clear S; intro h20 S
  refine st_go [1, 1, 1] S rfl (by kernel_rfl) ?_; clear S a; intro a S
  refine nxC ?_
  refine st_if (t := 23) S rfl ?_ ?_
  · clear S; intro h23 S
    first | cases h23 | (simp at h23)
  clear S; intro h23 S
  refine st_condF S rfl ?_
  refine wp_skip ?_
  refine block_normal ?_
  refine nxF ?_
  (first | refine st_y S rfl rfl rfl (y_addN S rfl rfl (by omega)) ?_ | refine st_y S rfl rfl rfl (y_int S rfl rfl rfl) ?_); clear S a; intro a S
  refine st_go [1] S rfl (by kernel_rfl) ?_; clear S a; intro a S
  refine nxC ?_
  exact ⟨8 - (k + 1), by omega, k + 1, by omega, rfl, S.sub _ rfl, M⟩
set_option maxHeartbeats 1000000 in
theorem begin_any {wc w : World} {A E : List Ent} {b bd : Nat} {S0 : DS} (s : Ls) (v : Value) (hE : DkE bd S0 E) (M : Mem wc w (.blk b (lgC (.pointer (some ⟨bd, 0, none⟩)) s v).toArray 76 :: (A ++ E))) (hup : S0.down = false) (hm : (begunSu s.su).may) (hw : ∀ k, (S0.cache k).length ≤ 1000) :
    Calls Tryz.prog 8 #[.pointer (some ⟨b, 0, none⟩)] w fun e w' => e = .returned (.tuple #[.int .i64 (s.su.inc + 1), .int .i64 0]) ∧ ∃ E', DkE bd (S0.write ((begunSu s.su).gen % 2) (supS (begunSu s.su))).flush E' ∧ Mem wc w' (.blk b (lgC (.pointer (some ⟨bd, 0, none⟩)) { s with su := begunSu s.su } v).toArray 76 :: (A ++ E')) := by
  have hb : s.su.inc + 1 ≤ 1048576 ∧ 0 ≤ s.su.inc + 1 ∧ 0 ≤ s.su.gen + 1 ∧ s.su.gen + 1 ≤ 1099511627776 := by
    obtain ⟨h0, h1, h2, h3, h4, h5, h6, h7, h8, h9⟩ := hm
    simp only [begunSu] at h1 h2 h7 h8
    omega
  refine calls_enter Tryz.func8 rfl 44 rfl rfl ?_; intro a S
  refine wp_seq ?_
  skip
  refine wp_region_lit ?_
  refine st_go [1, 1] S rfl (by kernel_rfl) ?_; clear S a; intro a S
  refine nxC ?_
  refine wp_seq ?_
  refine nxD ?_
  refine st_go [1] S rfl (by kernel_rfl) ?_; clear S a; intro a S
  refine st_y S rfl rfl rfl (y_eqlPS (by kernel_rfl) S rfl) ?_; clear S a; intro a S
  refine nxC ?_
  refine st_condF S rfl ?_
  refine wp_skip ?_
  refine then_normal ?_
  refine wp_seq ?_
  refine nxD ?_
  refine st_run [1, 1, 2, 1, 4, 1, 1] S M rfl (by kernel_rfl) ?_; clear S a; intro a S
  refine nxC ?_
  refine st_if (t := 14) S rfl ?_ ?_
  · clear S; intro h14 S
    omega
  clear S; intro h14 S
  refine st_condF S rfl ?_
  refine wp_skip ?_
  refine nxE ?_
  refine st_go [1, 1, 2, 1] S rfl (by kernel_rfl) ?_; clear S a; intro a S
  refine st_y S rfl rfl rfl (y_loadAgg (cs := [_, _, _, _, _, _, _, _, _, _, _, _, _]) S (by kernel_rfl) rfl rfl (M.cellsAt (k := 13) 0 rfl rfl)) ?_; clear S a; intro a S
  refine st_alloc S M rfl rfl #[.int .i64 0, .int .i64 0, .int .i64 0, .int .i64 0, .int .i64 0, .int .i64 0, .int .i64 0, .int .i64 0, .int .i64 0, .int .i64 0, .int .i64 0, .int .i64 0, .int .i64 0] (by kernel_rfl) ?_; clear S M a; intro a w1 bU S M hB
  refine st_store (sz := 13) (us := [_, _, _, _, _, _, _, _, _, _, _, _, _]) S M 0 rfl (by kernel_rfl) rfl rfl rfl rfl rfl rfl (by first | decide | (simp; done) | (simp; omega)) ?_; clear M; intro w2 M
  simp only [putL, List.set_cons_zero, List.set_cons_succ, Nat.reduceAdd] at M
  refine nxA ?_
  refine st_run [4, 1] S M rfl (by kernel_rfl) ?_; clear S a; intro a S
  (first | refine st_y S rfl rfl rfl (y_addN S rfl rfl (by omega)) ?_ | refine st_y S rfl rfl rfl (y_int S rfl rfl rfl) ?_); clear S a; intro a S
  refine st_go [4] S rfl (by kernel_rfl) ?_; clear S a; intro a S
  refine st_store (sz := 1) (us := [_]) S M 0 rfl (by kernel_rfl) rfl rfl rfl rfl rfl rfl (by first | decide | (simp; done) | (simp; omega)) ?_; clear M; intro w3 M
  simp only [putL, List.set_cons_zero, List.set_cons_succ, Nat.reduceAdd] at M
  replace S := S.sub [(0, _), (2, _), (3, _), (7, _), (14, _), (4, _)] rfl
  refine nxA ?_
  refine st_run [1, 1] S M rfl (by kernel_rfl) ?_; clear S a; intro a S
  (first | refine st_y S rfl rfl rfl (y_addN S rfl rfl (by omega)) ?_ | refine st_y S rfl rfl rfl (y_int S rfl rfl rfl) ?_); clear S a; intro a S
  refine st_go [1] S rfl (by kernel_rfl) ?_; clear S a; intro a S
  refine st_store (sz := 1) (us := [_]) S M 0 rfl (by kernel_rfl) rfl rfl rfl rfl rfl rfl (by first | decide | (simp; done) | (simp; omega)) ?_; clear M; intro w4 M
  simp only [putL, List.set_cons_zero, List.set_cons_succ, Nat.reduceAdd] at M
  refine nxC ?_
  refine wp_seq ?_
  refine wp_seq ?_
  refine wp_regionK [5] #[false, false, false, false, false, false, false] rfl M (by kernel_rfl) ?_; clear M; intro w5 M
  refine k_pure 0 S rfl (fun w => y_move S rfl) ?_; clear S a; intro a S
  refine k_pure 1 S rfl (fun w => y_nilCheck S rfl) ?_; clear S a; intro a S
  refine k_pure 2 S rfl (fun w => y_fieldAddr (k := 0) S (by kernel_rfl) rfl) ?_; clear S a; intro a S
  refine k_read 3 S rfl (fun w hW => have M := M.grow hW; y_load S (by kernel_rfl) rfl (M.cell 1 rfl rfl)) ?_; clear S a; intro a S
  refine k_read 4 S rfl (fun w hW => have M := M.grow hW; y_loadAgg (cs := [_, _, _, _, _, _, _, _, _, _, _, _, _]) S (by kernel_rfl) rfl rfl (M.cellsAt (k := 13) 0 rfl rfl)) ?_; clear S a; intro a S
  refine k_one 5 rfl (by kernel_rfl) ?_
  refine st_call (xs := [(Operand.tmp 31), (Operand.tmp 32)]) S (enters_of Tryz.func32 (by decide) rfl) rfl rfl rfl (super_any (A := _ :: _ :: A) (begunSu s.su) hE M hup hm hw) ?_
  rintro _ w6 ⟨rfl, E1, hE1, M1⟩; refine ⟨_, rfl, ?_⟩; clear S M a; intro a S; have M := M1; clear M1
  simp only [List.cons_append] at M
  refine wpList_nil ?_; refine then_normal ?_; refine ⟨fun h => absurd h (by decide), ?_⟩
  refine k_pure 6 S rfl (fun w => y_assign S rfl) ?_; clear S a; intro a S
  refine k_end (by kernel_rfl) ?_
  refine nxE ?_
  refine st_go [1, 1] S rfl (by kernel_rfl) ?_; clear S a; intro a S
  refine nxC ?_
  refine st_if (t := 35) S rfl ?_ ?_
  · clear S; intro h35 S
    exact absurd rfl h35
  clear S; intro h35 S
  refine st_condF S rfl ?_
  refine wp_skip ?_
  refine nxE ?_
  refine st_go [1] S rfl (by kernel_rfl) ?_; clear S a; intro a S
  refine st_y S rfl rfl rfl (y_loadAgg (cs := [_, _, _, _, _, _, _, _, _, _, _, _, _]) S (by kernel_rfl) rfl rfl (M.cellsAt (k := 13) 0 rfl rfl)) ?_; clear S a; intro a S
  refine st_go [1, 2, 1] S rfl (by kernel_rfl) ?_; clear S a; intro a S
  refine st_store (sz := 13) (us := [_, _, _, _, _, _, _, _, _, _, _, _, _]) S M 1 rfl (by kernel_rfl) rfl rfl rfl rfl rfl rfl (by first | decide | (simp; done) | (simp; omega)) ?_; clear M; intro w7 M
  simp only [putL, List.set_cons_zero, List.set_cons_succ, Nat.reduceAdd] at M
  replace S := S.sub [(0, _), (2, _), (3, _), (7, _), (14, _), (4, _), (5, _), (35, _)] rfl
  refine nxA ?_
  refine st_run [4, 1, 1, 1] S M rfl (by kernel_rfl) ?_; clear S a; intro a S
  refine nxC ?_
  refine wp_ret ?_
  refine end_two S rfl (res_tmp rfl) (res_tmp rfl) ?_
  exact ⟨rfl, E1, hE1, M.drop 0⟩
end Go.Proofs.YtmdededhoibofaaGreat

namespace Go.Proofs.YtmdededhoibofaaGreat
open Go.RowKit Go.Sort
def ScanR (wc : World) (A E : List Ent) (tail : Int) (s : Sc) (e : Ending) (w' : World) : Prop := ∃ (rs : List RB) (ra : Option Addr) (rc lo hi : Nat), e = .returned (.tuple #[.slice ra rs.length rc, .agg #[.int .i64 tail, .int .i64 s.next], .int .i64 0]) ∧ rs.map RB.bs = s.l.map (·.2) ∧ (∀ r ∈ rs, r.bs.length ≤ 90) ∧ rs.length ≤ 24 ∧ Mem wc w' (rowE lo hi 58 1 (.slice ra rs.length rc) rs.length (rs.map RB.val) :: (rs.map RB.ent ++ (A ++ E)))
set_option maxHeartbeats 2000000 in
theorem Scan_anyG {wc w : World} {A E : List Ent} {b : Nat} {S0 : DS} (tail : Int) (hE : DkE b S0 E) (M : Mem wc w (A ++ E)) (hup : S0.down = false) (hw : ∀ k, (S0.cache k).length ≤ 1000000) (ht : 1 ≤ tail ∧ tail ≤ 1099511627776) :
    Calls Tryz.prog 34 #[.pointer (some ⟨b, 0, none⟩), .int .i64 tail] w (ScanR wc A E tail (scanG S0 tail)) := by
  refine calls_enter Tryz.func34 rfl 38 rfl rfl ?_; intro a S
  refine nxD ?_
  refine st_go [1] S rfl (by kernel_rfl) ?_; clear S a; intro a S
  refine st_alloc S M rfl rfl #[.int .i64 0, .int .i64 0] (by kernel_rfl) ?_; clear S M a; intro a w1 bL S M hB
  refine st_go [1] S rfl (by kernel_rfl) ?_; clear S a; intro a S
  refine nxA ?_
  refine st_go [1, 1] S rfl (by kernel_rfl) ?_; clear S a; intro a S
  refine st_call (xs := [(Operand.tmp 11), (Operand.tmp 12)]) S (enters_of Tryz.func52 (by decide) rfl) rfl rfl rfl (scan_anyG (A := _ :: A) tail hE M hup hw ht) ?_
  rintro _ w2 ⟨sq, ic, ba, bn, bc, ls, la, lc, lo, hi, rfl, hsl, hsh, hl24, M2⟩; refine ⟨_, rfl, ?_⟩; clear S M a; intro a S; have M := M2; clear M2
  replace M := M.perm (List.Perm.cons _ (List.perm_middle (l₁ := ls.map fun p => p.2.ent)))
  obtain ⟨rs, hrs⟩ : ∃ rs : List RB, rs = ls.map (·.2) := ⟨_, rfl⟩
  have hrl : rs.length = ls.length := by rw [hrs, List.length_map]
  have hre : ls.map (fun p => p.2.ent) = rs.map RB.ent := by rw [hrs, List.map_map]; rfl
  have hrb : rs.map RB.bs = (scanG S0 tail).l.map (·.2) := by rw [hrs, hsl, List.map_map, List.map_map]; rfl
  have hr90 : ∀ r ∈ rs, r.bs.length ≤ 90 := fun r hr => by rw [hrs] at hr; obtain ⟨p, hp, rfl⟩ := List.mem_map.1 hr; exact hsh p hp
  rw [hre] at M
  refine st_go [1, 1, 1] S rfl (by kernel_rfl) ?_; clear S a; intro a S
  refine st_alloc S M rfl rfl #[.int .i64 0, .int .i64 0, .slice none 0 0, .slice none 0 0, .int .i64 0] (by kernel_rfl) ?_; clear S M a; intro a w3 bSt S M hB
  refine st_store (sz := 5) (us := [_, _, _, _, _]) S M 0 rfl (by kernel_rfl) rfl rfl rfl rfl rfl rfl (by first | decide | (simp; done) | (simp; omega)) ?_; clear M; intro w4 M
  simp only [putL, List.set_cons_zero, List.set_cons_succ, Nat.reduceAdd] at M
  refine st_go [1] S rfl (by kernel_rfl) ?_; clear S a; intro a S
  refine nxC ?_
  refine wp_seq ?_
  refine nxD ?_
  refine st_go [1, 1] S rfl (by kernel_rfl) ?_; clear S a; intro a S
  refine nxC ?_
  refine st_if (t := 17) S rfl ?_ ?_
  · clear S; intro h17 S
    exact absurd rfl h17
  clear S; intro h17 S
  refine st_condF S rfl ?_
  refine wp_skip ?_
  refine then_normal ?_
  refine wp_seq ?_
  refine nxD ?_
  refine st_run [4, 1] S M rfl (by kernel_rfl) ?_; clear S a; intro a S
  refine st_y S rfl rfl rfl (y_lenR (E := 114) S rfl (M.readAll 1 rfl (by unfold maxLen; omega)) (by kernel_rfl)) ?_; clear S a; intro a S
  refine st_go [1] S rfl (by kernel_rfl) ?_; clear S a; intro a S
  refine nxC ?_
  refine wp_block ?_
  refine wp_loop_g (fun m a w' => ∃ (i : Nat) (ra : Option Addr) (rc lo2 hi2 : Nat), i ≤ ls.length ∧ m = ls.length - i ∧ Sees 38 a [(1, .int .i64 tail), (4, .slice ra i rc), (5, .pointer (some ⟨bL, 0, none⟩)), (7, .pointer (some ⟨bSt, 0, none⟩)), (21, .slice la ls.length lc), (22, .int .i64 (ls.length : Int)), (23, .int .i64 (i : Int))] ∧ Mem wc w' (rowE lo2 hi2 58 1 (.slice ra i rc) i ((rs.take i).map RB.val) :: .blk bSt #[.int .i64 sq, .int .i64 ic, .slice ba bn bc, .slice la ls.length lc, .int .i64 (scanG S0 tail).next] 110 :: rowE lo hi 114 2 (.slice la ls.length lc) ls.length (fdC ls) :: .blk bL #[.int .i64 0, .int .i64 0] 48 :: (rs.map RB.ent ++ (A ++ E)))) (ls.length) ?_ ?_
  · skip
    exact ⟨0, none, 0, _, _, Nat.zero_le _, rfl, S.sub _ rfl, M.rowNil 58 1⟩
  clear S M a; intro m a wl
  rintro ⟨i, ra, rc, lo2, hi2, hi', rfl, S, M⟩
  refine nxD ?_
  refine st_go [1] S rfl (by kernel_rfl) ?_; clear S a; intro a S
  refine nxC ?_
  refine wp_seq ?_
  refine st_fi (t := 24) S rfl ?_ ?_
  · clear S; intro h24 S
    refine st_condF S rfl ?_
    refine wp_exit ?_
    refine then_exit ?_
    refine then_exit ?_
    refine block_hit ?_
    refine then_normal ?_
    refine wp_seq ?_
    refine wp_regionK [6] #[false, false, false, false, false, false, false, false] rfl M (by kernel_rfl) ?_; clear M; intro w9 M
    refine k_pure 0 S rfl (fun w => y_move S rfl) ?_; clear S a; intro a S
    refine k_pure 1 S rfl (fun w => y_move S rfl) ?_; clear S a; intro a S
    refine k_pure 2 S rfl (fun w => y_fieldAddr (k := 4) S (by kernel_rfl) rfl) ?_; clear S a; intro a S
    refine k_read 3 S rfl (fun w hW => have M := M.grow hW; y_load S (by kernel_rfl) rfl (M.cell 1 rfl rfl)) ?_; clear S a; intro a S
    refine k_pure 4 S rfl (fun w => y_build (ps := [(0, (Operand.tmp 34)), (1, (Operand.tmp 36))]) (pl := [(0, 1), (1, 1)]) (z := [.int .i64 0, .int .i64 0]) (cs := [_, _]) S (by kernel_rfl) rfl (rfl)) ?_; clear S a; intro a S
    refine k_pure 5 S rfl (fun w => y_assign S rfl) ?_; clear S a; intro a S
    refine k_one 6 rfl (by kernel_rfl) ?_
    refine st_store (sz := 2) (us := [_, _]) S M 3 rfl (by kernel_rfl) rfl rfl rfl rfl rfl rfl (by first | decide | (simp; done) | (simp; omega)) ?_; clear M; intro w10 M
    simp only [putL, List.set_cons_zero, List.set_cons_succ, Nat.reduceAdd] at M
    refine wpList_nil ?_; refine then_normal ?_; refine ⟨fun h => absurd h (by decide), ?_⟩
    refine k_pure 7 S rfl (fun w => y_assign S rfl) ?_; clear S a; intro a S
    refine k_end (by kernel_rfl) ?_
    refine then_normal ?_
    refine wp_ret ?_
    refine end_three S rfl (res_tmp rfl) (res_agg (cs := [_, _]) (by kernel_rfl) rfl rfl (M.cellsAt (k := 2) 3 rfl rfl)) (res_tmp rfl) ?_
    obtain rfl : i = ls.length := by omega
    rw [← hrl, List.take_length] at M
    rw [← hrl]
    replace M := M.drop 1
    simp only [List.eraseIdx_cons_succ, List.eraseIdx_cons_zero] at M
    replace M := M.drop 1
    simp only [List.eraseIdx_cons_succ, List.eraseIdx_cons_zero] at M
    replace M := M.drop 1
    simp only [List.eraseIdx_cons_succ, List.eraseIdx_cons_zero] at M
    exact ⟨rs, ra, rc, _, _, rfl, hrb, hr90, by omega, M⟩
  clear S; intro h24 S
  refine st_condT S rfl ?_
  refine wp_skip ?_
  refine then_normal ?_
  refine wp_seq ?_
  refine wp_block ?_
  refine wp_seq ?_
  obtain ⟨q, hq⟩ : ∃ q, ls[i]? = some q := ⟨_, List.getElem?_eq_getElem (by omega)⟩
  have hrq : rs[i]? = some q.2 := by rw [hrs, List.getElem?_map, hq]; rfl
  refine wp_region_lit ?_
  refine st_y S rfl rfl rfl (y_indexR (e := 114) (sz := 2) S (by kernel_rfl) rfl (M.readAll 2 rfl (by unfold maxLen; omega)) rfl (by first | omega | (simp; done) | (simp; omega))) ?_; clear S a; intro a S
  try simp only [Int.toNat_natCast, Nat.mul_one, Nat.zero_add] at S
  refine st_y S rfl rfl rfl (y_loadAgg S (by kernel_rfl) rfl rfl ((M.readAll 2 rfl (by unfold maxLen; omega)).at_.row (i := i) (fdC_get hq) rfl)) ?_; clear S a; intro a S
  refine st_alloc S M rfl rfl #[.int .i64 0, .slice none 0 0] (by kernel_rfl) ?_; clear S M a; intro a w5 bF S M hB
  refine st_store (sz := 2) (us := [_, _]) S M 0 rfl (by kernel_rfl) rfl rfl rfl rfl rfl rfl (by first | decide | (simp; done) | (simp; omega)) ?_; clear M; intro w6 M
  simp only [putL, List.set_cons_zero, List.set_cons_succ, Nat.reduceAdd] at M
  refine nxB ?_
  refine st_run [1, 2, 1] S M rfl (by kernel_rfl) ?_; clear S a; intro a S
  refine st_lit (ps := [(0, (Operand.tmp 29))]) (e := 58) (sz := 1) (zl := [.slice none 0 0]) (cs := [_]) S M rfl rfl (by kernel_rfl) rfl (rfl) ?_; clear S M a; intro a w7 bZ S M hB
  refine st_append (e := 58) (sz := 1) (by_ := 24) (zc := [.slice none 0 0]) S M 2 rfl rfl (by kernel_rfl) rfl (by decide) rfl rfl rfl (show Rd _ _ _ 1 _ 1 [q.2.val] from M.sliceAt 0 rfl (M.cellsAt (k := 1) 0 rfl rfl) rfl (Nat.le_refl _) (by unfold maxLen; omega)) (rfl) (by omega) (by unfold maxLen; omega) ?_; clear S M a; intro a w8 vA loA hiA S M
  obtain ⟨aA, cA, rfl, -, -⟩ := (M.readAll 0 rfl (by unfold maxLen; omega)).form
  refine st_y S rfl rfl rfl (y_assign S rfl) ?_; clear S a; intro a S
  refine wpList_nil ?_
  refine block_normal ?_
  refine nxF ?_
  (first | refine st_y S rfl rfl rfl (y_addN S rfl rfl (by omega)) ?_ | refine st_y S rfl rfl rfl (y_int S rfl rfl rfl) ?_); clear S a; intro a S
  refine st_go [1] S rfl (by kernel_rfl) ?_; clear S a; intro a S
  refine nxC ?_
  skip
  replace M := M.drop 1
  simp only [List.eraseIdx_cons_succ, List.eraseIdx_cons_zero] at M
  replace M := M.drop 1
  simp only [List.eraseIdx_cons_succ, List.eraseIdx_cons_zero] at M
  refine ⟨ls.length - (i + 1), by omega, i + 1, aA, cA, loA, hiA, by omega, rfl, S.sub _ rfl, ?_⟩
  obtain ⟨h9, e9⟩ := List.getElem?_eq_some_iff.1 hrq
  rw [List.take_succ_eq_append_getElem h9, e9, List.map_append]
  exact M
end Go.Proofs.YtmdededhoibofaaGreat

namespace Go.Proofs.YtmdededhoibofaaGreat
open Go.RowKit Go.Sort
variable {ds : List Deferred}
variable {P : Program} {ops : Array Oper} {Q : Exit → Act → World → Prop} {rest : List Oper} {n d : Nat} {a : Act} {L : List (Nat × Value)} {w w0 : World} {H : List Ent}
end Go.Proofs.YtmdededhoibofaaGreat

namespace Go.Proofs.YtmdededhoibofaaGreat
open Go.RowKit Go.Sort
/-- the slice v reads as these rows of bytes -/
def BRows (W : World) (v : Value) (bss : List (List UInt8)) : Prop := ∃ vs, Rd 0 W.heap.size W 1 v bss.length vs ∧ ∀ (i : Nat) x bs, vs[i]? = some x → bss[i]? = some bs → Bs 0 W.heap.size W x bs
end Go.Proofs.YtmdededhoibofaaGreat

namespace Go.Proofs.YtmdededhoibofaaGreat
open Go.RowKit Go.Sort
def wantsP (n : Int) : Int := if n < 1 ∨ 90 < n then 0 else (n + 44) / 45
theorem wants_any (n : Int) (w : World) : Calls Tryz.prog 65 #[.int .i64 n] w fun e w' => e = .returned (.int .i64 (wantsP n)) ∧ Below w.heap.size w w' := by
  have M := Mem.start w
  refine calls_enter Tryz.func65 rfl 13 rfl rfl ?_; intro a S
  refine nxD ?_
  refine st_go [1] S rfl (by kernel_rfl) ?_; clear S a; intro a S
  refine nxC ?_
  refine wp_seq ?_
  refine nxD ?_
  refine st_go [1, 1, 1] S rfl (by kernel_rfl) ?_; clear S a; intro a S
  refine st_if (t := 5) S rfl ?_ ?_
  · clear S; intro h5 S
    refine st_go [0, 0, 1] S rfl (by kernel_rfl) ?_; clear S a; intro a S
    refine nxC ?_
    refine st_condT S rfl ?_
    refine nxD ?_
    refine st_go [1] S rfl (by kernel_rfl) ?_; clear S a; intro a S
    refine nxC ?_
    refine wp_ret ?_
    refine then_ret ?_
    refine end_one S rfl (res_tmp rfl) ?_
    exact ⟨by unfold wantsP; rw [if_pos (by omega)], M.below⟩
  clear S; intro h5 S
  refine st_go [1, 1, 1] S rfl (by kernel_rfl) ?_; clear S a; intro a S
  refine nxC ?_
  refine st_if (t := 8) S rfl ?_ ?_
  · clear S; intro h8 S
    refine st_condT S rfl ?_
    refine nxD ?_
    refine st_go [1] S rfl (by kernel_rfl) ?_; clear S a; intro a S
    refine nxC ?_
    refine wp_ret ?_
    refine then_ret ?_
    refine end_one S rfl (res_tmp rfl) ?_
    exact ⟨by unfold wantsP; rw [if_pos (by omega)], M.below⟩
  clear S; intro h8 S
  refine st_condF S rfl ?_
  refine wp_skip ?_
  refine nxE ?_
  refine st_go [1] S rfl (by kernel_rfl) ?_; clear S a; intro a S
  (first | refine st_y S rfl rfl rfl (y_addN S rfl rfl (by omega)) ?_ | refine st_y S rfl rfl rfl (y_int S rfl rfl rfl) ?_); clear S a; intro a S
  (first | refine st_y S rfl rfl rfl (y_subN S rfl rfl (by omega)) ?_ | refine st_y S rfl rfl rfl (y_int S rfl rfl rfl) ?_); clear S a; intro a S
  refine st_y S rfl rfl rfl (y_quoN S rfl rfl (by omega)) ?_; clear S a; intro a S
  refine st_go [1] S rfl (by kernel_rfl) ?_; clear S a; intro a S
  refine nxC ?_
  refine wp_ret ?_
  refine end_one S rfl (res_tmp rfl) ?_
  exact ⟨by unfold wantsP; rw [if_neg (by omega), show n + 45 - 1 = n + 44 by omega], M.below⟩
theorem jflush_any {wc w : World} {A E : List Ent} {b : Nat} {S0 : DS} (hE : DkE b S0 E) (M : Mem wc w (A ++ E)) (hup : S0.down = false) (hw : ∀ k, (S0.cache k).length ≤ 1000000) :
    Calls Tryz.prog 70 #[.pointer (some ⟨b, 0, none⟩)] w fun e w' => e = .returned (.int .i64 0) ∧ ∃ E', DkE b S0.flush E' ∧ Mem wc w' (A ++ E') := by
  refine calls_enter Tryz.func70 rfl 5 rfl rfl ?_; intro a S
  refine nxD ?_
  refine st_go [1] S rfl (by kernel_rfl) ?_; clear S a; intro a S
  refine nxA ?_
  refine st_go [1] S rfl (by kernel_rfl) ?_; clear S a; intro a S
  refine st_call (xs := [(Operand.tmp 3)]) S (enters_of Tryz.func47 (by decide) rfl) rfl rfl rfl (flush_any hE M hup hw) ?_
  rintro _ w1 ⟨rfl, E', hE', M2⟩; refine ⟨_, rfl, ?_⟩; clear S M a; intro a S; have M := M2; clear M2
  refine st_go [1] S rfl (by kernel_rfl) ?_; clear S a; intro a S
  refine nxC ?_
  refine wp_ret ?_
  refine end_one S rfl (res_tmp rfl) ?_
  exact ⟨rfl, E', hE', M⟩
end Go.Proofs.YtmdededhoibofaaGreat

namespace Go.Proofs.YtmdededhoibofaaGreat
open Go.RowKit Go.Sort
/-- what is unfinished, where the first ones lost their changes -/
def opI (op : List Rc) (i : Nat) : List Rc := (op.take i).map clrR ++ op.drop i
theorem opI_len (op : List Rc) (i : Nat) : (opI op i).length = op.length := by
  unfold opI; rw [List.length_append, List.length_map, List.length_take, List.length_drop]; omega
theorem opI_zero (op : List Rc) : opI op 0 = op := by simp [opI]
theorem opI_all (op : List Rc) : opI op op.length = op.map clrR := by simp [opI]
theorem opI_get {op : List Rc} {i : Nat} {r : Rc} (h : op[i]? = some r) : (opI op i)[i]? = some r := by
  have hl := (List.getElem?_eq_some_iff.1 h).1
  unfold opI
  rw [List.getElem?_append_right (by rw [List.length_map, List.length_take]; omega), List.length_map, List.length_take, List.getElem?_drop, show i + (i - min i op.length) = i by omega]
  exact h
theorem opI_set {op : List Rc} {i : Nat} {r : Rc} (h : op[i]? = some r) : (opI op i).set i (clrR r) = opI op (i + 1) := by
  have hl := (List.getElem?_eq_some_iff.1 h).1
  have h1 : ((op.take i).map clrR).length = i := by rw [List.length_map, List.length_take]; omega
  unfold opI
  rw [List.set_append_right _ _ (by omega), h1, Nat.sub_self, List.drop_eq_getElem_cons hl, (List.getElem?_eq_some_iff.1 h).2, List.set_cons_zero, List.take_add_one, h, List.map_append, List.append_assoc]
  rfl
theorem rcsC_clr (l : List Rc) {k : Nat} {r : Rc} (h : l[k]? = some r) : putL (rcsC l) (k * 12 + 9) [.int .i64 (-1), .int .i64 0] = rcsC (l.set k (clrR r)) := by
  have hk := (List.getElem?_eq_some_iff.1 h).1
  have e : rcsC l = rcsC (l.take k) ++ (r.cL ++ rcsC (l.drop (k + 1))) := by
    rw [show r.cL ++ rcsC (l.drop (k + 1)) = rcsC (r :: l.drop (k + 1)) from rfl, ← rcsC_append]
    congr 1
    have e2 : l.take k ++ (r :: l.drop (k + 1)) = l := by
      rw [← (List.getElem?_eq_some_iff.1 h).2, ← List.drop_eq_getElem_cons hk, List.take_append_drop]
    exact e2.symm
  have hl : (rcsC (l.take k)).length = k * 12 := by rw [rcsC_len, List.length_take, Nat.min_eq_left (by omega)]
  have e3 : rcsC (l.set k (clrR r)) = rcsC (l.take k) ++ ((clrR r).cL ++ rcsC (l.drop (k + 1))) := by
    rw [List.set_eq_take_append_cons_drop, if_pos hk, rcsC_append]; rfl
  rw [putL_eq _ _ _ (by rw [rcsC_len]; show _ + 2 ≤ _; omega), e3]
  have t1 : (rcsC l).take (k * 12 + 9) = rcsC (l.take k) ++ r.cL.take 9 := by
    rw [e, ← hl, List.take_append, List.take_of_length_le (Nat.le_add_right _ _), Nat.add_sub_cancel_left]; rfl
  have t2 : (rcsC l).drop (k * 12 + 9 + 2) = r.cL.drop 11 ++ rcsC (l.drop (k + 1)) := by
    rw [e, Nat.add_assoc, ← hl, List.drop_append, List.drop_of_length_le (Nat.le_add_right _ _), Nat.add_sub_cancel_left]; rfl
  show (rcsC l).take (k * 12 + 9) ++ [.int .i64 (-1), .int .i64 0] ++ (rcsC l).drop (k * 12 + 9 + 2) = _
  rw [t1, t2, List.append_assoc, List.append_assoc]; rfl
theorem app_rec {t n inc n' er : Int} {S0 S1 : DS} {r : Rc} (hr : recOk r) (hroom : n + 1 ≤ t + 24) (h : AppP t n inc (encR r) S0 n' er S1) : n' = n + 1 ∧ er = 0 ∧ S1 = putF S0 (cutF (encR r) n inc) := by
  have h1 := encR_len hr
  have h2 := nOf_rec hr
  have hok : appOk t n (encR r) := ⟨fun e => by rw [e] at h1; simp at h1, by omega, by rw [h2]; omega⟩
  rcases h with ⟨-, a, b, c⟩ | ⟨h, -⟩
  · rw [h2] at a; exact ⟨a, b, c⟩
  · exact absurd hok h
set_option maxHeartbeats 4000000 in
theorem saved_any {wc w : World} {A E : List Ent} {b bd lo hi : Nat} {S0 : DS} {T : List Nm} {K N : Int} (s : Ls) (va : Option Addr) (vc : Nat) (hE : DkE bd S0 E) (M : Mem wc w (.blk b (lgC (.pointer (some ⟨bd, 0, none⟩)) s (opV va vc s.op)).toArray 76 :: opE lo hi va vc s.op :: (A ++ E))) (hI : LInv S0 s T K) (hk : K ≤ s.su.inc) (hb : Lb s N) :
    Calls Tryz.prog 41 #[.pointer (some ⟨b, 0, none⟩)] w fun e w' => ∃ S1 E' va2 vc2 lo2 hi2, e = .returned (.tuple #[.agg (stC (savedS s) (opV va2 vc2 (savedS s).op)).toArray, .int .i64 0]) ∧ LInv S1 (savedS s) [] K ∧ DkE bd S1 E' ∧ Mem wc w' (opE lo2 hi2 va2 vc2 (savedS s).op :: .blk b (lgC (.pointer (some ⟨bd, 0, none⟩)) s (opV va vc s.op)).toArray 76 :: opE lo hi va vc s.op :: (A ++ E')) := by
  have hfew := hI.few
  have hmay := hI.may
  have hinc : 0 ≤ s.su.inc ∧ s.su.inc ≤ 1048576 := ⟨hmay.2.2.2.2.2.2.2.1, hmay.2.2.2.2.2.2.2.2.1⟩
  have hgen : 0 ≤ s.su.gen ∧ s.su.gen ≤ 1000 := by have := hb.gen; have := hb.few; have := hmay.2.1; omega
  have hnx : 1 ≤ s.n ∧ s.n ≤ 10000 := by have := hb.nx; have := hb.few; have := hI.mayL; omega
  have hup := hI.up
  obtain ⟨L, c, hMid⟩ := Mid.start hI
  refine calls_enter Tryz.func41 rfl 110 rfl rfl ?_; intro a S
  refine wp_seq ?_
  skip
  refine wp_region_lit ?_
  refine st_alloc S M rfl rfl #[.int .i64 0, .int .i64 0, .int .i64 0, .int .i64 0, .int .i64 0, .int .i64 0, .int .i64 0, .int .i64 0, .int .i64 0, .int .i64 0, .int .i64 0, .int .i64 0, .int .i64 0, .int .i64 0, .int .i64 0, .int .i64 0, .int .i64 0, .int .i64 0, .int .i64 0, .int .i64 0, .int .i64 0, .int .i64 0, .int .i64 0, .int .i64 0, .slice none 0 0] (by kernel_rfl) ?_; clear S M a; intro a w1 bZ S M hB
  refine st_go [1] S rfl (by kernel_rfl) ?_; clear S a; intro a S
  refine nxC ?_
  refine wp_seq ?_
  refine nxD ?_
  refine st_run [1, 1, 1, 2] S M rfl (by kernel_rfl) ?_; clear S a; intro a S
  refine st_call (xs := [(Operand.tmp 14)]) S (enters_of Tryz.func71 (by decide) rfl) rfl rfl rfl (down_any (A := _ :: _ :: _ :: A) hE M) ?_
  rintro _ w2 ⟨rfl, M1⟩; refine ⟨_, rfl, ?_⟩; clear S M a; intro a S; have M := M1; clear M1
  simp only [List.cons_append] at M
  rw [hup] at S
  refine nxC ?_
  refine st_if (t := 15) S rfl ?_ ?_
  · clear S; intro h15 S
    cases h15
  clear S; intro h15 S
  refine st_condF S rfl ?_
  refine wp_skip ?_
  refine nxE ?_
  refine st_go [1, 1, 2] S rfl (by kernel_rfl) ?_; clear S a; intro a S
  refine st_call (xs := [(Operand.tmp 19)]) S (enters_of Tryz.func66 (by decide) rfl) rfl rfl rfl (copied_any (.pointer (some ⟨bd, 0, none⟩)) s va vc _ (M.blk 1 rfl) (rd_rcs M (p := 2) rfl (by omega)) (by omega)) ?_
  rintro _ w3 ⟨ra, rc, rfl, hF⟩; refine ⟨_, rfl, ?_⟩; clear S a; intro a S
  obtain ⟨lo2, hi2, -, M1⟩ := M.pushFresh hF; clear M; have M := M1; clear M1
  refine st_alloc S M rfl rfl #[.int .i64 0, .int .i64 0, .int .i64 0, .int .i64 0, .int .i64 0, .int .i64 0, .int .i64 0, .int .i64 0, .int .i64 0, .int .i64 0, .int .i64 0, .int .i64 0, .int .i64 0, .int .i64 0, .int .i64 0, .int .i64 0, .int .i64 0, .int .i64 0, .int .i64 0, .int .i64 0, .int .i64 0, .int .i64 0, .int .i64 0, .int .i64 0, .slice none 0 0] (by kernel_rfl) ?_; clear S M a; intro a w4 bI S M hB
  refine st_store (sz := 25) (us := [_, _, _, _, _, _, _, _, _, _, _, _, _, _, _, _, _, _, _, _, _, _, _, _, _]) S M 0 rfl (by kernel_rfl) rfl rfl rfl rfl rfl rfl (by first | decide | (simp; done) | (simp; omega)) ?_; clear M; intro w5 M
  simp only [putL, List.set_cons_zero, List.set_cons_succ, Nat.reduceAdd] at M
  refine nxA ?_
  refine st_run [23, 2, 1, 1] S M rfl (by kernel_rfl) ?_; clear S a; intro a S
  refine nxC ?_
  refine wp_seq ?_
  refine nxD ?_
  refine st_run [25, 1] S M rfl (by kernel_rfl) ?_; clear S a; intro a S
  refine st_y S rfl rfl rfl (y_lenS (E := 29) S rfl (by kernel_rfl)) ?_; clear S a; intro a S
  refine st_go [1] S rfl (by kernel_rfl) ?_; clear S a; intro a S
  refine nxC ?_
  refine wp_block ?_
  refine wp_loop_g (fun m a w' => ∃ (i : Nat) (S1 : DS) (E1 : List Ent) (lo2 hi2 : Nat), i ≤ s.op.length ∧ m = s.op.length - i ∧ Mid S1 s i L c K ∧ DkE bd S1 E1 ∧ Sees 110 a [(0, .pointer (some ⟨b, 0, none⟩)), (2, .pointer (some ⟨bZ, 0, none⟩)), (4, .pointer (some ⟨bI, 0, none⟩)), (5, .int .i64 s.n), (26, .int .i64 (s.op.length : Int)), (27, .int .i64 (i : Int))] ∧ Mem wc w' (.blk bI (stC ⟨s.su, s.cu, s.n + (i : Int), opI s.op i⟩ (.slice ra s.op.length rc)).toArray 74 :: rowE lo2 hi2 29 12 (.slice ra s.op.length rc) s.op.length (rcsC (opI s.op i)) :: .blk bZ (stC ⟨zSu, zSu, 0, []⟩ (.slice none 0 0)).toArray 74 :: .blk b (lgC (.pointer (some ⟨bd, 0, none⟩)) s (opV va vc s.op)).toArray 76 :: opE lo hi va vc s.op :: (A ++ E1))) (s.op.length) ?_ ?_
  · skip
    refine ⟨0, S0, E, lo2, hi2, Nat.zero_le _, rfl, hMid, hE, S.sub _ rfl, ?_⟩
    rw [opI_zero, show s.n + ((0 : Nat) : Int) = s.n by omega]
    exact M
  clear S M a; intro m a wl
  rintro ⟨i, S1, E1, lo2, hi2, hi', rfl, hMi, hE1, S, M⟩
  have hroom := hMi.room
  have hup1 := hMi.dk.up
  refine nxD ?_
  refine st_go [1] S rfl (by kernel_rfl) ?_; clear S a; intro a S
  refine nxC ?_
  refine wp_seq ?_
  refine st_fi (t := 28) S rfl ?_ ?_
  · clear S; intro h28 S
    refine st_condF S rfl ?_
    refine wp_exit ?_
    refine then_exit ?_
    refine then_exit ?_
    refine block_hit ?_
    refine then_normal ?_
    refine wp_seq ?_
    refine nxD ?_
    refine st_go [1, 1, 1] S rfl (by kernel_rfl) ?_; clear S a; intro a S
    refine st_y S rfl rfl rfl (y_load S (by kernel_rfl) rfl (M.cell 3 rfl ((show _ = some (Value.pointer (some ⟨bd, 0, none⟩)) from rfl)))) ?_; clear S a; intro a S
    refine st_call (xs := [(Operand.tmp 72)]) S (enters_of Tryz.func70 (by decide) rfl) rfl rfl rfl (jflush_any (A := _ :: _ :: _ :: _ :: _ :: A) hE1 M hup1 (fun k => by have := hMi.dk.one k; omega)) ?_
    rintro _ w10 ⟨rfl, E2, hE2, M1⟩; refine ⟨_, rfl, ?_⟩; clear S M a; intro a S; have M := M1; clear M1
    simp only [List.cons_append] at M
    obtain rfl : i = s.op.length := by omega
    obtain ⟨hsm, hI2⟩ := hMi.saved hk hb
    refine st_go [1] S rfl (by kernel_rfl) ?_; clear S a; intro a S
    refine nxA ?_
    refine st_go [1, 1] S rfl (by kernel_rfl) ?_; clear S a; intro a S
    refine nxC ?_
    refine st_if (t := 75) S rfl ?_ ?_
    · clear S; intro h75 S
      exact absurd rfl h75
    clear S; intro h75 S
    refine st_condF S rfl ?_
    refine wp_skip ?_
    refine nxE ?_
    refine st_go [1, 1, 23, 1] S rfl (by kernel_rfl) ?_; clear S a; intro a S
    refine st_store (sz := 1) (us := [_]) S M 0 rfl (by kernel_rfl) rfl rfl rfl rfl rfl rfl (by first | decide | (simp; done) | (simp; omega)) ?_; clear M; intro w11 M
    simp only [putL, List.set_cons_zero, List.set_cons_succ, Nat.reduceAdd] at M
    refine st_go [1, 2] S rfl (by kernel_rfl) ?_; clear S a; intro a S
    refine st_store (sz := 1) (us := [_]) S M 0 rfl (by kernel_rfl) rfl rfl rfl rfl rfl rfl (by first | decide | (simp; done) | (simp; omega)) ?_; clear M; intro w12 M
    simp only [putL, List.set_cons_zero, List.set_cons_succ, Nat.reduceAdd] at M
    refine nxA ?_
    refine st_run [14, 1, 15] S M rfl (by kernel_rfl) ?_; clear S a; intro a S
    refine st_y S rfl rfl rfl (y_loadAgg (cs := [_, _, _, _, _, _, _, _]) S (by kernel_rfl) rfl rfl (M.cellsAt (k := 8) 0 rfl rfl)) ?_; clear S a; intro a S
    refine st_go [1, 5] S rfl (by kernel_rfl) ?_; clear S a; intro a S
    refine st_store (sz := 1) (us := [_]) S M 0 rfl (by kernel_rfl) rfl rfl rfl rfl rfl rfl (by first | decide | (simp; done) | (simp; omega)) ?_; clear M; intro w13 M
    simp only [putL, List.set_cons_zero, List.set_cons_succ, Nat.reduceAdd] at M
    refine st_go [1, 6] S rfl (by kernel_rfl) ?_; clear S a; intro a S
    refine st_store (sz := 8) (us := [_, _, _, _, _, _, _, _]) S M 0 rfl (by kernel_rfl) rfl rfl rfl rfl rfl rfl (by first | decide | (simp; done) | (simp; omega)) ?_; clear M; intro w14 M
    simp only [putL, List.set_cons_zero, List.set_cons_succ, Nat.reduceAdd] at M
    replace S := S.sub [(0, _), (2, _), (4, _), (5, _), (26, _), (27, _), (28, _), (9, _), (75, _)] rfl
    refine nxA ?_
    refine st_run [1, 1, 1] S M rfl (by kernel_rfl) ?_; clear S a; intro a S
    (first | refine st_y S rfl rfl rfl (y_addN S rfl rfl (by omega)) ?_ | refine st_y S rfl rfl rfl (y_int S rfl rfl rfl) ?_); clear S a; intro a S
    refine st_go [1, 1] S rfl (by kernel_rfl) ?_; clear S a; intro a S
    refine st_store (sz := 1) (us := [_]) S M 0 rfl (by kernel_rfl) rfl rfl rfl rfl rfl rfl (by first | decide | (simp; done) | (simp; omega)) ?_; clear M; intro w15 M
    simp only [putL, List.set_cons_zero, List.set_cons_succ, Nat.reduceAdd] at M
    refine nxC ?_
    refine wp_seq ?_
    refine wp_seq ?_
    refine wp_regionK [6] #[false, false, false, false, false, false, false, false] rfl M (by kernel_rfl) ?_; clear M; intro w16 M
    refine k_pure 0 S rfl (fun w => y_move S rfl) ?_; clear S a; intro a S
    refine k_pure 1 S rfl (fun w => y_nilCheck S rfl) ?_; clear S a; intro a S
    refine k_pure 2 S rfl (fun w => y_fieldAddr (k := 0) S (by kernel_rfl) rfl) ?_; clear S a; intro a S
    refine k_read 3 S rfl (fun w hW => have M := M.grow hW; y_load S (by kernel_rfl) rfl (M.cell 3 rfl ((show _ = some (Value.pointer (some ⟨bd, 0, none⟩)) from rfl)))) ?_; clear S a; intro a S
    refine k_pure 4 S rfl (fun w => y_fieldAddr (k := 0) S (by kernel_rfl) rfl) ?_; clear S a; intro a S
    refine k_read 5 S rfl (fun w hW => have M := M.grow hW; y_loadAgg (cs := [_, _, _, _, _, _, _, _, _, _, _, _, _]) S (by kernel_rfl) rfl rfl (M.cellsAt (k := 13) 0 rfl rfl)) ?_; clear S a; intro a S
    refine k_one 6 rfl (by kernel_rfl) ?_
    refine st_call (xs := [(Operand.tmp 101), (Operand.tmp 103)]) S (enters_of Tryz.func32 (by decide) rfl) rfl rfl rfl (super_any (A := _ :: _ :: _ :: _ :: _ :: A) (savedSu s) hE2 M hup1 hsm (fun k => Nat.zero_le _)) ?_
    rintro _ w17 ⟨rfl, E3, hE3, M1⟩; refine ⟨_, rfl, ?_⟩; clear S M a; intro a S; have M := M1; clear M1
    simp only [List.cons_append] at M
    refine wpList_nil ?_; refine then_normal ?_; refine ⟨fun h => absurd h (by decide), ?_⟩
    refine k_pure 7 S rfl (fun w => y_assign S rfl) ?_; clear S a; intro a S
    refine k_end (by kernel_rfl) ?_
    refine nxE ?_
    refine st_go [1, 1] S rfl (by kernel_rfl) ?_; clear S a; intro a S
    replace S := S.sub [(0, _), (2, _), (4, _), (5, _), (26, _), (27, _), (28, _), (9, _), (75, _), (10, _), (106, _)] rfl
    refine nxC ?_
    refine st_if (t := 106) S rfl ?_ ?_
    · clear S; intro h106 S
      exact absurd rfl h106
    clear S; intro h106 S
    refine st_condF S rfl ?_
    refine wp_skip ?_
    refine nxE ?_
    refine st_y S rfl rfl rfl (y_loadAgg (cs := [_, _, _, _, _, _, _, _, _, _, _, _, _, _, _, _, _, _, _, _, _, _, _, _, _]) S (by kernel_rfl) rfl rfl (M.cellsAt (k := 25) 0 rfl rfl)) ?_; clear S a; intro a S
    refine st_store (sz := 25) (us := [_, _, _, _, _, _, _, _, _, _, _, _, _, _, _, _, _, _, _, _, _, _, _, _, _]) S M 2 rfl (by kernel_rfl) rfl rfl rfl rfl rfl rfl (by first | decide | (simp; done) | (simp; omega)) ?_; clear M; intro w18 M
    simp only [putL, List.set_cons_zero, List.set_cons_succ, Nat.reduceAdd] at M
    refine st_go [1] S rfl (by kernel_rfl) ?_; clear S a; intro a S
    refine nxC ?_
    refine wp_ret ?_
    refine end_two S rfl (res_agg (cs := [_, _, _, _, _, _, _, _, _, _, _, _, _, _, _, _, _, _, _, _, _, _, _, _, _]) (by kernel_rfl) rfl rfl (M.cellsAt (k := 25) 2 rfl rfl)) (res_tmp rfl) ?_
    skip
    rw [opI_all] at M
    exact ⟨_, E3, ra, rc, lo2, hi2, by first | rfl | (unfold opV savedS; simp only [List.length_map]; rfl), hI2, hE3, by have M2 := (M.drop 0).drop 1; unfold opE opV savedS; simp only [List.length_map]; exact M2⟩
  clear S; intro h28 S
  refine st_condT S rfl ?_
  refine wp_skip ?_
  refine then_normal ?_
  refine wp_seq ?_
  refine wp_block ?_
  refine nxD ?_
  refine st_go [1, 1] S rfl (by kernel_rfl) ?_; clear S a; intro a S
  refine nxC ?_
  refine wp_seq ?_
  obtain ⟨r, hr⟩ : ∃ r, s.op[i]? = some r := ⟨_, List.getElem?_eq_getElem (by omega)⟩
  have hrok := hMi.oks.2.ok r (List.mem_of_getElem? hr)
  have hcok := clr_ok hrok.1 hrok.2
  have hrl := rcsC_len (opI s.op i)
  rw [opI_len] at hrl
  refine wp_region_lit ?_
  refine st_go [25] S rfl (by kernel_rfl) ?_; clear S a; intro a S
  refine st_y S rfl rfl rfl (y_load S (by kernel_rfl) rfl (M.cell 0 rfl ((show _ = some (Value.slice ra s.op.length rc) from rfl)))) ?_; clear S a; intro a S
  refine st_go [1] S rfl (by kernel_rfl) ?_; clear S a; intro a S
  refine st_y S rfl rfl rfl (y_build (ps := [(0, (Operand.const (Value.int IntKind.i64 (-1))))]) (pl := [(0, 1), (1, 1)]) (z := [.int .i64 0, .int .i64 0]) (cs := [_, _]) S (by kernel_rfl) rfl (rfl)) ?_; clear S a; intro a S
  refine st_y S rfl rfl rfl (y_indexR (e := 29) (sz := 12) S (by kernel_rfl) rfl (M.readAll 1 rfl (by unfold maxLen; omega)) rfl (by first | omega | (simp; done) | (simp; omega))) ?_; clear S a; intro a S
  try simp only [Int.toNat_natCast, Nat.mul_one, Nat.zero_add] at S
  refine st_go [10] S rfl (by kernel_rfl) ?_; clear S a; intro a S
  refine st_storeRow (v := .slice ra s.op.length rc) (sz := 12) (m := s.op.length) (j := i * 12 + 9) (us := [.int .i64 (-1), .int .i64 0]) S M 1 rfl (by kernel_rfl) rfl rfl (by first | rfl | omega | (simp only [Int.toNat_natCast]; omega)) rfl rfl rfl rfl rfl (by omega) hrl (by rw [hrl]; show i * 12 + 9 + 2 ≤ _; omega) ?_; clear M; intro wz lo9 hi9 M
  simp only [List.eraseIdx_cons_succ, List.eraseIdx_cons_zero] at M
  rw [rcsC_clr _ (opI_get hr), opI_set hr] at M
  refine nxA ?_
  refine st_go [25] S rfl (by kernel_rfl) ?_; clear S a; intro a S
  refine st_y S rfl rfl rfl (y_load S (by kernel_rfl) rfl (M.cell 1 rfl ((show _ = some (Value.slice ra s.op.length rc) from rfl)))) ?_; clear S a; intro a S
  refine st_go [1] S rfl (by kernel_rfl) ?_; clear S a; intro a S
  refine st_y S rfl rfl rfl (y_indexR (e := 29) (sz := 12) S (by kernel_rfl) rfl (M.readAll 0 rfl (by unfold maxLen; omega)) rfl (by first | omega | (simp; done) | (simp; omega))) ?_; clear S a; intro a S
  try simp only [Int.toNat_natCast, Nat.mul_one, Nat.zero_add] at S
  refine st_y S rfl rfl rfl (y_loadAgg S (by kernel_rfl) rfl rfl ((M.readAll 0 rfl (by unfold maxLen; omega)).at_.row (i := i) (rcsC_get (show (opI s.op (i + 1))[i]? = some (clrR r) by rw [← opI_set hr, List.getElem?_set_self (by rw [opI_len]; omega)])) rfl)) ?_; clear S a; intro a S
  refine st_call (xs := [(Operand.tmp 41)]) S (enters_of Tryz.func56 (by decide) rfl) rfl rfl rfl (bytesR_any (clrR r) none 0 0 [] _ (rec_shards hcok.1) (Rd.nil 0 _ _ 9)) ?_
  rintro _ w6 ⟨v1, rfl, hK, hF, -⟩; refine ⟨_, rfl, ?_⟩; clear S a; intro a S
  have hF := hF hcok.1.1
  rw [if_pos hcok.1.1] at S
  obtain ⟨lo3, hi3, -, M1⟩ := M.pushFresh hF; clear M; have M := M1; clear M1
  refine st_go [1, 1, 1, 1, 1] S rfl (by kernel_rfl) ?_; clear S a; intro a S
  replace S := S.sub [(0, _), (2, _), (4, _), (5, _), (26, _), (27, _), (28, _), (6, _), (7, _), (8, _)] rfl
  refine nxC ?_
  refine wp_seq ?_
  refine nxD ?_
  refine st_go [1, 1] S rfl (by kernel_rfl) ?_; clear S a; intro a S
  refine nxC ?_
  refine st_if (t := 46) S rfl ?_ ?_
  · clear S; intro h46 S
    exact absurd rfl h46
  clear S; intro h46 S
  refine st_condF S rfl ?_
  refine wp_skip ?_
  refine then_normal ?_
  refine wp_seq ?_
  refine wp_regionK [10, 15] #[false, false, false, false, false, false, false, false, false, false, false, false, false, false, false, false, false] rfl M (by kernel_rfl) ?_; clear M; intro w7 M
  refine k_pure 0 S rfl (fun w => y_move S rfl) ?_; clear S a; intro a S
  refine k_pure 1 S rfl (fun w => y_nilCheck S rfl) ?_; clear S a; intro a S
  refine k_pure 2 S rfl (fun w => y_fieldAddr (k := 0) S (by kernel_rfl) rfl) ?_; clear S a; intro a S
  refine k_read 3 S rfl (fun w hW => have M := M.grow hW; y_load S (by kernel_rfl) rfl (M.cell 4 rfl ((show _ = some (Value.pointer (some ⟨bd, 0, none⟩)) from rfl)))) ?_; clear S a; intro a S
  refine k_pure 4 S rfl (fun w => y_fieldAddr (k := 22) S (by kernel_rfl) rfl) ?_; clear S a; intro a S
  refine k_read 5 S rfl (fun w hW => have M := M.grow hW; y_loadAgg (cs := [_, _]) S (by kernel_rfl) rfl rfl (M.cellsAt (k := 2) 2 rfl rfl)) ?_; clear S a; intro a S
  refine k_pure 6 S rfl (fun w => y_fieldAddr (k := 0) S (by kernel_rfl) rfl) ?_; clear S a; intro a S
  refine k_pure 7 S rfl (fun w => y_fieldAddr (k := 3) S (by kernel_rfl) rfl) ?_; clear S a; intro a S
  refine k_read 8 S rfl (fun w hW => have M := M.grow hW; y_load S (by kernel_rfl) rfl (M.cell 2 rfl rfl)) ?_; clear S a; intro a S
  refine k_pure 9 S rfl (fun w => y_move S rfl) ?_; clear S a; intro a S
  refine k_one 10 rfl (by kernel_rfl) ?_
  refine st_call (xs := [(Operand.tmp 53), (Operand.tmp 55), (Operand.tmp 58), (Operand.tmp 59)]) S (enters_of Tryz.func69 (by decide) rfl) rfl rfl rfl (append_any (A := _ :: _ :: _ :: _ :: _ :: _ :: A) s.su.tail (s.n + (i : Int)) s.su.inc v1 (encR (clrR r)) hE1 M (fun W M => M.readAll 0 rfl (by have h9 := encR_len hcok.1; show (encR (clrR r)).length ≤ maxLen; unfold maxLen; omega)) hup1 (by unfold mayL; omega) (by omega) hinc (fun k => by have := hMi.dk.one k; omega)) ?_
  rintro _ w8 ⟨n', er, S2, rfl, hP, E2, hE2, M1⟩; refine ⟨_, rfl, ?_⟩; clear S M a; intro a S; have M := M1; clear M1
  simp only [List.cons_append] at M
  obtain ⟨rfl, rfl, rfl⟩ := app_rec hcok.1 (by omega) hP
  have hMi2 := hMi.step hr hk
  refine wpList_nil ?_; refine then_normal ?_; refine ⟨fun h => absurd h (by decide), ?_⟩
  refine k_pure 11 S rfl (fun w => y_move S rfl) ?_; clear S a; intro a S
  refine k_pure 12 S rfl (fun w => y_extract S rfl rfl) ?_; clear S a; intro a S
  refine k_pure 13 S rfl (fun w => y_extract S rfl rfl) ?_; clear S a; intro a S
  refine k_pure 14 S rfl (fun w => y_fieldAddr (k := 22) S (by kernel_rfl) rfl) ?_; clear S a; intro a S
  refine k_one 15 rfl (by kernel_rfl) ?_
  refine st_store (sz := 2) (us := [_, _]) S M 2 rfl (by kernel_rfl) rfl rfl rfl rfl rfl rfl (by first | decide | (simp; done) | (simp; omega)) ?_; clear M; intro w9 M
  simp only [putL, List.set_cons_zero, List.set_cons_succ, Nat.reduceAdd] at M
  refine wpList_nil ?_; refine then_normal ?_; refine ⟨fun h => absurd h (by decide), ?_⟩
  refine k_pure 16 S rfl (fun w => y_assign S rfl) ?_; clear S a; intro a S
  refine k_end (by kernel_rfl) ?_
  replace S := S.sub [(0, _), (2, _), (4, _), (5, _), (26, _), (27, _), (28, _), (6, _), (7, _), (46, _), (8, _)] rfl
  refine nxE ?_
  refine st_go [1, 1] S rfl (by kernel_rfl) ?_; clear S a; intro a S
  refine nxC ?_
  refine st_if (t := 65) S rfl ?_ ?_
  · clear S; intro h65 S
    exact absurd rfl h65
  clear S; intro h65 S
  refine st_condF S rfl ?_
  refine wp_skip ?_
  refine block_normal ?_
  refine nxF ?_
  (first | refine st_y S rfl rfl rfl (y_addN S rfl rfl (by omega)) ?_ | refine st_y S rfl rfl rfl (y_int S rfl rfl rfl) ?_); clear S a; intro a S
  refine st_go [1] S rfl (by kernel_rfl) ?_; clear S a; intro a S
  refine nxC ?_
  skip
  replace M := M.drop 0
  simp only [List.eraseIdx_cons_succ, List.eraseIdx_cons_zero] at M
  replace M := M.front 1 rfl
  simp only [List.eraseIdx_cons_succ, List.eraseIdx_cons_zero] at M
  refine ⟨s.op.length - (i + 1), by omega, i + 1, _, E2, lo9, hi9, by omega, rfl, hMi2, hE2, S.sub _ rfl, ?_⟩
  rw [show s.n + ((i + 1 : Nat) : Int) = s.n + (i : Int) + 1 by omega]
  exact M
end Go.Proofs.YtmdededhoibofaaGreat

namespace Go.Proofs.YtmdededhoibofaaGreat
open Go.RowKit Go.Sort
abbrev lgE (b bd : Nat) (s : Ls) (va : Option Addr) (vc : Nat) : Ent := .blk b (lgC (.pointer (some ⟨bd, 0, none⟩)) s (opV va vc s.op)).toArray 76
set_option maxHeartbeats 4000000 in
theorem room_any {wc w : World} {A E : List Ent} {b bd bN bB bI bX lo hi loI hiI : Nat} {S0 : DS} {T : List Nm} {K N : Int} (s : Ls) (r : Rc) (va ia : Option Addr) (vc ic : Nat) (vb : Option Addr) (cb : Nat) (hE : DkE bd S0 E)
    (M : Mem wc w (.blk bN #[.int .i64 1] 3 :: .blk bB (stC (s.take r) (opV vb cb (s.take r).op)).toArray 74 :: .blk bX #[.pointer (some ⟨b, 0, none⟩)] 33 :: .blk bI (stC s (opV ia ic s.op)).toArray 74 :: opE loI hiI ia ic s.op :: lgE b bd s va vc :: opE lo hi va vc s.op :: (A ++ E)))
    (hI : LInv S0 s T K) (hk : K ≤ s.su.inc) (hb : Lb s N) (h8 : (s.take r).op.length ≤ 1000) :
    Calls Tryz.prog 67 #[.pointer (some ⟨bN, 0, none⟩), .pointer (some ⟨bB, 0, none⟩), .pointer (some ⟨bI, 0, none⟩), .pointer (some ⟨bX, 0, none⟩)] w fun e w' => ∃ S1 E' va2 vc2 lo2 hi2 ia2 ic2 loI2 hiI2, e = .returned (.int .i64 0) ∧ (roomS s r → S1 = S0) ∧ LInv S1 (madeS s r) T K ∧ DkE bd S1 E' ∧ Mem wc w' (.blk bN #[.int .i64 1] 3 :: .blk bB (stC (s.take r) (opV vb cb (s.take r).op)).toArray 74 :: .blk bX #[.pointer (some ⟨b, 0, none⟩)] 33 :: .blk bI (stC (madeS s r) (opV ia2 ic2 (madeS s r).op)).toArray 74 :: opE loI2 hiI2 ia2 ic2 (madeS s r).op :: lgE b bd (madeS s r) va2 vc2 :: opE lo2 hi2 va2 vc2 (madeS s r).op :: (A ++ E')) := by
  have hl := hI.mayL
  have hfew := hI.few
  have hnx : 1 ≤ s.n ∧ s.n ≤ 10000 := by have := hb.nx; have := hb.few; omega
  refine calls_enter Tryz.func67 rfl 32 rfl rfl ?_; intro a S
  refine wp_seq ?_
  skip
  refine wp_region_lit ?_
  refine st_go [1] S rfl (by kernel_rfl) ?_; clear S a; intro a S
  refine nxC ?_
  refine wp_seq ?_
  refine wp_seq ?_
  refine wp_regionK [] #[false, false, false, false, false, false, false, false, false] rfl M (by kernel_rfl) ?_; clear M; intro w1 M
  refine k_read 0 S rfl (fun w hW => have M := M.grow hW; y_load S (by kernel_rfl) rfl (M.cell 0 rfl rfl)) ?_; clear S a; intro a S
  refine k_pure 1 S rfl (fun w => y_fieldAddr (k := 24) S (by kernel_rfl) rfl) ?_; clear S a; intro a S
  refine k_read 2 S rfl (fun w hW => have M := M.grow hW; y_load S (by kernel_rfl) rfl (M.cell 1 rfl ((show _ = some (opV vb cb (s.take r).op) from rfl)))) ?_; clear S a; intro a S
  refine k_pure 3 S rfl (fun w => y_lenS (E := 29) S rfl (by kernel_rfl)) ?_; clear S a; intro a S
  (first | refine k_pure 4 S rfl (fun w => y_addN S rfl rfl (by omega)) ?_ | refine k_pure 4 S rfl (fun w => y_int S rfl rfl rfl) ?_); clear S a; intro a S
  refine k_pure 5 S rfl (fun w => y_fieldAddr (k := 22) S (by kernel_rfl) rfl) ?_; clear S a; intro a S
  refine k_read 6 S rfl (fun w hW => have M := M.grow hW; y_loadAgg (cs := [_, _]) S (by kernel_rfl) rfl rfl (M.cellsAt (k := 2) 3 rfl rfl)) ?_; clear S a; intro a S
  refine k_one 7 rfl (by kernel_rfl) ?_
  refine st_call (xs := [(Operand.tmp 13)]) S (enters_of Tryz.func68 (by decide) rfl) rfl rfl rfl (FreeJ s.su.tail s.n _ (by unfold mayL; omega)) ?_
  rintro _ w2 ⟨rfl, hK⟩; refine ⟨_, rfl, ?_⟩; clear S a; intro a S; replace M := M.grow hK
  refine wpList_nil ?_; refine then_normal ?_; refine ⟨fun _ => hK, ?_⟩
  refine k_pure 8 S rfl (fun w => y_int S rfl rfl rfl) ?_; clear S a; intro a S
  refine k_end (by kernel_rfl) ?_
  refine then_normal ?_
  refine st_if (t := 15) S rfl ?_ ?_
  · clear S; intro h15 S
    refine st_condT S rfl ?_
    refine nxD ?_
    refine st_go [1] S rfl (by kernel_rfl) ?_; clear S a; intro a S
    refine nxC ?_
    refine wp_ret ?_
    refine then_ret ?_
    refine end_one S rfl (res_tmp rfl) ?_
    have hr : roomS s r := by unfold roomS; omega
    have e : madeS s r = s := if_pos hr
    rw [e]
    exact ⟨S0, E, va, vc, lo, hi, ia, ic, loI, hiI, rfl, fun _ => rfl, hI, hE, M⟩
  clear S; intro h15 S
  refine st_condF S rfl ?_
  refine wp_skip ?_
  refine then_normal ?_
  refine wp_seq ?_
  have hr : ¬ roomS s r := by unfold roomS; omega
  have e : madeS s r = savedS s := if_neg hr
  replace M := M.ord [6, 6] (by simp only [ordO, oG, oS, oE, oZ, oB] <;> rfl)
  refine wp_region_lit ?_
  refine st_y S rfl rfl rfl (y_load S (by kernel_rfl) rfl (M.cell 4 rfl ((show _ = some (Value.pointer (some ⟨b, 0, none⟩)) from rfl)))) ?_; clear S a; intro a S
  refine st_call (xs := [(Operand.tmp 17)]) S (enters_of Tryz.func41 (by decide) rfl) rfl rfl rfl (saved_any (A := _ :: _ :: _ :: _ :: _ :: A) (T := T) (K := K) (N := N) s va vc hE M hI hk hb) ?_
  rintro _ w3 ⟨S1, E1, ra, rc, lo3, hi3, rfl, hI1, hE1, M1⟩; refine ⟨_, rfl, ?_⟩; clear S M a; intro a S; have M := M1; clear M1
  simp only [List.cons_append] at M
  have hfew1 := hI1.few
  refine st_go [1, 1, 1] S rfl (by kernel_rfl) ?_; clear S a; intro a S
  refine st_alloc S M rfl rfl #[.int .i64 0, .int .i64 0, .int .i64 0, .int .i64 0, .int .i64 0, .int .i64 0, .int .i64 0, .int .i64 0, .int .i64 0, .int .i64 0, .int .i64 0, .int .i64 0, .int .i64 0, .int .i64 0, .int .i64 0, .int .i64 0, .int .i64 0, .int .i64 0, .int .i64 0, .int .i64 0, .int .i64 0, .int .i64 0, .int .i64 0, .int .i64 0, .slice none 0 0] (by kernel_rfl) ?_; clear S M a; intro a w4 bZ S M hB
  refine st_store (sz := 25) (us := [_, _, _, _, _, _, _, _, _, _, _, _, _, _, _, _, _, _, _, _, _, _, _, _, _]) S M 0 rfl (by kernel_rfl) rfl rfl rfl rfl rfl rfl (by first | decide | (simp; done) | (simp; omega)) ?_; clear M; intro w5 M
  simp only [putL, List.set_cons_zero, List.set_cons_succ, Nat.reduceAdd] at M
  refine st_go [1] S rfl (by kernel_rfl) ?_; clear S a; intro a S
  refine nxC ?_
  refine wp_seq ?_
  refine nxD ?_
  refine st_go [1, 1] S rfl (by kernel_rfl) ?_; clear S a; intro a S
  replace S := S.sub [(0, _), (1, _), (2, _), (3, _), (4, _), (15, _), (5, _), (6, _), (22, _)] rfl
  refine nxC ?_
  refine st_if (t := 22) S rfl ?_ ?_
  · clear S; intro h22 S
    exact absurd rfl h22
  clear S; intro h22 S
  refine st_condF S rfl ?_
  refine wp_skip ?_
  refine nxE ?_
  refine st_y S rfl rfl rfl (y_load S (by kernel_rfl) rfl (M.cell 6 rfl ((show _ = some (Value.pointer (some ⟨b, 0, none⟩)) from rfl)))) ?_; clear S a; intro a S
  skip
  refine st_y S rfl rfl rfl (y_loadAgg (cs := [_, _, _, _, _, _, _, _, _, _, _, _, _, _, _, _, _, _, _, _, _, _, _, _, _]) S (by kernel_rfl) rfl rfl (M.cellsAt (k := 25) 0 rfl rfl)) ?_; clear S a; intro a S
  refine st_go [1, 2] S rfl (by kernel_rfl) ?_; clear S a; intro a S
  refine st_store (sz := 25) (us := [_, _, _, _, _, _, _, _, _, _, _, _, _, _, _, _, _, _, _, _, _, _, _, _, _]) S M 2 rfl (by kernel_rfl) rfl rfl rfl rfl rfl rfl (by first | decide | (simp; done) | (simp; omega)) ?_; clear M; intro w6 M
  simp only [putL, List.set_cons_zero, List.set_cons_succ, Nat.reduceAdd] at M
  refine nxA ?_
  refine st_y S rfl rfl rfl (y_load S (by kernel_rfl) rfl (M.cell 6 rfl ((show _ = some (Value.pointer (some ⟨b, 0, none⟩)) from rfl)))) ?_; clear S a; intro a S
  refine st_go [1, 2] S rfl (by kernel_rfl) ?_; clear S a; intro a S
  refine st_call (xs := [(Operand.tmp 30)]) S (enters_of Tryz.func66 (by decide) rfl) rfl rfl rfl (copied_any (.pointer (some ⟨bd, 0, none⟩)) (savedS s) ra rc _ (M.blk 2 rfl) (rd_rcs M (p := 1) rfl (by omega)) (by omega)) ?_
  rintro _ w7 ⟨ja, jc, rfl, hF⟩; refine ⟨_, rfl, ?_⟩; clear S a; intro a S
  obtain ⟨lo4, hi4, -, M1⟩ := M.pushFresh hF; clear M; have M := M1; clear M1
  refine st_store (sz := 25) (us := [_, _, _, _, _, _, _, _, _, _, _, _, _, _, _, _, _, _, _, _, _, _, _, _, _]) S M 8 rfl (by kernel_rfl) rfl rfl rfl rfl rfl rfl (by first | decide | (simp; done) | (simp; omega)) ?_; clear M; intro w8 M
  simp only [putL, List.set_cons_zero, List.set_cons_succ, Nat.reduceAdd] at M
  refine nxA ?_
  refine st_go [1] S rfl (by kernel_rfl) ?_; clear S a; intro a S
  refine nxC ?_
  refine wp_ret ?_
  refine end_one S rfl (res_tmp rfl) ?_
  skip
  replace M := M.drop 4
  simp only [List.eraseIdx_cons_succ, List.eraseIdx_cons_zero] at M
  replace M := M.drop 1
  simp only [List.eraseIdx_cons_succ, List.eraseIdx_cons_zero] at M
  replace M := M.drop 7
  simp only [List.eraseIdx_cons_succ, List.eraseIdx_cons_zero] at M
  replace M := M.ord [1, 2, 2, 6, 6, 6, 6] (by simp only [ordO, oG, oS, oE, oZ, oB] <;> rfl)
  rw [e]
  exact ⟨S1, E1, ra, rc, lo3, hi3, ja, jc, lo4, hi4, rfl, fun h => absurd h hr, hI1.mono (fun n h => absurd h (by simp)), hE1, M⟩
end Go.Proofs.YtmdededhoibofaaGreat

namespace Go.Proofs.YtmdededhoibofaaGreat
open Go.RowKit Go.Sort
theorem keep_take (s : Ls) (r : Rc) : ({ madeS s r with n := (madeS s r).n + 1 } : Ls).take r = keepS s r := rfl
set_option maxHeartbeats 8000000 in
theorem keep_any {wc w : World} {A E : List Ent} {b bd lo hi : Nat} {S0 : DS} {T : List Nm} {K N : Int} (s : Ls) (r : Rc) (fl : Bool) (va wa : Option Addr) (vc wn wk : Nat) (hE : DkE bd S0 E)
    (M : Mem wc w (lgE b bd s va vc :: opE lo hi va vc s.op :: (A ++ E))) (hu : Ws 0 wc.heap.size wc (.slice wa wn wk) [])
    (hI : LInv S0 s T K) (hk : K ≤ s.su.inc) (hb : Lb s N) (hr : recOk r) (h8 : (s.take r).op.length ≤ 8) (hf : if fl = true then s.op.length ≤ (s.take r).op.length else ∃ k, r.kind = 5 ∧ fd s.op r.name = some k) :
    Calls Tryz.prog 40 #[.pointer (some ⟨b, 0, none⟩), .agg (r.cells (.slice wa wn wk)), .bool fl] w fun e w' => e = .returned (.int .i64 0) ∧ ∃ S1 E' va2 vc2 lo2 hi2, LInv S1 (keepS s r) (if fl = true then [] else r.name :: T) K ∧ (fl = false → roomS s r → S1 = putF S0 (cutF (encR r) s.n s.su.inc)) ∧ DkE bd S1 E' ∧ Mem wc w' (lgE b bd (keepS s r) va2 vc2 :: opE lo2 hi2 va2 vc2 (keepS s r).op :: (A ++ E')) := by
  have hfew := hI.few
  have hmay := hI.may
  have hinc : 0 ≤ s.su.inc ∧ s.su.inc ≤ 1048576 := ⟨hmay.2.2.2.2.2.2.2.1, hmay.2.2.2.2.2.2.2.2.1⟩
  have hen : 0 < (r.enc []).length ∧ (r.enc []).length ≤ 13 := encR_len hr
  have hw1 : wantsP (((r.enc []).length : Nat) : Int) = 1 := by unfold wantsP; rw [if_neg (by omega)]; omega
  have hnx : 1 ≤ s.n ∧ s.n ≤ 10000 := by have := hb.nx; have := hb.few; have := hI.mayL; omega
  have hmn : (madeS s r).n ≤ 10100 := by
    unfold madeS; split
    · omega
    · show s.n + (s.op.length : Int) ≤ _; omega
  have hk1 : K ≤ (madeS s r).su.inc := by rw [made_inc]; exact hk
  refine calls_enter Tryz.func40 rfl 73 rfl rfl ?_; intro a S
  refine wp_seq ?_
  skip
  refine wp_region_lit ?_
  refine st_box S M rfl rfl rfl #[_] rfl ?_; clear S M a; intro a w1 bX S M hB
  refine st_box S M rfl rfl rfl #[_, _, _, _, _, _, _, _, _, _, _, _] rfl ?_; clear S M a; intro a w2 bRr S M hB
  refine st_go [1] S rfl (by kernel_rfl) ?_; clear S a; intro a S
  refine nxA ?_
  refine st_y S rfl rfl rfl (y_loadAgg (cs := [_, _, _, _, _, _, _, _, _, _, _, _]) S (by kernel_rfl) rfl rfl (M.cellsAt (k := 12) 0 rfl rfl)) ?_; clear S a; intro a S
  refine st_call (xs := [(Operand.tmp 14)]) S (enters_of Tryz.func56 (by decide) rfl) rfl rfl rfl (bytesR_any r wa wn wk [] _ (rec_shards hr) (M.argW hu)) ?_
  rintro _ w3 ⟨v1, rfl, hK, hF, -⟩; refine ⟨_, rfl, ?_⟩; clear S a; intro a S
  have hF := hF hr.1
  rw [if_pos hr.1] at S
  obtain ⟨lo3, hi3, -, M1⟩ := M.pushFresh hF; clear M; have M := M1; clear M1
  refine st_go [1, 1, 1, 1, 1] S rfl (by kernel_rfl) ?_; clear S a; intro a S
  refine nxC ?_
  refine wp_seq ?_
  refine nxD ?_
  refine st_go [1, 1] S rfl (by kernel_rfl) ?_; clear S a; intro a S
  refine nxC ?_
  refine st_if (t := 19) S rfl ?_ ?_
  · clear S; intro h19 S
    exact absurd rfl h19
  clear S; intro h19 S
  refine st_condF S rfl ?_
  refine wp_skip ?_
  refine nxE ?_
  refine st_go [1] S rfl (by kernel_rfl) ?_; clear S a; intro a S
  refine st_y S rfl rfl rfl (y_lenR (E := 5) S rfl (M.readAll 0 rfl (by show (r.enc []).length ≤ maxLen; unfold maxLen; omega)) (by kernel_rfl)) ?_; clear S a; intro a S
  refine st_call (xs := [(Operand.tmp 22)]) S (enters_of Tryz.func65 (by decide) rfl) rfl rfl rfl (wants_any _ _) ?_
  rintro _ w4 ⟨rfl, hK⟩; refine ⟨_, rfl, ?_⟩; clear S a; intro a S; replace M := M.grow hK
  rw [hw1] at S
  refine st_alloc S M rfl rfl #[.int .i64 0] (by kernel_rfl) ?_; clear S M a; intro a w5 bBn S M hB
  refine st_store (sz := 1) (us := [_]) S M 0 rfl (by kernel_rfl) rfl rfl rfl rfl rfl rfl (by first | decide | (simp; done) | (simp; omega)) ?_; clear M; intro w6 M
  simp only [putL, List.set_cons_zero, List.set_cons_succ, Nat.reduceAdd] at M
  refine nxC ?_
  refine wp_cut (fun a w' => ∃ (bI bB : Nat) (ra : Option Addr) (rc : Nat) (ka : Option Addr) (kc lo4 hi4 lo5 hi5 : Nat), Sees 73 a [(2, .bool fl), (3, .pointer (some ⟨bX, 0, none⟩)), (4, .pointer (some ⟨bRr, 0, none⟩)), (7, v1), (9, .pointer (some ⟨bBn, 0, none⟩)), (10, .pointer (some ⟨bI, 0, none⟩)), (11, .pointer (some ⟨bB, 0, none⟩))] ∧ Mem wc w' (.blk bB (stC s (opV ka kc s.op)).toArray 74 :: opE lo5 hi5 ka kc s.op :: .blk bI (stC s (opV ra rc s.op)).toArray 74 :: opE lo4 hi4 ra rc s.op :: .blk bBn #[.int .i64 1] 3 :: rowE lo3 hi3 5 1 v1 (r.enc []).length (bcells (r.enc [])) :: .blk bRr (r.cells (.slice wa wn wk)) 29 :: .blk bX #[.pointer (some ⟨b, 0, none⟩)] 33 :: lgE b bd s va vc :: opE lo hi va vc s.op :: (A ++ E))) ?_ ?_
  · skip
    refine wp_regionK [10, 11] #[false, false, false, false, false, false, false, false, false, false, false, false] rfl M (by kernel_rfl) ?_; clear M; intro w7 M
    refine k_read 0 S rfl (fun w hW => have M := M.grow hW; y_load S (by kernel_rfl) rfl (M.cell 3 rfl ((show _ = some (Value.pointer (some ⟨b, 0, none⟩)) from rfl)))) ?_; clear S a; intro a S
    refine k_pure 1 S rfl (fun w => y_nilCheck S rfl) ?_; clear S a; intro a S
    refine k_pure 2 S rfl (fun w => y_fieldAddr (k := 1) S (by kernel_rfl) rfl) ?_; clear S a; intro a S
    refine k_read 4 S rfl (fun w hW => have M := M.grow hW; y_load S (by kernel_rfl) rfl (M.cell 3 rfl ((show _ = some (Value.pointer (some ⟨b, 0, none⟩)) from rfl)))) ?_; clear S a; intro a S
    refine k_pure 5 S rfl (fun w => y_nilCheck S rfl) ?_; clear S a; intro a S
    refine k_pure 6 S rfl (fun w => y_fieldAddr (k := 1) S (by kernel_rfl) rfl) ?_; clear S a; intro a S
    refine k_three 3 8 9 rfl rfl rfl (by kernel_rfl) ?_ ?_ ?_
    · skip
      refine st_call (xs := [(Operand.tmp 26)]) S (enters_of Tryz.func66 (by decide) rfl) rfl rfl rfl (copied_any (.pointer (some ⟨bd, 0, none⟩)) s va vc _ (M.blk 4 rfl) (rd_rcs M (p := 5) rfl (by omega)) (by omega)) ?_
      rintro _ w8 ⟨ra, rc, rfl, hF⟩; refine ⟨_, rfl, ?_⟩; clear S a; intro a S
      have hK := hF.below
      obtain ⟨lo4, hi4, -, M1⟩ := M.pushFresh hF; clear M; have M := M1; clear M1
      refine wpList_nil ?_; refine then_normal ?_; refine ⟨fun _ => hK, ?_⟩
      refine k_three 7 8 9 rfl rfl rfl (by kernel_rfl) ?_ ?_ ?_
      · skip
        refine st_call (xs := [(Operand.tmp 30)]) S (enters_of Tryz.func66 (by decide) rfl) rfl rfl rfl (copied_any (.pointer (some ⟨bd, 0, none⟩)) s va vc _ (M.blk 5 rfl) (rd_rcs M (p := 6) rfl (by omega)) (by omega)) ?_
        rintro _ w9 ⟨ka, kc, rfl, hF⟩; refine ⟨_, rfl, ?_⟩; clear S a; intro a S
        have hK := hF.below
        obtain ⟨lo5, hi5, -, M1⟩ := M.pushFresh hF; clear M; have M := M1; clear M1
        refine wpList_nil ?_; refine then_normal ?_; refine ⟨fun _ => hK, ?_⟩
        refine k_two 8 9 rfl rfl (by kernel_rfl) ?_ ?_
        · skip
          refine st_alloc S M rfl rfl #[.int .i64 0, .int .i64 0, .int .i64 0, .int .i64 0, .int .i64 0, .int .i64 0, .int .i64 0, .int .i64 0, .int .i64 0, .int .i64 0, .int .i64 0, .int .i64 0, .int .i64 0, .int .i64 0, .int .i64 0, .int .i64 0, .int .i64 0, .int .i64 0, .int .i64 0, .int .i64 0, .int .i64 0, .int .i64 0, .int .i64 0, .int .i64 0, .slice none 0 0] (by kernel_rfl) ?_; clear S M a; intro a w10 bI S M hB
          refine wpList_nil ?_; refine then_normal ?_; refine ⟨fun _ => hB, ?_⟩
          refine k_one 9 rfl (by kernel_rfl) ?_
          refine st_alloc S M rfl rfl #[.int .i64 0, .int .i64 0, .int .i64 0, .int .i64 0, .int .i64 0, .int .i64 0, .int .i64 0, .int .i64 0, .int .i64 0, .int .i64 0, .int .i64 0, .int .i64 0, .int .i64 0, .int .i64 0, .int .i64 0, .int .i64 0, .int .i64 0, .int .i64 0, .int .i64 0, .int .i64 0, .int .i64 0, .int .i64 0, .int .i64 0, .int .i64 0, .slice none 0 0] (by kernel_rfl) ?_; clear S M a; intro a w11 bB S M hB
          refine wpList_nil ?_; refine then_normal ?_; refine ⟨fun _ => hB, ?_⟩
          refine k_one 10 rfl (by kernel_rfl) ?_
          refine st_store (sz := 25) (us := [_, _, _, _, _, _, _, _, _, _, _, _, _, _, _, _, _, _, _, _, _, _, _, _, _]) S M 1 rfl (by kernel_rfl) rfl rfl rfl rfl rfl rfl (by first | decide | (simp; done) | (simp; omega)) ?_; clear M; intro w12 M
          simp only [putL, List.set_cons_zero, List.set_cons_succ, Nat.reduceAdd] at M
          refine wpList_nil ?_; refine then_normal ?_; refine ⟨fun h => absurd h (by decide), ?_⟩
          refine k_one 11 rfl (by kernel_rfl) ?_
          refine st_store (sz := 25) (us := [_, _, _, _, _, _, _, _, _, _, _, _, _, _, _, _, _, _, _, _, _, _, _, _, _]) S M 0 rfl (by kernel_rfl) rfl rfl rfl rfl rfl rfl (by first | decide | (simp; done) | (simp; omega)) ?_; clear M; intro w13 M
          simp only [putL, List.set_cons_zero, List.set_cons_succ, Nat.reduceAdd] at M
          refine wpList_nil ?_; refine then_normal ?_; refine ⟨fun h => absurd h (by decide), ?_⟩
          refine k_end (by kernel_rfl) ?_
          replace S := S.sub [(0, _), (1, _), (2, _), (3, _), (4, _), (6, _), (7, _), (8, _), (19, _), (9, _), (10, _), (11, _)] rfl
          refine then_normal ?_
          skip
          replace M := M.ord [9, 9, 9, 9, 9, 9, 9, 8, 9, 9] (by simp only [ordO, oG, oS, oE, oZ, oB] <;> rfl)
          exact ⟨_, _, ra, rc, ka, kc, lo4, hi4, lo5, hi5, S.sub _ rfl, M⟩
        · skip
          refine st_alloc S M rfl rfl #[.int .i64 0, .int .i64 0, .int .i64 0, .int .i64 0, .int .i64 0, .int .i64 0, .int .i64 0, .int .i64 0, .int .i64 0, .int .i64 0, .int .i64 0, .int .i64 0, .int .i64 0, .int .i64 0, .int .i64 0, .int .i64 0, .int .i64 0, .int .i64 0, .int .i64 0, .int .i64 0, .int .i64 0, .int .i64 0, .int .i64 0, .int .i64 0, .slice none 0 0] (by kernel_rfl) ?_; clear S M a; intro a w14 bB S M hB
          refine wpList_nil ?_; refine then_normal ?_; refine ⟨fun _ => hB, ?_⟩
          refine k_one 8 rfl (by kernel_rfl) ?_
          refine st_alloc S M rfl rfl #[.int .i64 0, .int .i64 0, .int .i64 0, .int .i64 0, .int .i64 0, .int .i64 0, .int .i64 0, .int .i64 0, .int .i64 0, .int .i64 0, .int .i64 0, .int .i64 0, .int .i64 0, .int .i64 0, .int .i64 0, .int .i64 0, .int .i64 0, .int .i64 0, .int .i64 0, .int .i64 0, .int .i64 0, .int .i64 0, .int .i64 0, .int .i64 0, .slice none 0 0] (by kernel_rfl) ?_; clear S M a; intro a w15 bI S M hB
          refine wpList_nil ?_; refine then_normal ?_; refine ⟨fun _ => hB, ?_⟩
          refine k_one 10 rfl (by kernel_rfl) ?_
          refine st_store (sz := 25) (us := [_, _, _, _, _, _, _, _, _, _, _, _, _, _, _, _, _, _, _, _, _, _, _, _, _]) S M 0 rfl (by kernel_rfl) rfl rfl rfl rfl rfl rfl (by first | decide | (simp; done) | (simp; omega)) ?_; clear M; intro w16 M
          simp only [putL, List.set_cons_zero, List.set_cons_succ, Nat.reduceAdd] at M
          refine wpList_nil ?_; refine then_normal ?_; refine ⟨fun h => absurd h (by decide), ?_⟩
          refine k_one 11 rfl (by kernel_rfl) ?_
          refine st_store (sz := 25) (us := [_, _, _, _, _, _, _, _, _, _, _, _, _, _, _, _, _, _, _, _, _, _, _, _, _]) S M 1 rfl (by kernel_rfl) rfl rfl rfl rfl rfl rfl (by first | decide | (simp; done) | (simp; omega)) ?_; clear M; intro w17 M
          simp only [putL, List.set_cons_zero, List.set_cons_succ, Nat.reduceAdd] at M
          refine wpList_nil ?_; refine then_normal ?_; refine ⟨fun h => absurd h (by decide), ?_⟩
          refine k_end (by kernel_rfl) ?_
          replace S := S.sub [(0, _), (1, _), (2, _), (3, _), (4, _), (6, _), (7, _), (8, _), (19, _), (9, _), (11, _), (10, _)] rfl
          refine then_normal ?_
          skip
          replace M := M.ord [9, 9, 9, 9, 9, 9, 9, 7, 9, 9] (by simp only [ordO, oG, oS, oE, oZ, oB] <;> rfl)
          exact ⟨_, _, ra, rc, ka, kc, lo4, hi4, lo5, hi5, S.sub _ rfl, M⟩
      · skip
        refine st_alloc S M rfl rfl #[.int .i64 0, .int .i64 0, .int .i64 0, .int .i64 0, .int .i64 0, .int .i64 0, .int .i64 0, .int .i64 0, .int .i64 0, .int .i64 0, .int .i64 0, .int .i64 0, .int .i64 0, .int .i64 0, .int .i64 0, .int .i64 0, .int .i64 0, .int .i64 0, .int .i64 0, .int .i64 0, .int .i64 0, .int .i64 0, .int .i64 0, .int .i64 0, .slice none 0 0] (by kernel_rfl) ?_; clear S M a; intro a w18 bI S M hB
        refine wpList_nil ?_; refine then_normal ?_; refine ⟨fun _ => hB, ?_⟩
        refine k_two 7 9 rfl rfl (by kernel_rfl) ?_ ?_
        · skip
          refine st_call (xs := [(Operand.tmp 30)]) S (enters_of Tryz.func66 (by decide) rfl) rfl rfl rfl (copied_any (.pointer (some ⟨bd, 0, none⟩)) s va vc _ (M.blk 6 rfl) (rd_rcs M (p := 7) rfl (by omega)) (by omega)) ?_
          rintro _ w19 ⟨ka, kc, rfl, hF⟩; refine ⟨_, rfl, ?_⟩; clear S a; intro a S
          have hK := hF.below
          obtain ⟨lo5, hi5, -, M1⟩ := M.pushFresh hF; clear M; have M := M1; clear M1
          refine wpList_nil ?_; refine then_normal ?_; refine ⟨fun _ => hK, ?_⟩
          refine k_one 9 rfl (by kernel_rfl) ?_
          refine st_alloc S M rfl rfl #[.int .i64 0, .int .i64 0, .int .i64 0, .int .i64 0, .int .i64 0, .int .i64 0, .int .i64 0, .int .i64 0, .int .i64 0, .int .i64 0, .int .i64 0, .int .i64 0, .int .i64 0, .int .i64 0, .int .i64 0, .int .i64 0, .int .i64 0, .int .i64 0, .int .i64 0, .int .i64 0, .int .i64 0, .int .i64 0, .int .i64 0, .int .i64 0, .slice none 0 0] (by kernel_rfl) ?_; clear S M a; intro a w20 bB S M hB
          refine wpList_nil ?_; refine then_normal ?_; refine ⟨fun _ => hB, ?_⟩
          refine k_one 10 rfl (by kernel_rfl) ?_
          refine st_store (sz := 25) (us := [_, _, _, _, _, _, _, _, _, _, _, _, _, _, _, _, _, _, _, _, _, _, _, _, _]) S M 2 rfl (by kernel_rfl) rfl rfl rfl rfl rfl rfl (by first | decide | (simp; done) | (simp; omega)) ?_; clear M; intro w21 M
          simp only [putL, List.set_cons_zero, List.set_cons_succ, Nat.reduceAdd] at M
          refine wpList_nil ?_; refine then_normal ?_; refine ⟨fun h => absurd h (by decide), ?_⟩
          refine k_one 11 rfl (by kernel_rfl) ?_
          refine st_store (sz := 25) (us := [_, _, _, _, _, _, _, _, _, _, _, _, _, _, _, _, _, _, _, _, _, _, _, _, _]) S M 0 rfl (by kernel_rfl) rfl rfl rfl rfl rfl rfl (by first | decide | (simp; done) | (simp; omega)) ?_; clear M; intro w22 M
          simp only [putL, List.set_cons_zero, List.set_cons_succ, Nat.reduceAdd] at M
          refine wpList_nil ?_; refine then_normal ?_; refine ⟨fun h => absurd h (by decide), ?_⟩
          refine k_end (by kernel_rfl) ?_
          replace S := S.sub [(0, _), (1, _), (2, _), (3, _), (4, _), (6, _), (7, _), (8, _), (19, _), (9, _), (10, _), (11, _)] rfl
          refine then_normal ?_
          skip
          replace M := M.ord [9, 9, 9, 9, 9, 9, 9, 9, 9, 9] (by simp only [ordO, oG, oS, oE, oZ, oB] <;> rfl)
          exact ⟨_, _, ra, rc, ka, kc, lo4, hi4, lo5, hi5, S.sub _ rfl, M⟩
        · skip
          refine st_alloc S M rfl rfl #[.int .i64 0, .int .i64 0, .int .i64 0, .int .i64 0, .int .i64 0, .int .i64 0, .int .i64 0, .int .i64 0, .int .i64 0, .int .i64 0, .int .i64 0, .int .i64 0, .int .i64 0, .int .i64 0, .int .i64 0, .int .i64 0, .int .i64 0, .int .i64 0, .int .i64 0, .int .i64 0, .int .i64 0, .int .i64 0, .int .i64 0, .int .i64 0, .slice none 0 0] (by kernel_rfl) ?_; clear S M a; intro a w23 bB S M hB
          refine wpList_nil ?_; refine then_normal ?_; refine ⟨fun _ => hB, ?_⟩
          refine k_one 7 rfl (by kernel_rfl) ?_
          refine st_call (xs := [(Operand.tmp 30)]) S (enters_of Tryz.func66 (by decide) rfl) rfl rfl rfl (copied_any (.pointer (some ⟨bd, 0, none⟩)) s va vc _ (M.blk 7 rfl) (rd_rcs M (p := 8) rfl (by omega)) (by omega)) ?_
          rintro _ w24 ⟨ka, kc, rfl, hF⟩; refine ⟨_, rfl, ?_⟩; clear S a; intro a S
          have hK := hF.below
          obtain ⟨lo5, hi5, -, M1⟩ := M.pushFresh hF; clear M; have M := M1; clear M1
          refine wpList_nil ?_; refine then_normal ?_; refine ⟨fun _ => hK, ?_⟩
          refine k_one 10 rfl (by kernel_rfl) ?_
          refine st_store (sz := 25) (us := [_, _, _, _, _, _, _, _, _, _, _, _, _, _, _, _, _, _, _, _, _, _, _, _, _]) S M 2 rfl (by kernel_rfl) rfl rfl rfl rfl rfl rfl (by first | decide | (simp; done) | (simp; omega)) ?_; clear M; intro w25 M
          simp only [putL, List.set_cons_zero, List.set_cons_succ, Nat.reduceAdd] at M
          refine wpList_nil ?_; refine then_normal ?_; refine ⟨fun h => absurd h (by decide), ?_⟩
          refine k_one 11 rfl (by kernel_rfl) ?_
          refine st_store (sz := 25) (us := [_, _, _, _, _, _, _, _, _, _, _, _, _, _, _, _, _, _, _, _, _, _, _, _, _]) S M 1 rfl (by kernel_rfl) rfl rfl rfl rfl rfl rfl (by first | decide | (simp; done) | (simp; omega)) ?_; clear M; intro w26 M
          simp only [putL, List.set_cons_zero, List.set_cons_succ, Nat.reduceAdd] at M
          refine wpList_nil ?_; refine then_normal ?_; refine ⟨fun h => absurd h (by decide), ?_⟩
          refine k_end (by kernel_rfl) ?_
          replace S := S.sub [(0, _), (1, _), (2, _), (3, _), (4, _), (6, _), (7, _), (8, _), (19, _), (9, _), (10, _), (11, _)] rfl
          refine then_normal ?_
          skip
          replace M := M.ord [9, 9, 9, 9, 9, 9, 9, 9, 8, 9] (by simp only [ordO, oG, oS, oE, oZ, oB] <;> rfl)
          exact ⟨_, _, ra, rc, ka, kc, lo4, hi4, lo5, hi5, S.sub _ rfl, M⟩
      · skip
        refine st_alloc S M rfl rfl #[.int .i64 0, .int .i64 0, .int .i64 0, .int .i64 0, .int .i64 0, .int .i64 0, .int .i64 0, .int .i64 0, .int .i64 0, .int .i64 0, .int .i64 0, .int .i64 0, .int .i64 0, .int .i64 0, .int .i64 0, .int .i64 0, .int .i64 0, .int .i64 0, .int .i64 0, .int .i64 0, .int .i64 0, .int .i64 0, .int .i64 0, .int .i64 0, .slice none 0 0] (by kernel_rfl) ?_; clear S M a; intro a w27 bB S M hB
        refine wpList_nil ?_; refine then_normal ?_; refine ⟨fun _ => hB, ?_⟩
        refine k_two 7 8 rfl rfl (by kernel_rfl) ?_ ?_
        · skip
          refine st_call (xs := [(Operand.tmp 30)]) S (enters_of Tryz.func66 (by decide) rfl) rfl rfl rfl (copied_any (.pointer (some ⟨bd, 0, none⟩)) s va vc _ (M.blk 6 rfl) (rd_rcs M (p := 7) rfl (by omega)) (by omega)) ?_
          rintro _ w28 ⟨ka, kc, rfl, hF⟩; refine ⟨_, rfl, ?_⟩; clear S a; intro a S
          have hK := hF.below
          obtain ⟨lo5, hi5, -, M1⟩ := M.pushFresh hF; clear M; have M := M1; clear M1
          refine wpList_nil ?_; refine then_normal ?_; refine ⟨fun _ => hK, ?_⟩
          refine k_one 8 rfl (by kernel_rfl) ?_
          refine st_alloc S M rfl rfl #[.int .i64 0, .int .i64 0, .int .i64 0, .int .i64 0, .int .i64 0, .int .i64 0, .int .i64 0, .int .i64 0, .int .i64 0, .int .i64 0, .int .i64 0, .int .i64 0, .int .i64 0, .int .i64 0, .int .i64 0, .int .i64 0, .int .i64 0, .int .i64 0, .int .i64 0, .int .i64 0, .int .i64 0, .int .i64 0, .int .i64 0, .int .i64 0, .slice none 0 0] (by kernel_rfl) ?_; clear S M a; intro a w29 bI S M hB
          refine wpList_nil ?_; refine then_normal ?_; refine ⟨fun _ => hB, ?_⟩
          refine k_one 10 rfl (by kernel_rfl) ?_
          refine st_store (sz := 25) (us := [_, _, _, _, _, _, _, _, _, _, _, _, _, _, _, _, _, _, _, _, _, _, _, _, _]) S M 0 rfl (by kernel_rfl) rfl rfl rfl rfl rfl rfl (by first | decide | (simp; done) | (simp; omega)) ?_; clear M; intro w30 M
          simp only [putL, List.set_cons_zero, List.set_cons_succ, Nat.reduceAdd] at M
          refine wpList_nil ?_; refine then_normal ?_; refine ⟨fun h => absurd h (by decide), ?_⟩
          refine k_one 11 rfl (by kernel_rfl) ?_
          refine st_store (sz := 25) (us := [_, _, _, _, _, _, _, _, _, _, _, _, _, _, _, _, _, _, _, _, _, _, _, _, _]) S M 2 rfl (by kernel_rfl) rfl rfl rfl rfl rfl rfl (by first | decide | (simp; done) | (simp; omega)) ?_; clear M; intro w31 M
          simp only [putL, List.set_cons_zero, List.set_cons_succ, Nat.reduceAdd] at M
          refine wpList_nil ?_; refine then_normal ?_; refine ⟨fun h => absurd h (by decide), ?_⟩
          refine k_end (by kernel_rfl) ?_
          replace S := S.sub [(0, _), (1, _), (2, _), (3, _), (4, _), (6, _), (7, _), (8, _), (19, _), (9, _), (11, _), (10, _)] rfl
          refine then_normal ?_
          skip
          replace M := M.ord [9, 9, 9, 9, 9, 9, 9, 7, 8, 9] (by simp only [ordO, oG, oS, oE, oZ, oB] <;> rfl)
          exact ⟨_, _, ra, rc, ka, kc, lo4, hi4, lo5, hi5, S.sub _ rfl, M⟩
        · skip
          refine st_alloc S M rfl rfl #[.int .i64 0, .int .i64 0, .int .i64 0, .int .i64 0, .int .i64 0, .int .i64 0, .int .i64 0, .int .i64 0, .int .i64 0, .int .i64 0, .int .i64 0, .int .i64 0, .int .i64 0, .int .i64 0, .int .i64 0, .int .i64 0, .int .i64 0, .int .i64 0, .int .i64 0, .int .i64 0, .int .i64 0, .int .i64 0, .int .i64 0, .int .i64 0, .slice none 0 0] (by kernel_rfl) ?_; clear S M a; intro a w32 bI S M hB
          refine wpList_nil ?_; refine then_normal ?_; refine ⟨fun _ => hB, ?_⟩
          refine k_one 7 rfl (by kernel_rfl) ?_
          refine st_call (xs := [(Operand.tmp 30)]) S (enters_of Tryz.func66 (by decide) rfl) rfl rfl rfl (copied_any (.pointer (some ⟨bd, 0, none⟩)) s va vc _ (M.blk 7 rfl) (rd_rcs M (p := 8) rfl (by omega)) (by omega)) ?_
          rintro _ w33 ⟨ka, kc, rfl, hF⟩; refine ⟨_, rfl, ?_⟩; clear S a; intro a S
          have hK := hF.below
          obtain ⟨lo5, hi5, -, M1⟩ := M.pushFresh hF; clear M; have M := M1; clear M1
          refine wpList_nil ?_; refine then_normal ?_; refine ⟨fun _ => hK, ?_⟩
          refine k_one 10 rfl (by kernel_rfl) ?_
          refine st_store (sz := 25) (us := [_, _, _, _, _, _, _, _, _, _, _, _, _, _, _, _, _, _, _, _, _, _, _, _, _]) S M 1 rfl (by kernel_rfl) rfl rfl rfl rfl rfl rfl (by first | decide | (simp; done) | (simp; omega)) ?_; clear M; intro w34 M
          simp only [putL, List.set_cons_zero, List.set_cons_succ, Nat.reduceAdd] at M
          refine wpList_nil ?_; refine then_normal ?_; refine ⟨fun h => absurd h (by decide), ?_⟩
          refine k_one 11 rfl (by kernel_rfl) ?_
          refine st_store (sz := 25) (us := [_, _, _, _, _, _, _, _, _, _, _, _, _, _, _, _, _, _, _, _, _, _, _, _, _]) S M 2 rfl (by kernel_rfl) rfl rfl rfl rfl rfl rfl (by first | decide | (simp; done) | (simp; omega)) ?_; clear M; intro w35 M
          simp only [putL, List.set_cons_zero, List.set_cons_succ, Nat.reduceAdd] at M
          refine wpList_nil ?_; refine then_normal ?_; refine ⟨fun h => absurd h (by decide), ?_⟩
          refine k_end (by kernel_rfl) ?_
          replace S := S.sub [(0, _), (1, _), (2, _), (3, _), (4, _), (6, _), (7, _), (8, _), (19, _), (9, _), (11, _), (10, _)] rfl
          refine then_normal ?_
          skip
          replace M := M.ord [9, 9, 9, 9, 9, 9, 9, 8, 8, 9] (by simp only [ordO, oG, oS, oE, oZ, oB] <;> rfl)
          exact ⟨_, _, ra, rc, ka, kc, lo4, hi4, lo5, hi5, S.sub _ rfl, M⟩
    · skip
      refine st_alloc S M rfl rfl #[.int .i64 0, .int .i64 0, .int .i64 0, .int .i64 0, .int .i64 0, .int .i64 0, .int .i64 0, .int .i64 0, .int .i64 0, .int .i64 0, .int .i64 0, .int .i64 0, .int .i64 0, .int .i64 0, .int .i64 0, .int .i64 0, .int .i64 0, .int .i64 0, .int .i64 0, .int .i64 0, .int .i64 0, .int .i64 0, .int .i64 0, .int .i64 0, .slice none 0 0] (by kernel_rfl) ?_; clear S M a; intro a w36 bI S M hB
      refine wpList_nil ?_; refine then_normal ?_; refine ⟨fun _ => hB, ?_⟩
      refine k_two 3 9 rfl rfl (by kernel_rfl) ?_ ?_
      · skip
        refine st_call (xs := [(Operand.tmp 26)]) S (enters_of Tryz.func66 (by decide) rfl) rfl rfl rfl (copied_any (.pointer (some ⟨bd, 0, none⟩)) s va vc _ (M.blk 5 rfl) (rd_rcs M (p := 6) rfl (by omega)) (by omega)) ?_
        rintro _ w37 ⟨ra, rc, rfl, hF⟩; refine ⟨_, rfl, ?_⟩; clear S a; intro a S
        have hK := hF.below
        obtain ⟨lo4, hi4, -, M1⟩ := M.pushFresh hF; clear M; have M := M1; clear M1
        refine wpList_nil ?_; refine then_normal ?_; refine ⟨fun _ => hK, ?_⟩
        refine k_two 7 9 rfl rfl (by kernel_rfl) ?_ ?_
        · skip
          refine st_call (xs := [(Operand.tmp 30)]) S (enters_of Tryz.func66 (by decide) rfl) rfl rfl rfl (copied_any (.pointer (some ⟨bd, 0, none⟩)) s va vc _ (M.blk 6 rfl) (rd_rcs M (p := 7) rfl (by omega)) (by omega)) ?_
          rintro _ w38 ⟨ka, kc, rfl, hF⟩; refine ⟨_, rfl, ?_⟩; clear S a; intro a S
          have hK := hF.below
          obtain ⟨lo5, hi5, -, M1⟩ := M.pushFresh hF; clear M; have M := M1; clear M1
          refine wpList_nil ?_; refine then_normal ?_; refine ⟨fun _ => hK, ?_⟩
          refine k_one 9 rfl (by kernel_rfl) ?_
          refine st_alloc S M rfl rfl #[.int .i64 0, .int .i64 0, .int .i64 0, .int .i64 0, .int .i64 0, .int .i64 0, .int .i64 0, .int .i64 0, .int .i64 0, .int .i64 0, .int .i64 0, .int .i64 0, .int .i64 0, .int .i64 0, .int .i64 0, .int .i64 0, .int .i64 0, .int .i64 0, .int .i64 0, .int .i64 0, .int .i64 0, .int .i64 0, .int .i64 0, .int .i64 0, .slice none 0 0] (by kernel_rfl) ?_; clear S M a; intro a w39 bB S M hB
          refine wpList_nil ?_; refine then_normal ?_; refine ⟨fun _ => hB, ?_⟩
          refine k_one 10 rfl (by kernel_rfl) ?_
          refine st_store (sz := 25) (us := [_, _, _, _, _, _, _, _, _, _, _, _, _, _, _, _, _, _, _, _, _, _, _, _, _]) S M 3 rfl (by kernel_rfl) rfl rfl rfl rfl rfl rfl (by first | decide | (simp; done) | (simp; omega)) ?_; clear M; intro w40 M
          simp only [putL, List.set_cons_zero, List.set_cons_succ, Nat.reduceAdd] at M
          refine wpList_nil ?_; refine then_normal ?_; refine ⟨fun h => absurd h (by decide), ?_⟩
          refine k_one 11 rfl (by kernel_rfl) ?_
          refine st_store (sz := 25) (us := [_, _, _, _, _, _, _, _, _, _, _, _, _, _, _, _, _, _, _, _, _, _, _, _, _]) S M 0 rfl (by kernel_rfl) rfl rfl rfl rfl rfl rfl (by first | decide | (simp; done) | (simp; omega)) ?_; clear M; intro w41 M
          simp only [putL, List.set_cons_zero, List.set_cons_succ, Nat.reduceAdd] at M
          refine wpList_nil ?_; refine then_normal ?_; refine ⟨fun h => absurd h (by decide), ?_⟩
          refine k_end (by kernel_rfl) ?_
          replace S := S.sub [(0, _), (1, _), (2, _), (3, _), (4, _), (6, _), (7, _), (8, _), (19, _), (9, _), (10, _), (11, _)] rfl
          refine then_normal ?_
          skip
          replace M := M.ord [9, 9, 9, 9, 9, 9, 8, 9, 9, 9] (by simp only [ordO, oG, oS, oE, oZ, oB] <;> rfl)
          exact ⟨_, _, ra, rc, ka, kc, lo4, hi4, lo5, hi5, S.sub _ rfl, M⟩
        · skip
          refine st_alloc S M rfl rfl #[.int .i64 0, .int .i64 0, .int .i64 0, .int .i64 0, .int .i64 0, .int .i64 0, .int .i64 0, .int .i64 0, .int .i64 0, .int .i64 0, .int .i64 0, .int .i64 0, .int .i64 0, .int .i64 0, .int .i64 0, .int .i64 0, .int .i64 0, .int .i64 0, .int .i64 0, .int .i64 0, .int .i64 0, .int .i64 0, .int .i64 0, .int .i64 0, .slice none 0 0] (by kernel_rfl) ?_; clear S M a; intro a w42 bB S M hB
          refine wpList_nil ?_; refine then_normal ?_; refine ⟨fun _ => hB, ?_⟩
          refine k_one 7 rfl (by kernel_rfl) ?_
          refine st_call (xs := [(Operand.tmp 30)]) S (enters_of Tryz.func66 (by decide) rfl) rfl rfl rfl (copied_any (.pointer (some ⟨bd, 0, none⟩)) s va vc _ (M.blk 7 rfl) (rd_rcs M (p := 8) rfl (by omega)) (by omega)) ?_
          rintro _ w43 ⟨ka, kc, rfl, hF⟩; refine ⟨_, rfl, ?_⟩; clear S a; intro a S
          have hK := hF.below
          obtain ⟨lo5, hi5, -, M1⟩ := M.pushFresh hF; clear M; have M := M1; clear M1
          refine wpList_nil ?_; refine then_normal ?_; refine ⟨fun _ => hK, ?_⟩
          refine k_one 10 rfl (by kernel_rfl) ?_
          refine st_store (sz := 25) (us := [_, _, _, _, _, _, _, _, _, _, _, _, _, _, _, _, _, _, _, _, _, _, _, _, _]) S M 3 rfl (by kernel_rfl) rfl rfl rfl rfl rfl rfl (by first | decide | (simp; done) | (simp; omega)) ?_; clear M; intro w44 M
          simp only [putL, List.set_cons_zero, List.set_cons_succ, Nat.reduceAdd] at M
          refine wpList_nil ?_; refine then_normal ?_; refine ⟨fun h => absurd h (by decide), ?_⟩
          refine k_one 11 rfl (by kernel_rfl) ?_
          refine st_store (sz := 25) (us := [_, _, _, _, _, _, _, _, _, _, _, _, _, _, _, _, _, _, _, _, _, _, _, _, _]) S M 1 rfl (by kernel_rfl) rfl rfl rfl rfl rfl rfl (by first | decide | (simp; done) | (simp; omega)) ?_; clear M; intro w45 M
          simp only [putL, List.set_cons_zero, List.set_cons_succ, Nat.reduceAdd] at M
          refine wpList_nil ?_; refine then_normal ?_; refine ⟨fun h => absurd h (by decide), ?_⟩
          refine k_end (by kernel_rfl) ?_
          replace S := S.sub [(0, _), (1, _), (2, _), (3, _), (4, _), (6, _), (7, _), (8, _), (19, _), (9, _), (10, _), (11, _)] rfl
          refine then_normal ?_
          skip
          replace M := M.ord [9, 9, 9, 9, 9, 9, 8, 9, 8, 9] (by simp only [ordO, oG, oS, oE, oZ, oB] <;> rfl)
          exact ⟨_, _, ra, rc, ka, kc, lo4, hi4, lo5, hi5, S.sub _ rfl, M⟩
      · skip
        refine st_alloc S M rfl rfl #[.int .i64 0, .int .i64 0, .int .i64 0, .int .i64 0, .int .i64 0, .int .i64 0, .int .i64 0, .int .i64 0, .int .i64 0, .int .i64 0, .int .i64 0, .int .i64 0, .int .i64 0, .int .i64 0, .int .i64 0, .int .i64 0, .int .i64 0, .int .i64 0, .int .i64 0, .int .i64 0, .int .i64 0, .int .i64 0, .int .i64 0, .int .i64 0, .slice none 0 0] (by kernel_rfl) ?_; clear S M a; intro a w46 bB S M hB
        refine wpList_nil ?_; refine then_normal ?_; refine ⟨fun _ => hB, ?_⟩
        refine k_one 3 rfl (by kernel_rfl) ?_
        refine st_call (xs := [(Operand.tmp 26)]) S (enters_of Tryz.func66 (by decide) rfl) rfl rfl rfl (copied_any (.pointer (some ⟨bd, 0, none⟩)) s va vc _ (M.blk 6 rfl) (rd_rcs M (p := 7) rfl (by omega)) (by omega)) ?_
        rintro _ w47 ⟨ra, rc, rfl, hF⟩; refine ⟨_, rfl, ?_⟩; clear S a; intro a S
        have hK := hF.below
        obtain ⟨lo4, hi4, -, M1⟩ := M.pushFresh hF; clear M; have M := M1; clear M1
        refine wpList_nil ?_; refine then_normal ?_; refine ⟨fun _ => hK, ?_⟩
        refine k_one 7 rfl (by kernel_rfl) ?_
        refine st_call (xs := [(Operand.tmp 30)]) S (enters_of Tryz.func66 (by decide) rfl) rfl rfl rfl (copied_any (.pointer (some ⟨bd, 0, none⟩)) s va vc _ (M.blk 7 rfl) (rd_rcs M (p := 8) rfl (by omega)) (by omega)) ?_
        rintro _ w48 ⟨ka, kc, rfl, hF⟩; refine ⟨_, rfl, ?_⟩; clear S a; intro a S
        have hK := hF.below
        obtain ⟨lo5, hi5, -, M1⟩ := M.pushFresh hF; clear M; have M := M1; clear M1
        refine wpList_nil ?_; refine then_normal ?_; refine ⟨fun _ => hK, ?_⟩
        refine k_one 10 rfl (by kernel_rfl) ?_
        refine st_store (sz := 25) (us := [_, _, _, _, _, _, _, _, _, _, _, _, _, _, _, _, _, _, _, _, _, _, _, _, _]) S M 3 rfl (by kernel_rfl) rfl rfl rfl rfl rfl rfl (by first | decide | (simp; done) | (simp; omega)) ?_; clear M; intro w49 M
        simp only [putL, List.set_cons_zero, List.set_cons_succ, Nat.reduceAdd] at M
        refine wpList_nil ?_; refine then_normal ?_; refine ⟨fun h => absurd h (by decide), ?_⟩
        refine k_one 11 rfl (by kernel_rfl) ?_
        refine st_store (sz := 25) (us := [_, _, _, _, _, _, _, _, _, _, _, _, _, _, _, _, _, _, _, _, _, _, _, _, _]) S M 2 rfl (by kernel_rfl) rfl rfl rfl rfl rfl rfl (by first | decide | (simp; done) | (simp; omega)) ?_; clear M; intro w50 M
        simp only [putL, List.set_cons_zero, List.set_cons_succ, Nat.reduceAdd] at M
        refine wpList_nil ?_; refine then_normal ?_; refine ⟨fun h => absurd h (by decide), ?_⟩
        refine k_end (by kernel_rfl) ?_
        replace S := S.sub [(0, _), (1, _), (2, _), (3, _), (4, _), (6, _), (7, _), (8, _), (19, _), (9, _), (10, _), (11, _)] rfl
        refine then_normal ?_
        skip
        replace M := M.ord [9, 9, 9, 9, 9, 9, 7, 9, 8, 9] (by simp only [ordO, oG, oS, oE, oZ, oB] <;> rfl)
        exact ⟨_, _, ra, rc, ka, kc, lo4, hi4, lo5, hi5, S.sub _ rfl, M⟩
    · skip
      refine st_alloc S M rfl rfl #[.int .i64 0, .int .i64 0, .int .i64 0, .int .i64 0, .int .i64 0, .int .i64 0, .int .i64 0, .int .i64 0, .int .i64 0, .int .i64 0, .int .i64 0, .int .i64 0, .int .i64 0, .int .i64 0, .int .i64 0, .int .i64 0, .int .i64 0, .int .i64 0, .int .i64 0, .int .i64 0, .int .i64 0, .int .i64 0, .int .i64 0, .int .i64 0, .slice none 0 0] (by kernel_rfl) ?_; clear S M a; intro a w51 bB S M hB
      refine wpList_nil ?_; refine then_normal ?_; refine ⟨fun _ => hB, ?_⟩
      refine k_two 3 8 rfl rfl (by kernel_rfl) ?_ ?_
      · skip
        refine st_call (xs := [(Operand.tmp 26)]) S (enters_of Tryz.func66 (by decide) rfl) rfl rfl rfl (copied_any (.pointer (some ⟨bd, 0, none⟩)) s va vc _ (M.blk 5 rfl) (rd_rcs M (p := 6) rfl (by omega)) (by omega)) ?_
        rintro _ w52 ⟨ra, rc, rfl, hF⟩; refine ⟨_, rfl, ?_⟩; clear S a; intro a S
        have hK := hF.below
        obtain ⟨lo4, hi4, -, M1⟩ := M.pushFresh hF; clear M; have M := M1; clear M1
        refine wpList_nil ?_; refine then_normal ?_; refine ⟨fun _ => hK, ?_⟩
        refine k_two 7 8 rfl rfl (by kernel_rfl) ?_ ?_
        · skip
          refine st_call (xs := [(Operand.tmp 30)]) S (enters_of Tryz.func66 (by decide) rfl) rfl rfl rfl (copied_any (.pointer (some ⟨bd, 0, none⟩)) s va vc _ (M.blk 6 rfl) (rd_rcs M (p := 7) rfl (by omega)) (by omega)) ?_
          rintro _ w53 ⟨ka, kc, rfl, hF⟩; refine ⟨_, rfl, ?_⟩; clear S a; intro a S
          have hK := hF.below
          obtain ⟨lo5, hi5, -, M1⟩ := M.pushFresh hF; clear M; have M := M1; clear M1
          refine wpList_nil ?_; refine then_normal ?_; refine ⟨fun _ => hK, ?_⟩
          refine k_one 8 rfl (by kernel_rfl) ?_
          refine st_alloc S M rfl rfl #[.int .i64 0, .int .i64 0, .int .i64 0, .int .i64 0, .int .i64 0, .int .i64 0, .int .i64 0, .int .i64 0, .int .i64 0, .int .i64 0, .int .i64 0, .int .i64 0, .int .i64 0, .int .i64 0, .int .i64 0, .int .i64 0, .int .i64 0, .int .i64 0, .int .i64 0, .int .i64 0, .int .i64 0, .int .i64 0, .int .i64 0, .int .i64 0, .slice none 0 0] (by kernel_rfl) ?_; clear S M a; intro a w54 bI S M hB
          refine wpList_nil ?_; refine then_normal ?_; refine ⟨fun _ => hB, ?_⟩
          refine k_one 10 rfl (by kernel_rfl) ?_
          refine st_store (sz := 25) (us := [_, _, _, _, _, _, _, _, _, _, _, _, _, _, _, _, _, _, _, _, _, _, _, _, _]) S M 0 rfl (by kernel_rfl) rfl rfl rfl rfl rfl rfl (by first | decide | (simp; done) | (simp; omega)) ?_; clear M; intro w55 M
          simp only [putL, List.set_cons_zero, List.set_cons_succ, Nat.reduceAdd] at M
          refine wpList_nil ?_; refine then_normal ?_; refine ⟨fun h => absurd h (by decide), ?_⟩
          refine k_one 11 rfl (by kernel_rfl) ?_
          refine st_store (sz := 25) (us := [_, _, _, _, _, _, _, _, _, _, _, _, _, _, _, _, _, _, _, _, _, _, _, _, _]) S M 3 rfl (by kernel_rfl) rfl rfl rfl rfl rfl rfl (by first | decide | (simp; done) | (simp; omega)) ?_; clear M; intro w56 M
          simp only [putL, List.set_cons_zero, List.set_cons_succ, Nat.reduceAdd] at M
          refine wpList_nil ?_; refine then_normal ?_; refine ⟨fun h => absurd h (by decide), ?_⟩
          refine k_end (by kernel_rfl) ?_
          replace S := S.sub [(0, _), (1, _), (2, _), (3, _), (4, _), (6, _), (7, _), (8, _), (19, _), (9, _), (11, _), (10, _)] rfl
          refine then_normal ?_
          skip
          replace M := M.ord [9, 9, 9, 9, 9, 9, 8, 7, 8, 9] (by simp only [ordO, oG, oS, oE, oZ, oB] <;> rfl)
          exact ⟨_, _, ra, rc, ka, kc, lo4, hi4, lo5, hi5, S.sub _ rfl, M⟩
        · skip
          refine st_alloc S M rfl rfl #[.int .i64 0, .int .i64 0, .int .i64 0, .int .i64 0, .int .i64 0, .int .i64 0, .int .i64 0, .int .i64 0, .int .i64 0, .int .i64 0, .int .i64 0, .int .i64 0, .int .i64 0, .int .i64 0, .int .i64 0, .int .i64 0, .int .i64 0, .int .i64 0, .int .i64 0, .int .i64 0, .int .i64 0, .int .i64 0, .int .i64 0, .int .i64 0, .slice none 0 0] (by kernel_rfl) ?_; clear S M a; intro a w57 bI S M hB
          refine wpList_nil ?_; refine then_normal ?_; refine ⟨fun _ => hB, ?_⟩
          refine k_one 7 rfl (by kernel_rfl) ?_
          refine st_call (xs := [(Operand.tmp 30)]) S (enters_of Tryz.func66 (by decide) rfl) rfl rfl rfl (copied_any (.pointer (some ⟨bd, 0, none⟩)) s va vc _ (M.blk 7 rfl) (rd_rcs M (p := 8) rfl (by omega)) (by omega)) ?_
          rintro _ w58 ⟨ka, kc, rfl, hF⟩; refine ⟨_, rfl, ?_⟩; clear S a; intro a S
          have hK := hF.below
          obtain ⟨lo5, hi5, -, M1⟩ := M.pushFresh hF; clear M; have M := M1; clear M1
          refine wpList_nil ?_; refine then_normal ?_; refine ⟨fun _ => hK, ?_⟩
          refine k_one 10 rfl (by kernel_rfl) ?_
          refine st_store (sz := 25) (us := [_, _, _, _, _, _, _, _, _, _, _, _, _, _, _, _, _, _, _, _, _, _, _, _, _]) S M 1 rfl (by kernel_rfl) rfl rfl rfl rfl rfl rfl (by first | decide | (simp; done) | (simp; omega)) ?_; clear M; intro w59 M
          simp only [putL, List.set_cons_zero, List.set_cons_succ, Nat.reduceAdd] at M
          refine wpList_nil ?_; refine then_normal ?_; refine ⟨fun h => absurd h (by decide), ?_⟩
          refine k_one 11 rfl (by kernel_rfl) ?_
          refine st_store (sz := 25) (us := [_, _, _, _, _, _, _, _, _, _, _, _, _, _, _, _, _, _, _, _, _, _, _, _, _]) S M 3 rfl (by kernel_rfl) rfl rfl rfl rfl rfl rfl (by first | decide | (simp; done) | (simp; omega)) ?_; clear M; intro w60 M
          simp only [putL, List.set_cons_zero, List.set_cons_succ, Nat.reduceAdd] at M
          refine wpList_nil ?_; refine then_normal ?_; refine ⟨fun h => absurd h (by decide), ?_⟩
          refine k_end (by kernel_rfl) ?_
          replace S := S.sub [(0, _), (1, _), (2, _), (3, _), (4, _), (6, _), (7, _), (8, _), (19, _), (9, _), (11, _), (10, _)] rfl
          refine then_normal ?_
          skip
          replace M := M.ord [9, 9, 9, 9, 9, 9, 8, 8, 8, 9] (by simp only [ordO, oG, oS, oE, oZ, oB] <;> rfl)
          exact ⟨_, _, ra, rc, ka, kc, lo4, hi4, lo5, hi5, S.sub _ rfl, M⟩
      · skip
        refine st_alloc S M rfl rfl #[.int .i64 0, .int .i64 0, .int .i64 0, .int .i64 0, .int .i64 0, .int .i64 0, .int .i64 0, .int .i64 0, .int .i64 0, .int .i64 0, .int .i64 0, .int .i64 0, .int .i64 0, .int .i64 0, .int .i64 0, .int .i64 0, .int .i64 0, .int .i64 0, .int .i64 0, .int .i64 0, .int .i64 0, .int .i64 0, .int .i64 0, .int .i64 0, .slice none 0 0] (by kernel_rfl) ?_; clear S M a; intro a w61 bI S M hB
        refine wpList_nil ?_; refine then_normal ?_; refine ⟨fun _ => hB, ?_⟩
        refine k_one 3 rfl (by kernel_rfl) ?_
        refine st_call (xs := [(Operand.tmp 26)]) S (enters_of Tryz.func66 (by decide) rfl) rfl rfl rfl (copied_any (.pointer (some ⟨bd, 0, none⟩)) s va vc _ (M.blk 6 rfl) (rd_rcs M (p := 7) rfl (by omega)) (by omega)) ?_
        rintro _ w62 ⟨ra, rc, rfl, hF⟩; refine ⟨_, rfl, ?_⟩; clear S a; intro a S
        have hK := hF.below
        obtain ⟨lo4, hi4, -, M1⟩ := M.pushFresh hF; clear M; have M := M1; clear M1
        refine wpList_nil ?_; refine then_normal ?_; refine ⟨fun _ => hK, ?_⟩
        refine k_one 7 rfl (by kernel_rfl) ?_
        refine st_call (xs := [(Operand.tmp 30)]) S (enters_of Tryz.func66 (by decide) rfl) rfl rfl rfl (copied_any (.pointer (some ⟨bd, 0, none⟩)) s va vc _ (M.blk 7 rfl) (rd_rcs M (p := 8) rfl (by omega)) (by omega)) ?_
        rintro _ w63 ⟨ka, kc, rfl, hF⟩; refine ⟨_, rfl, ?_⟩; clear S a; intro a S
        have hK := hF.below
        obtain ⟨lo5, hi5, -, M1⟩ := M.pushFresh hF; clear M; have M := M1; clear M1
        refine wpList_nil ?_; refine then_normal ?_; refine ⟨fun _ => hK, ?_⟩
        refine k_one 10 rfl (by kernel_rfl) ?_
        refine st_store (sz := 25) (us := [_, _, _, _, _, _, _, _, _, _, _, _, _, _, _, _, _, _, _, _, _, _, _, _, _]) S M 2 rfl (by kernel_rfl) rfl rfl rfl rfl rfl rfl (by first | decide | (simp; done) | (simp; omega)) ?_; clear M; intro w64 M
        simp only [putL, List.set_cons_zero, List.set_cons_succ, Nat.reduceAdd] at M
        refine wpList_nil ?_; refine then_normal ?_; refine ⟨fun h => absurd h (by decide), ?_⟩
        refine k_one 11 rfl (by kernel_rfl) ?_
        refine st_store (sz := 25) (us := [_, _, _, _, _, _, _, _, _, _, _, _, _, _, _, _, _, _, _, _, _, _, _, _, _]) S M 3 rfl (by kernel_rfl) rfl rfl rfl rfl rfl rfl (by first | decide | (simp; done) | (simp; omega)) ?_; clear M; intro w65 M
        simp only [putL, List.set_cons_zero, List.set_cons_succ, Nat.reduceAdd] at M
        refine wpList_nil ?_; refine then_normal ?_; refine ⟨fun h => absurd h (by decide), ?_⟩
        refine k_end (by kernel_rfl) ?_
        replace S := S.sub [(0, _), (1, _), (2, _), (3, _), (4, _), (6, _), (7, _), (8, _), (19, _), (9, _), (11, _), (10, _)] rfl
        refine then_normal ?_
        skip
        replace M := M.ord [9, 9, 9, 9, 9, 9, 7, 8, 8, 9] (by simp only [ordO, oG, oS, oE, oZ, oB] <;> rfl)
        exact ⟨_, _, ra, rc, ka, kc, lo4, hi4, lo5, hi5, S.sub _ rfl, M⟩
  clear S a M; intro a wc
  rintro ⟨bI, bB, ra, rc, ka, kc, lo4, hi4, lo5, hi5, S, M⟩
  refine nxD ?_
  refine st_y S rfl rfl rfl (y_loadAgg (cs := [_, _, _, _, _, _, _, _, _, _, _, _]) S (by kernel_rfl) rfl rfl (M.cellsAt (k := 12) 6 rfl rfl)) ?_; clear S a; intro a S
  refine st_call (xs := [(Operand.tmp 11), (Operand.tmp 32)]) S (enters_of Tryz.func36 (by decide) rfl) rfl rfl rfl (take0_any s ka kc r (.slice wa wn wk) M (by omega) (rec_cs hr) hr.2) ?_
  rintro _ w66 ⟨rfl, lo6, hi6, ma, mc, M1⟩; refine ⟨_, rfl, ?_⟩; clear S M a; intro a S; have M := M1; clear M1
  refine nxA ?_
  refine st_y S rfl rfl rfl (y_makeFunc (fs := []) (cs := [(Operand.tmp 9), (Operand.tmp 11), (Operand.tmp 10), (Operand.tmp 3)]) S rfl rfl) ?_; clear S a; intro a S
  refine st_go [1] S rfl (by kernel_rfl) ?_; clear S a; intro a S
  refine nxC ?_
  refine wp_seq ?_
  refine wp_seq ?_
  skip
  replace M := M.ord [9, 9, 5, 5, 9, 5, 7] (by simp only [ordO, oG, oS, oE, oZ, oB] <;> rfl)
  refine wp_region_lit ?_
  refine st_go [1] S rfl (by kernel_rfl) ?_; clear S a; intro a S
  refine st_callB (xs := []) (fi := []) (ca := [_, _, _, _]) S (enters_of Tryz.func67 (by decide) rfl) rfl rfl (rfl) rfl (room_any (A := _ :: _ :: _ :: A) (T := T) (K := K) (N := N) s r va ra vc rc ma mc hE M hI hk hb (by omega)) ?_
  rintro _ w67 ⟨S1, E1, va2, vc2, lo2, hi2, ia2, ic2, loI2, hiI2, rfl, hrS, hI1, hE1, M1⟩; refine ⟨_, rfl, ?_⟩; clear S M a; intro a S; have M := M1; clear M1
  simp only [List.cons_append] at M
  have hup1 := hI1.up
  have hl1 := hI1.mayL
  have hrm1 := made_room hI1 h8 hfew
  have hinc1 : 0 ≤ (madeS s r).su.inc ∧ (madeS s r).su.inc ≤ 1048576 := by rw [made_inc]; exact hinc
  refine st_go [1] S rfl (by kernel_rfl) ?_; clear S a; intro a S
  refine nxA ?_
  refine st_go [1, 1] S rfl (by kernel_rfl) ?_; clear S a; intro a S
  refine nxC ?_
  refine st_if (t := 38) S rfl ?_ ?_
  · clear S; intro h38 S
    exact absurd rfl h38
  clear S; intro h38 S
  refine st_condF S rfl ?_
  refine wp_skip ?_
  refine then_normal ?_
  refine wp_seq ?_
  refine wp_seq ?_
  refine wp_regionK [10, 15] #[false, false, false, false, false, false, false, false, false, false, false, false, false, false, false, false, false] rfl M (by kernel_rfl) ?_; clear M; intro w68 M
  refine k_read 0 S rfl (fun w hW => have M := M.grow hW; y_load S (by kernel_rfl) rfl (M.cell 2 rfl ((show _ = some (Value.pointer (some ⟨b, 0, none⟩)) from rfl)))) ?_; clear S a; intro a S
  refine k_pure 1 S rfl (fun w => y_nilCheck S rfl) ?_; clear S a; intro a S
  refine k_pure 2 S rfl (fun w => y_fieldAddr (k := 0) S (by kernel_rfl) rfl) ?_; clear S a; intro a S
  refine k_read 3 S rfl (fun w hW => have M := M.grow hW; y_load S (by kernel_rfl) rfl ((M.cell 5 rfl (show _ = some (Value.pointer (some ⟨bd, 0, none⟩)) from rfl)))) ?_; clear S a; intro a S
  refine k_pure 4 S rfl (fun w => y_fieldAddr (k := 22) S (by kernel_rfl) rfl) ?_; clear S a; intro a S
  refine k_read 5 S rfl (fun w hW => have M := M.grow hW; y_loadAgg (cs := [_, _]) S (by kernel_rfl) rfl rfl (M.cellsAt (k := 2) 3 rfl rfl)) ?_; clear S a; intro a S
  refine k_pure 6 S rfl (fun w => y_fieldAddr (k := 0) S (by kernel_rfl) rfl) ?_; clear S a; intro a S
  refine k_pure 7 S rfl (fun w => y_fieldAddr (k := 3) S (by kernel_rfl) rfl) ?_; clear S a; intro a S
  refine k_read 8 S rfl (fun w hW => have M := M.grow hW; y_load S (by kernel_rfl) rfl (M.cell 3 rfl rfl)) ?_; clear S a; intro a S
  refine k_pure 9 S rfl (fun w => y_move S rfl) ?_; clear S a; intro a S
  refine k_one 10 rfl (by kernel_rfl) ?_
  refine st_call (xs := [(Operand.tmp 44), (Operand.tmp 46), (Operand.tmp 49), (Operand.tmp 50)]) S (enters_of Tryz.func69 (by decide) rfl) rfl rfl rfl (append_any (A := _ :: _ :: _ :: _ :: _ :: _ :: _ :: _ :: _ :: _ :: A) (madeS s r).su.tail (madeS s r).n (madeS s r).su.inc v1 (encR r) hE1 M (fun W M => M.readAll 8 rfl (by show (r.enc []).length ≤ maxLen; unfold maxLen; omega)) hup1 (by unfold mayL; omega) (by omega) hinc1 (fun k => by have := hI1.one k; omega)) ?_
  rintro _ w69 ⟨n', er, S2, rfl, hP, E2, hE2, M1⟩; refine ⟨_, rfl, ?_⟩; clear S M a; intro a S; have M := M1; clear M1
  simp only [List.cons_append] at M
  obtain ⟨rfl, rfl, rfl⟩ := app_rec hr (by omega) hP
  refine wpList_nil ?_; refine then_normal ?_; refine ⟨fun h => absurd h (by decide), ?_⟩
  refine k_pure 11 S rfl (fun w => y_move S rfl) ?_; clear S a; intro a S
  refine k_pure 12 S rfl (fun w => y_extract S rfl rfl) ?_; clear S a; intro a S
  refine k_pure 13 S rfl (fun w => y_extract S rfl rfl) ?_; clear S a; intro a S
  refine k_pure 14 S rfl (fun w => y_fieldAddr (k := 22) S (by kernel_rfl) rfl) ?_; clear S a; intro a S
  refine k_one 15 rfl (by kernel_rfl) ?_
  refine st_store (sz := 2) (us := [_, _]) S M 3 rfl (by kernel_rfl) rfl rfl rfl rfl rfl rfl (by first | decide | (simp; done) | (simp; omega)) ?_; clear M; intro w70 M
  simp only [putL, List.set_cons_zero, List.set_cons_succ, Nat.reduceAdd] at M
  refine wpList_nil ?_; refine then_normal ?_; refine ⟨fun h => absurd h (by decide), ?_⟩
  refine k_pure 16 S rfl (fun w => y_assign S rfl) ?_; clear S a; intro a S
  refine k_end (by kernel_rfl) ?_
  replace S := S.sub [(2, _), (3, _), (4, _), (7, _), (9, _), (10, _), (11, _), (12, _), (38, _), (8, _)] rfl
  refine nxE ?_
  refine st_go [1, 1] S rfl (by kernel_rfl) ?_; clear S a; intro a S
  refine nxC ?_
  refine st_if (t := 56) S rfl ?_ ?_
  · clear S; intro h56 S
    exact absurd rfl h56
  clear S; intro h56 S
  refine st_condF S rfl ?_
  refine wp_skip ?_
  refine then_normal ?_
  refine wp_seq ?_
  refine nxD ?_
  refine st_go [1] S rfl (by kernel_rfl) ?_; clear S a; intro a S
  refine nxC ?_
  refine st_tils (t := 58) S rfl ?_ ?_
  · clear S; intro h58 S
    refine st_condF S rfl ?_
    refine wp_skip ?_
    refine then_normal ?_
    refine wp_seq ?_
    skip
    replace M := M.ord [4, 4] (by simp only [ordO, oG, oS, oE, oZ, oB] <;> rfl)
    refine wp_region_lit ?_
    refine st_y S rfl rfl rfl (y_loadAgg (cs := [_, _, _, _, _, _, _, _, _, _, _, _]) S (by kernel_rfl) rfl rfl (M.cellsAt (k := 12) 9 rfl rfl)) ?_; clear S a; intro a S
    refine st_call (xs := [(Operand.tmp 10), (Operand.tmp 67)]) S (enters_of Tryz.func36 (by decide) rfl) rfl rfl rfl (take0_any { madeS s r with n := (madeS s r).n + 1 } ia2 ic2 r (.slice wa wn wk) M (by show (madeS s r).op.length ≤ 1000; rw [made_len]; omega) (rec_cs hr) hr.2) ?_
    rintro _ w74 ⟨rfl, lo7, hi7, na, nc, M1⟩; refine ⟨_, rfl, ?_⟩; clear S M a; intro a S
    rw [keep_take] at M1
    have M := M1; clear M1
    refine nxA ?_
    refine st_y S rfl rfl rfl (y_load S (by kernel_rfl) rfl (M.cell 4 rfl ((show _ = some (Value.pointer (some ⟨b, 0, none⟩)) from rfl)))) ?_; clear S a; intro a S
    skip
    refine st_y S rfl rfl rfl (y_loadAgg (cs := [_, _, _, _, _, _, _, _, _, _, _, _, _, _, _, _, _, _, _, _, _, _, _, _, _]) S (by kernel_rfl) rfl rfl (M.cellsAt (k := 25) 0 rfl rfl)) ?_; clear S a; intro a S
    refine st_go [1, 2] S rfl (by kernel_rfl) ?_; clear S a; intro a S
    refine st_store (sz := 25) (us := [_, _, _, _, _, _, _, _, _, _, _, _, _, _, _, _, _, _, _, _, _, _, _, _, _]) S M 5 rfl (by kernel_rfl) rfl rfl rfl rfl rfl rfl (by first | decide | (simp; done) | (simp; omega)) ?_; clear M; intro w75 M
    simp only [putL, List.set_cons_zero, List.set_cons_succ, Nat.reduceAdd] at M
    refine nxA ?_
    refine st_go [1] S rfl (by kernel_rfl) ?_; clear S a; intro a S
    refine nxC ?_
    refine wp_ret ?_
    refine end_one S rfl (res_tmp rfl) ?_
    skip
    replace M := M.drop 6
    simp only [List.eraseIdx_cons_succ, List.eraseIdx_cons_zero] at M
    replace M := M.drop 0
    simp only [List.eraseIdx_cons_succ, List.eraseIdx_cons_zero] at M
    replace M := M.drop 1
    simp only [List.eraseIdx_cons_succ, List.eraseIdx_cons_zero] at M
    replace M := M.drop 1
    simp only [List.eraseIdx_cons_succ, List.eraseIdx_cons_zero] at M
    replace M := M.drop 1
    simp only [List.eraseIdx_cons_succ, List.eraseIdx_cons_zero] at M
    replace M := M.drop 2
    simp only [List.eraseIdx_cons_succ, List.eraseIdx_cons_zero] at M
    replace M := M.drop 2
    simp only [List.eraseIdx_cons_succ, List.eraseIdx_cons_zero] at M
    replace M := M.drop 2
    simp only [List.eraseIdx_cons_succ, List.eraseIdx_cons_zero] at M
    replace M := M.front 1 rfl
    simp only [List.eraseIdx_cons_succ, List.eraseIdx_cons_zero] at M
    first
      | exact ⟨rfl, _, E3, na, nc, lo7, hi7, by rw [if_pos h58]; exact hI1.madeF hk1 hr h8 (by rw [if_pos h58] at hf; exact hf), (fun h => absurd h58 (by rw [h]; decide)), hE3, M⟩
      | exact ⟨rfl, _, E2, na, nc, lo7, hi7, by rw [if_neg (by rw [h58]; decide)]; exact hI1.made hk1 hr h8 (by rw [if_neg (by rw [h58]; decide)] at hf; exact hf), (fun _ h => by rw [hrS h, show madeS s r = s from if_pos h]), hE2, M⟩
  clear S; intro h58 S
  refine st_condT S rfl ?_
  refine nxD ?_
  refine st_y S rfl rfl rfl (y_load S (by kernel_rfl) rfl (M.cell 2 rfl ((show _ = some (Value.pointer (some ⟨b, 0, none⟩)) from rfl)))) ?_; clear S a; intro a S
  refine st_go [1, 1] S rfl (by kernel_rfl) ?_; clear S a; intro a S
  refine st_y S rfl rfl rfl (y_load S (by kernel_rfl) rfl ((M.cell 5 rfl (show _ = some (Value.pointer (some ⟨bd, 0, none⟩)) from rfl)))) ?_; clear S a; intro a S
  refine st_call (xs := [(Operand.tmp 62)]) S (enters_of Tryz.func70 (by decide) rfl) rfl rfl rfl (jflush_any (A := _ :: _ :: _ :: _ :: _ :: _ :: _ :: _ :: _ :: _ :: A) hE2 M (by rw [putF_down]; exact hup1) (fun k => by have h9 := putF_cache_le (cutF (encR r) (madeS s r).n (madeS s r).su.inc) hI1.one k; rw [cutF_rec hr] at h9; rw [cutF_rec hr]; exact Nat.le_trans h9 (show 1 + 1 ≤ 1000000 by decide))) ?_
  rintro _ w71 ⟨rfl, E3, hE3, M1⟩; refine ⟨_, rfl, ?_⟩; clear S M a; intro a S; have M := M1; clear M1
  simp only [List.cons_append] at M
  refine st_go [1] S rfl (by kernel_rfl) ?_; clear S a; intro a S
  refine nxA ?_
  refine st_go [1, 1] S rfl (by kernel_rfl) ?_; clear S a; intro a S
  refine nxC ?_
  refine st_if (t := 65) S rfl ?_ ?_
  · clear S; intro h65 S
    exact absurd rfl h65
  clear S; intro h65 S
  refine st_condF S rfl ?_
  refine wp_skip ?_
  refine then_normal ?_
  refine wp_seq ?_
  skip
  replace M := M.ord [4, 4] (by simp only [ordO, oG, oS, oE, oZ, oB] <;> rfl)
  refine wp_region_lit ?_
  refine st_y S rfl rfl rfl (y_loadAgg (cs := [_, _, _, _, _, _, _, _, _, _, _, _]) S (by kernel_rfl) rfl rfl (M.cellsAt (k := 12) 9 rfl rfl)) ?_; clear S a; intro a S
  refine st_call (xs := [(Operand.tmp 10), (Operand.tmp 67)]) S (enters_of Tryz.func36 (by decide) rfl) rfl rfl rfl (take0_any { madeS s r with n := (madeS s r).n + 1 } ia2 ic2 r (.slice wa wn wk) M (by show (madeS s r).op.length ≤ 1000; rw [made_len]; omega) (rec_cs hr) hr.2) ?_
  rintro _ w72 ⟨rfl, lo7, hi7, na, nc, M1⟩; refine ⟨_, rfl, ?_⟩; clear S M a; intro a S
  rw [keep_take] at M1
  have M := M1; clear M1
  refine nxA ?_
  refine st_y S rfl rfl rfl (y_load S (by kernel_rfl) rfl (M.cell 4 rfl ((show _ = some (Value.pointer (some ⟨b, 0, none⟩)) from rfl)))) ?_; clear S a; intro a S
  skip
  refine st_y S rfl rfl rfl (y_loadAgg (cs := [_, _, _, _, _, _, _, _, _, _, _, _, _, _, _, _, _, _, _, _, _, _, _, _, _]) S (by kernel_rfl) rfl rfl (M.cellsAt (k := 25) 0 rfl rfl)) ?_; clear S a; intro a S
  refine st_go [1, 2] S rfl (by kernel_rfl) ?_; clear S a; intro a S
  refine st_store (sz := 25) (us := [_, _, _, _, _, _, _, _, _, _, _, _, _, _, _, _, _, _, _, _, _, _, _, _, _]) S M 5 rfl (by kernel_rfl) rfl rfl rfl rfl rfl rfl (by first | decide | (simp; done) | (simp; omega)) ?_; clear M; intro w73 M
  simp only [putL, List.set_cons_zero, List.set_cons_succ, Nat.reduceAdd] at M
  replace S := S.sub [(2, _), (3, _), (4, _), (7, _), (9, _), (10, _), (11, _), (12, _), (38, _), (56, _), (58, _), (8, _), (65, _)] rfl
  refine nxA ?_
  refine st_go [1] S rfl (by kernel_rfl) ?_; clear S a; intro a S
  refine nxC ?_
  refine wp_ret ?_
  refine end_one S rfl (res_tmp rfl) ?_
  skip
  replace M := M.drop 6
  simp only [List.eraseIdx_cons_succ, List.eraseIdx_cons_zero] at M
  replace M := M.drop 0
  simp only [List.eraseIdx_cons_succ, List.eraseIdx_cons_zero] at M
  replace M := M.drop 1
  simp only [List.eraseIdx_cons_succ, List.eraseIdx_cons_zero] at M
  replace M := M.drop 1
  simp only [List.eraseIdx_cons_succ, List.eraseIdx_cons_zero] at M
  replace M := M.drop 1
  simp only [List.eraseIdx_cons_succ, List.eraseIdx_cons_zero] at M
  replace M := M.drop 2
  simp only [List.eraseIdx_cons_succ, List.eraseIdx_cons_zero] at M
  replace M := M.drop 2
  simp only [List.eraseIdx_cons_succ, List.eraseIdx_cons_zero] at M
  replace M := M.drop 2
  simp only [List.eraseIdx_cons_succ, List.eraseIdx_cons_zero] at M
  replace M := M.front 1 rfl
  simp only [List.eraseIdx_cons_succ, List.eraseIdx_cons_zero] at M
  first
    | exact ⟨rfl, _, E3, na, nc, lo7, hi7, by rw [if_pos h58]; exact hI1.madeF hk1 hr h8 (by rw [if_pos h58] at hf; exact hf), (fun h => absurd h58 (by rw [h]; decide)), hE3, M⟩
    | exact ⟨rfl, _, E2, na, nc, lo7, hi7, by rw [if_neg (by rw [h58]; decide)]; exact hI1.made hk1 hr h8 (by rw [if_neg (by rw [h58]; decide)] at hf; exact hf), (fun _ h => by rw [hrS h, show madeS s r = s from if_pos h]), hE2, M⟩
end Go.Proofs.YtmdededhoibofaaGreat

namespace Go.Proofs.YtmdededhoibofaaGreat
open Go.RowKit Go.Sort
theorem may_four {r : Rc} {x : List Wr} (h : r.may x = true) (hk : r.kind = 4) : x = [] ∧ recOk r := by
  have hx : x = [] := by
    rcases may_cases h with ⟨a, -⟩ | ⟨a, -⟩ | ⟨a, -⟩ | ⟨-, -, b, -⟩ | ⟨a, -⟩ | ⟨a, -⟩ | ⟨a, -⟩
    all_goals first | exact b | omega
  subst hx
  exact ⟨rfl, h, .inl hk⟩
theorem fdI_no {op : List Rc} {nm : Nm} (h : fd op nm = none) : fdI op nm = -1 := by unfold fdI; rw [h]
abbrev r5 (nm : Nm) : Rc := { Rc.zero with kind := 5, name := nm }
abbrev r6 (n : Int) : Rc := { Rc.zero with kind := 6, n := n }
theorem r5_ok {nm : Nm} (h : nm.named = true) : recOk (r5 nm) := by
  refine ⟨?_, .inr (.inl rfl)⟩
  simp [Rc.may, Rc.ok, Rc.rest, Rc.zero, Rc.same, h, Nm.eqb, eqWs]
theorem r6_ok {n : Int} (h : withinB n 1048577 = true) : recOk (r6 n) := by
  refine ⟨?_, .inr (.inr rfl)⟩
  simp [Rc.may, Rc.ok, Rc.rest, Rc.zero, Rc.same, h, Nm.eqb, eqWs]
theorem take4_len {s : Ls} {r : Rc} (hk : r.kind = 4) (h : fd s.op r.name = none) : (s.take r).op.length = s.op.length + 1 := by
  unfold Ls.take
  rw [if_pos hk]
  show (commitL _ _).length = _
  unfold commitL
  rw [h, List.length_append]; rfl
theorem take6_len {s : Ls} {n : Int} : (s.take (r6 n)).op = s.op := rfl
theorem take5_len {s : Ls} {nm : Nm} {k : Nat} (h : fd s.op nm = some k) : (s.take (r5 nm)).op = s.op.eraseIdx k := by
  show endL s.op nm = _
  unfold endL
  rw [h]
def DidP (wc : World) (A : List Ent) (b bd : Nat) (s s2 : Ls) (T : List Nm) (K : Int) (w' : World) (q : DS → Prop := fun _ => True) : Prop := ∃ S1 E' va2 vc2 lo2 hi2, LInv S1 s2 T K ∧ q S1 ∧ DkE bd S1 E' ∧ Mem wc w' (lgE b bd s2 va2 vc2 :: opE lo2 hi2 va2 vc2 s2.op :: (A ++ E'))
set_option maxHeartbeats 4000000 in
theorem commit_any {wc w : World} {A E : List Ent} {b bd lo hi : Nat} {S0 : DS} {T : List Nm} {K N : Int} (s : Ls) (r : Rc) (x : List Wr) (va wa : Option Addr) (vc wn wk : Nat) (hE : DkE bd S0 E)
    (M : Mem wc w (lgE b bd s va vc :: opE lo hi va vc s.op :: (A ++ E))) (hu : Ws 0 wc.heap.size wc (.slice wa wn wk) x) (hs : r.shards ≤ 9223372036854775807)
    (hI : LInv S0 s T K) (hk : K ≤ s.su.inc) (hb : Lb s N) :
    Calls Tryz.prog 11 #[.pointer (some ⟨b, 0, none⟩), .agg (r.cells (.slice wa wn wk))] w fun e w' => ∃ er, e = .returned (.int .i64 er) ∧ ((er = 0 ∧ recOk r ∧ r.kind = 4 ∧ fd s.op r.name = none ∧ s.op.length < 8 ∧ DidP wc A b bd s (keepS s r) [] K w') ∨ (er ≠ 0 ∧ ¬ (r.may x = true ∧ r.kind = 4 ∧ fd s.op r.name = none ∧ s.op.length < 8) ∧ Mem wc w' (lgE b bd s va vc :: opE lo hi va vc s.op :: (A ++ E)))) := by
  have hfew := hI.few
  refine calls_enter Tryz.func11 rfl 36 rfl rfl ?_; intro a S
  refine wp_seq ?_
  skip
  refine wp_region_lit ?_
  refine st_box S M rfl rfl rfl #[_, _, _, _, _, _, _, _, _, _, _, _] rfl ?_; clear S M a; intro a w1 bRr S M hB
  refine st_go [1] S rfl (by kernel_rfl) ?_; clear S a; intro a S
  refine nxC ?_
  refine wp_seq ?_
  refine wp_block ?_
  refine nxD ?_
  refine st_go [1] S rfl (by kernel_rfl) ?_; clear S a; intro a S
  refine st_y S rfl rfl rfl (y_eqlPS (by kernel_rfl) S rfl) ?_; clear S a; intro a S
  refine st_go [1] S rfl (by kernel_rfl) ?_; clear S a; intro a S
  refine nxC ?_
  refine st_condF S rfl ?_
  refine nxD ?_
  refine st_run [1, 1, 1, 1] S M rfl (by kernel_rfl) ?_; clear S a; intro a S
  refine st_if (t := 12) S rfl ?_ ?_
  · clear S; intro h12 S
    refine st_go [0, 0, 0, 1, 1] S rfl (by kernel_rfl) ?_; clear S a; intro a S
    refine nxC ?_
    refine st_condT S rfl ?_
    refine nxD ?_
    refine st_go [1] S rfl (by kernel_rfl) ?_; clear S a; intro a S
    refine nxC ?_
    refine wp_ret ?_
    refine block_ret ?_
    refine then_ret ?_
    refine end_one S rfl (res_tmp rfl) ?_
    exact ⟨2, rfl, .inr ⟨by decide, (fun h9 => by obtain ⟨k1, k2, -, -⟩ := h9; simp_all), M.drop 0⟩⟩
  clear S; intro h12 S
  refine st_y S rfl rfl rfl (y_loadAgg (cs := [_, _, _, _, _, _, _, _, _, _, _, _]) S (by kernel_rfl) rfl rfl (M.cellsAt (k := 12) 0 rfl rfl)) ?_; clear S a; intro a S
  refine st_call (xs := [(Operand.tmp 13)]) S (enters_of Tryz.func38 (by decide) rfl) rfl rfl rfl (may_any r wa wn wk x _ hs (M.argW hu)) ?_
  rintro _ w2 ⟨rfl, hK⟩; refine ⟨_, rfl, ?_⟩; clear S a; intro a S; replace M := M.grow hK
  refine st_go [1, 1, 1] S rfl (by kernel_rfl) ?_; clear S a; intro a S
  refine nxC ?_
  refine st_if (t := 8) S rfl ?_ ?_
  · clear S; intro h8 S
    refine st_condT S rfl ?_
    refine nxD ?_
    refine st_go [1] S rfl (by kernel_rfl) ?_; clear S a; intro a S
    refine nxC ?_
    refine wp_ret ?_
    refine block_ret ?_
    refine then_ret ?_
    refine end_one S rfl (res_tmp rfl) ?_
    exact ⟨2, rfl, .inr ⟨by decide, (fun h9 => by obtain ⟨k1, k2, -, -⟩ := h9; simp_all), M.drop 0⟩⟩
  clear S; intro h8 S
  refine st_condF S rfl ?_
  refine wp_seq ?_
  refine wp_regionK [] #[false, false, false, false, false, false, false, false] rfl M (by kernel_rfl) ?_; clear M; intro w3 M
  refine k_pure 0 S rfl (fun w => y_move S rfl) ?_; clear S a; intro a S
  refine k_pure 1 S rfl (fun w => y_nilCheck S rfl) ?_; clear S a; intro a S
  refine k_pure 2 S rfl (fun w => y_fieldAddr (k := 1) S (by kernel_rfl) rfl) ?_; clear S a; intro a S
  refine k_pure 3 S rfl (fun w => y_fieldAddr (k := 1) S (by kernel_rfl) rfl) ?_; clear S a; intro a S
  refine k_read 4 S rfl (fun w hW => have M := M.grow hW; y_loadAgg (cs := [_, _, _]) S (by kernel_rfl) rfl rfl (M.cellsAt (k := 3) 0 rfl rfl)) ?_; clear S a; intro a S
  refine k_one 5 rfl (by kernel_rfl) ?_
  refine st_call (xs := [(Operand.tmp 20), (Operand.tmp 22)]) S (enters_of Tryz.func39 (by decide) rfl) rfl rfl rfl (find1_any (.pointer (some ⟨bd, 0, none⟩)) s va vc r.name _ (M.blk 1 rfl) (rd_rcs M (p := 2) rfl (by omega))) ?_
  rintro _ w4 ⟨rfl, hK⟩; refine ⟨_, rfl, ?_⟩; clear S a; intro a S; replace M := M.grow hK
  refine wpList_nil ?_; refine then_normal ?_; refine ⟨fun _ => hK, ?_⟩
  refine k_pure 6 S rfl (fun w => y_int S rfl rfl rfl) ?_; clear S a; intro a S
  refine k_pure 7 S rfl (fun w => y_assign S rfl) ?_; clear S a; intro a S
  refine k_end (by kernel_rfl) ?_
  replace S := S.sub [(0, _), (1, _), (3, _), (4, _), (5, _), (8, _), (17, _)] rfl
  refine then_normal ?_
  refine st_if (t := 17) S rfl ?_ ?_
  · clear S; intro h17 S
    refine st_condT S rfl ?_
    refine nxD ?_
    refine st_go [1] S rfl (by kernel_rfl) ?_; clear S a; intro a S
    refine nxC ?_
    refine wp_ret ?_
    refine block_ret ?_
    refine then_ret ?_
    refine end_one S rfl (res_tmp rfl) ?_
    exact ⟨111, rfl, .inr ⟨by decide, (fun h9 => by have k4 := fdI_no h9.2.2.1; omega), M.drop 0⟩⟩
  clear S; intro h17 S
  refine st_condF S rfl ?_
  refine nxD ?_
  refine st_go [1, 1, 2, 25] S rfl (by kernel_rfl) ?_; clear S a; intro a S
  refine st_y S rfl rfl rfl (y_load S (by kernel_rfl) rfl (M.cell 1 rfl ((show _ = some (opV va vc s.op) from rfl)))) ?_; clear S a; intro a S
  refine st_y S rfl rfl rfl (y_lenS (E := 29) S rfl (by kernel_rfl)) ?_; clear S a; intro a S
  refine st_go [1, 1] S rfl (by kernel_rfl) ?_; clear S a; intro a S
  refine nxC ?_
  refine st_if (t := 25) S rfl ?_ ?_
  · clear S; intro h25 S
    refine st_condT S rfl ?_
    refine nxD ?_
    refine st_go [1] S rfl (by kernel_rfl) ?_; clear S a; intro a S
    refine nxC ?_
    refine wp_ret ?_
    refine block_ret ?_
    refine then_ret ?_
    refine end_one S rfl (res_tmp rfl) ?_
    exact ⟨50, rfl, .inr ⟨by decide, (fun h9 => by obtain ⟨-, -, -, k4⟩ := h9; simp at *; omega), M.drop 0⟩⟩
  clear S; intro h25 S
  refine st_condF S rfl ?_
  refine wp_skip ?_
  refine block_normal ?_
  refine then_normal ?_
  refine wp_seq ?_
  skip
  replace M := M.ord [2, 2] (by simp only [ordO, oG, oS, oE, oZ, oB] <;> rfl)
  obtain ⟨hm, h4⟩ : r.may x = true ∧ r.kind = 4 := by simp_all
  have hno : fd s.op r.name = none := fdI_neg (by simp_all)
  have h88 : s.op.length < 8 := by simp at *; omega
  obtain ⟨rfl, hr⟩ := may_four hm h4
  have htl := take4_len h4 hno
  refine wp_region_lit ?_
  refine st_go [1] S rfl (by kernel_rfl) ?_; clear S a; intro a S
  refine st_y S rfl rfl rfl (y_loadAgg (cs := [_, _, _, _, _, _, _, _, _, _, _, _]) S (by kernel_rfl) rfl rfl (M.cellsAt (k := 12) 2 rfl rfl)) ?_; clear S a; intro a S
  refine st_call (xs := [(Operand.tmp 33), (Operand.tmp 34), (Operand.const (Value.bool true))]) S (enters_of Tryz.func40 (by decide) rfl) rfl rfl rfl (keep_any (A := _ :: A) (T := T) (K := K) (N := N) s r true va wa vc wn wk hE M hu hI hk hb hr (by omega) (by rw [if_pos rfl]; omega)) ?_
  rintro _ w5 ⟨rfl, S1, E1, va2, vc2, lo2, hi2, hI1, hq1, hE1, M1⟩; refine ⟨_, rfl, ?_⟩; clear S M a; intro a S; have M := M1; clear M1
  simp only [List.cons_append] at M
  refine st_go [1] S rfl (by kernel_rfl) ?_; clear S a; intro a S
  refine nxC ?_
  refine wp_ret ?_
  refine end_one S rfl (res_tmp rfl) ?_
  exact ⟨0, rfl, .inl ⟨rfl, hr, h4, hno, h88, S1, E1, va2, vc2, lo2, hi2, hI1, trivial, hE1, M.drop 2⟩⟩
set_option maxHeartbeats 4000000 in
theorem end_any {wc w : World} {A E : List Ent} {b bd lo hi : Nat} {S0 : DS} {T : List Nm} {K N : Int} (s : Ls) (nm : Nm) (va : Option Addr) (vc : Nat) (hE : DkE bd S0 E)
    (M : Mem wc w (lgE b bd s va vc :: opE lo hi va vc s.op :: (A ++ E))) (hI : LInv S0 s T K) (hk : K ≤ s.su.inc) (hb : Lb s N) :
    Calls Tryz.prog 12 #[.pointer (some ⟨b, 0, none⟩), .agg nm.cells] w fun e w' => ∃ er, e = .returned (.int .i64 er) ∧ ((er = 0 ∧ (∃ k, fd s.op nm = some k) ∧ DidP wc A b bd s (keepS s (r5 nm)) (nm :: T) K w' fun S1 => roomS s (r5 nm) → S1 = putF S0 (cutF (encR (r5 nm)) s.n s.su.inc)) ∨ (er ≠ 0 ∧ fd s.op nm = none ∧ Mem wc w' (lgE b bd s va vc :: opE lo hi va vc s.op :: (A ++ E)))) := by
  have hfew := hI.few
  refine calls_enter Tryz.func12 rfl 17 rfl rfl ?_; intro a S
  refine wp_seq ?_
  skip
  refine wp_region_lit ?_
  refine st_box S M rfl rfl rfl #[_, _, _] rfl ?_; clear S M a; intro a w1 bRr S M hB
  refine st_go [1] S rfl (by kernel_rfl) ?_; clear S a; intro a S
  refine nxC ?_
  refine wp_seq ?_
  refine nxD ?_
  refine st_go [1] S rfl (by kernel_rfl) ?_; clear S a; intro a S
  refine st_y S rfl rfl rfl (y_eqlPS (by kernel_rfl) S rfl) ?_; clear S a; intro a S
  refine nxC ?_
  refine st_condF S rfl ?_
  refine wp_skip ?_
  refine then_normal ?_
  refine wp_seq ?_
  refine wp_seq ?_
  refine wp_regionK [] #[false, false, false, false, false, false] rfl M (by kernel_rfl) ?_; clear M; intro w2 M
  refine k_pure 0 S rfl (fun w => y_move S rfl) ?_; clear S a; intro a S
  refine k_pure 1 S rfl (fun w => y_nilCheck S rfl) ?_; clear S a; intro a S
  refine k_pure 2 S rfl (fun w => y_fieldAddr (k := 1) S (by kernel_rfl) rfl) ?_; clear S a; intro a S
  refine k_read 3 S rfl (fun w hW => have M := M.grow hW; y_loadAgg (cs := [_, _, _]) S (by kernel_rfl) rfl rfl (M.cellsAt (k := 3) 0 rfl rfl)) ?_; clear S a; intro a S
  refine k_one 4 rfl (by kernel_rfl) ?_
  refine st_call (xs := [(Operand.tmp 9), (Operand.tmp 10)]) S (enters_of Tryz.func39 (by decide) rfl) rfl rfl rfl (find1_any (.pointer (some ⟨bd, 0, none⟩)) s va vc nm _ (M.blk 1 rfl) (rd_rcs M (p := 2) rfl (by omega))) ?_
  rintro _ w3 ⟨rfl, hK⟩; refine ⟨_, rfl, ?_⟩; clear S a; intro a S; replace M := M.grow hK
  refine wpList_nil ?_; refine then_normal ?_; refine ⟨fun _ => hK, ?_⟩
  refine k_pure 5 S rfl (fun w => y_int S rfl rfl rfl) ?_; clear S a; intro a S
  refine k_end (by kernel_rfl) ?_
  refine then_normal ?_
  refine st_split (t := 12) S rfl ?_ ?_
  · clear S; intro h12 S
    refine st_condT S rfl ?_
    refine nxD ?_
    refine st_go [1] S rfl (by kernel_rfl) ?_; clear S a; intro a S
    refine nxC ?_
    refine wp_ret ?_
    refine then_ret ?_
    refine end_one S rfl (res_tmp rfl) ?_
    exact ⟨110, rfl, .inr ⟨by decide, fdI_neg (by simp at h12; omega), M.drop 0⟩⟩
  clear S; intro h12 S
  refine st_condF S rfl ?_
  refine wp_skip ?_
  refine then_normal ?_
  refine wp_seq ?_
  skip
  replace M := M.ord [2, 2] (by simp only [ordO, oG, oS, oE, oZ, oB] <;> rfl)
  obtain ⟨k, hf, -⟩ := fdI_nn (show 0 ≤ fdI s.op nm by simp at h12; omega)
  have hnd : nm.named = true := by
    obtain ⟨q, hq, rfl⟩ := fd_some hf
    have h9 := hI.oks.2.ok q (List.mem_of_getElem? hq)
    exact (rec4 h9.1 h9.2).1
  have htl := take5_len (s := s) hf
  have hkl := fd_lt hf
  refine wp_region_lit ?_
  refine st_go [1] S rfl (by kernel_rfl) ?_; clear S a; intro a S
  refine st_y S rfl rfl rfl (y_loadAgg (cs := [_, _, _]) S (by kernel_rfl) rfl rfl (M.cellsAt (k := 3) 2 rfl rfl)) ?_; clear S a; intro a S
  refine st_y S rfl rfl rfl (y_build (ps := [(0, (Operand.const (Value.int IntKind.i8 5))), (1, (Operand.tmp 14))]) (pl := [(0, 1), (1, 3), (4, 1), (5, 1), (6, 1), (7, 1), (8, 1), (9, 2), (11, 1)]) (z := [.int .i8 0, .int .i64 0, .int .i64 0, .int .i64 0, .bool false, .slice none 0 0, .int .i64 0, .int .i64 0, .int .i64 0, .int .i64 0, .int .i64 0, .int .i64 0]) (cs := [_, _, _, _, _, _, _, _, _, _, _, _]) S (by kernel_rfl) rfl (rfl)) ?_; clear S a; intro a S
  refine st_call (xs := [(Operand.tmp 13), (Operand.tmp 15), (Operand.const (Value.bool false))]) S (enters_of Tryz.func40 (by decide) rfl) rfl rfl rfl (keep_any (A := _ :: A) (T := T) (K := K) (N := N) s (r5 nm) false va none vc 0 0 hE M (Rd.nil 0 _ _ 9) hI hk hb (r5_ok hnd) (by rw [htl, List.length_eraseIdx, if_pos hkl]; omega) (by rw [if_neg (by decide)]; exact ⟨k, rfl, hf⟩)) ?_
  rintro _ w4 ⟨rfl, S1, E1, va2, vc2, lo2, hi2, hI1, hq1, hE1, M1⟩; refine ⟨_, rfl, ?_⟩; clear S M a; intro a S; have M := M1; clear M1
  simp only [List.cons_append] at M
  refine st_go [1] S rfl (by kernel_rfl) ?_; clear S a; intro a S
  refine nxC ?_
  refine wp_ret ?_
  refine end_one S rfl (res_tmp rfl) ?_
  exact ⟨0, rfl, .inl ⟨rfl, ⟨k, hf⟩, S1, E1, va2, vc2, lo2, hi2, hI1, hq1 rfl, hE1, M.drop 2⟩⟩
set_option maxHeartbeats 4000000 in
theorem stamps_any {wc w : World} {A E : List Ent} {b bd lo hi : Nat} {S0 : DS} {T : List Nm} {K N : Int} (s : Ls) (n : Int) (va : Option Addr) (vc : Nat) (hE : DkE bd S0 E)
    (M : Mem wc w (lgE b bd s va vc :: opE lo hi va vc s.op :: (A ++ E))) (hI : LInv S0 s T K) (hk : K ≤ s.su.inc) (hb : Lb s N) :
    Calls Tryz.prog 13 #[.pointer (some ⟨b, 0, none⟩), .int .i64 n] w fun e w' => ∃ er, e = .returned (.int .i64 er) ∧ ((er = 0 ∧ recOk (r6 n) ∧ DidP wc A b bd s (keepS s (r6 n)) [] K w') ∨ (er ≠ 0 ∧ Mem wc w' (lgE b bd s va vc :: opE lo hi va vc s.op :: (A ++ E)))) := by
  have hfew := hI.few
  refine calls_enter Tryz.func13 rfl 26 rfl rfl ?_; intro a S
  refine wp_seq ?_
  skip
  refine wp_region_lit ?_
  refine st_go [1] S rfl (by kernel_rfl) ?_; clear S a; intro a S
  refine nxC ?_
  refine wp_seq ?_
  refine nxD ?_
  refine st_go [1] S rfl (by kernel_rfl) ?_; clear S a; intro a S
  refine st_y S rfl rfl rfl (y_eqlPS (by kernel_rfl) S rfl) ?_; clear S a; intro a S
  refine nxC ?_
  refine st_condF S rfl ?_
  refine wp_skip ?_
  refine then_normal ?_
  refine wp_seq ?_
  refine nxD ?_
  refine st_run [1, 1, 1, 2, 14, 1, 1, 1] S M rfl (by kernel_rfl) ?_; clear S a; intro a S
  refine st_if (t := 14) S rfl ?_ ?_
  · clear S; intro h14 S
    refine st_go [0, 0, 1, 1, 0, 0, 1] S rfl (by kernel_rfl) ?_; clear S a; intro a S
    replace S := S.sub [(0, _), (1, _), (4, _), (6, _), (21, _)] rfl
    refine nxC ?_
    refine st_condT S rfl ?_
    refine nxD ?_
    refine st_go [1] S rfl (by kernel_rfl) ?_; clear S a; intro a S
    refine nxC ?_
    refine wp_ret ?_
    refine then_ret ?_
    refine end_one S rfl (res_tmp rfl) ?_
    exact ⟨2, rfl, .inr ⟨by decide, M⟩⟩
  clear S; intro h14 S
  refine st_go [1, 1, 1, 1] S rfl (by kernel_rfl) ?_; clear S a; intro a S
  refine st_if (t := 18) S rfl ?_ ?_
  · clear S; intro h18 S
    refine st_go [0, 0, 1] S rfl (by kernel_rfl) ?_; clear S a; intro a S
    replace S := S.sub [(0, _), (1, _), (4, _), (6, _), (21, _)] rfl
    refine nxC ?_
    refine st_condT S rfl ?_
    refine nxD ?_
    refine st_go [1] S rfl (by kernel_rfl) ?_; clear S a; intro a S
    refine nxC ?_
    refine wp_ret ?_
    refine then_ret ?_
    refine end_one S rfl (res_tmp rfl) ?_
    exact ⟨2, rfl, .inr ⟨by decide, M⟩⟩
  clear S; intro h18 S
  refine st_go [1, 1, 1] S rfl (by kernel_rfl) ?_; clear S a; intro a S
  replace S := S.sub [(0, _), (1, _), (4, _), (6, _), (21, _)] rfl
  refine nxC ?_
  refine st_if (t := 21) S rfl ?_ ?_
  · clear S; intro h21 S
    refine st_condT S rfl ?_
    refine nxD ?_
    refine st_go [1] S rfl (by kernel_rfl) ?_; clear S a; intro a S
    refine nxC ?_
    refine wp_ret ?_
    refine then_ret ?_
    refine end_one S rfl (res_tmp rfl) ?_
    exact ⟨2, rfl, .inr ⟨by decide, M⟩⟩
  clear S; intro h21 S
  refine st_condF S rfl ?_
  refine wp_skip ?_
  refine then_normal ?_
  refine wp_seq ?_
  have hr : recOk (r6 n) := r6_ok (by unfold withinB; simp at *; omega)
  refine wp_region_lit ?_
  refine st_go [1, 1] S rfl (by kernel_rfl) ?_; clear S a; intro a S
  refine st_y S rfl rfl rfl (y_build (ps := [(0, (Operand.const (Value.int IntKind.i8 6))), (8, (Operand.tmp 23))]) (pl := [(0, 1), (1, 3), (4, 1), (5, 1), (6, 1), (7, 1), (8, 1), (9, 2), (11, 1)]) (z := [.int .i8 0, .int .i64 0, .int .i64 0, .int .i64 0, .bool false, .slice none 0 0, .int .i64 0, .int .i64 0, .int .i64 0, .int .i64 0, .int .i64 0, .int .i64 0]) (cs := [_, _, _, _, _, _, _, _, _, _, _, _]) S (by kernel_rfl) rfl (rfl)) ?_; clear S a; intro a S
  refine st_call (xs := [(Operand.tmp 22), (Operand.tmp 24), (Operand.const (Value.bool true))]) S (enters_of Tryz.func40 (by decide) rfl) rfl rfl rfl (keep_any (A := A) (T := T) (K := K) (N := N) s (r6 n) true va none vc 0 0 hE M (Rd.nil 0 _ _ 9) hI hk hb hr (by rw [take6_len]; omega) (by rw [if_pos rfl, take6_len]; exact Nat.le_refl _)) ?_
  rintro _ w1 ⟨rfl, S1, E1, va2, vc2, lo2, hi2, hI1, hq1, hE1, M1⟩; refine ⟨_, rfl, ?_⟩; clear S M a; intro a S; have M := M1; clear M1
  refine st_go [1] S rfl (by kernel_rfl) ?_; clear S a; intro a S
  refine nxC ?_
  refine wp_ret ?_
  refine end_one S rfl (res_tmp rfl) ?_
  exact ⟨0, rfl, .inl ⟨rfl, hr, S1, E1, va2, vc2, lo2, hi2, hI1, trivial, hE1, M⟩⟩
set_option maxHeartbeats 4000000 in
theorem checkpoint_any {wc w : World} {A E : List Ent} {b bd lo hi : Nat} {S0 : DS} {T : List Nm} {K N : Int} (s : Ls) (va : Option Addr) (vc : Nat) (hE : DkE bd S0 E)
    (M : Mem wc w (lgE b bd s va vc :: opE lo hi va vc s.op :: (A ++ E))) (hI : LInv S0 s T K) (hk : K ≤ s.su.inc) (hb : Lb s N) :
    Calls Tryz.prog 14 #[.pointer (some ⟨b, 0, none⟩)] w fun e w' => e = .returned (.int .i64 0) ∧ DidP wc A b bd s (savedS s) [] K w' := by
  refine calls_enter Tryz.func14 rfl 19 rfl rfl ?_; intro a S
  refine wp_seq ?_
  skip
  refine wp_region_lit ?_
  refine st_go [1] S rfl (by kernel_rfl) ?_; clear S a; intro a S
  refine nxC ?_
  refine wp_seq ?_
  refine nxD ?_
  refine st_go [1] S rfl (by kernel_rfl) ?_; clear S a; intro a S
  refine st_y S rfl rfl rfl (y_eqlPS (by kernel_rfl) S rfl) ?_; clear S a; intro a S
  refine nxC ?_
  refine st_condF S rfl ?_
  refine wp_skip ?_
  refine nxE ?_
  refine st_go [1] S rfl (by kernel_rfl) ?_; clear S a; intro a S
  refine st_call (xs := [(Operand.tmp 8)]) S (enters_of Tryz.func41 (by decide) rfl) rfl rfl rfl (saved_any (T := T) (K := K) (N := N) s va vc hE M hI hk hb) ?_
  rintro _ w1 ⟨S1, E1, ra, rc, lo3, hi3, rfl, hI1, hE1, M1⟩; refine ⟨_, rfl, ?_⟩; clear S M a; intro a S; have M := M1; clear M1
  refine st_go [1, 1, 1] S rfl (by kernel_rfl) ?_; clear S a; intro a S
  refine st_alloc S M rfl rfl #[.int .i64 0, .int .i64 0, .int .i64 0, .int .i64 0, .int .i64 0, .int .i64 0, .int .i64 0, .int .i64 0, .int .i64 0, .int .i64 0, .int .i64 0, .int .i64 0, .int .i64 0, .int .i64 0, .int .i64 0, .int .i64 0, .int .i64 0, .int .i64 0, .int .i64 0, .int .i64 0, .int .i64 0, .int .i64 0, .int .i64 0, .int .i64 0, .slice none 0 0] (by kernel_rfl) ?_; clear S M a; intro a w2 bZ S M hB
  refine st_store (sz := 25) (us := [_, _, _, _, _, _, _, _, _, _, _, _, _, _, _, _, _, _, _, _, _, _, _, _, _]) S M 0 rfl (by kernel_rfl) rfl rfl rfl rfl rfl rfl (by first | decide | (simp; done) | (simp; omega)) ?_; clear M; intro w3 M
  simp only [putL, List.set_cons_zero, List.set_cons_succ, Nat.reduceAdd] at M
  refine st_go [1] S rfl (by kernel_rfl) ?_; clear S a; intro a S
  refine nxC ?_
  refine wp_seq ?_
  refine nxD ?_
  refine st_go [1, 1] S rfl (by kernel_rfl) ?_; clear S a; intro a S
  refine nxC ?_
  refine st_if (t := 13) S rfl ?_ ?_
  · clear S; intro h13 S
    exact absurd rfl h13
  clear S; intro h13 S
  refine st_condF S rfl ?_
  refine wp_skip ?_
  refine nxE ?_
  refine st_go [1] S rfl (by kernel_rfl) ?_; clear S a; intro a S
  refine st_y S rfl rfl rfl (y_loadAgg (cs := [_, _, _, _, _, _, _, _, _, _, _, _, _, _, _, _, _, _, _, _, _, _, _, _, _]) S (by kernel_rfl) rfl rfl (M.cellsAt (k := 25) 0 rfl rfl)) ?_; clear S a; intro a S
  refine st_go [1, 2] S rfl (by kernel_rfl) ?_; clear S a; intro a S
  refine st_store (sz := 25) (us := [_, _, _, _, _, _, _, _, _, _, _, _, _, _, _, _, _, _, _, _, _, _, _, _, _]) S M 2 rfl (by kernel_rfl) rfl rfl rfl rfl rfl rfl (by first | decide | (simp; done) | (simp; omega)) ?_; clear M; intro w4 M
  simp only [putL, List.set_cons_zero, List.set_cons_succ, Nat.reduceAdd] at M
  refine nxA ?_
  refine st_go [1] S rfl (by kernel_rfl) ?_; clear S a; intro a S
  refine nxC ?_
  refine wp_ret ?_
  refine end_one S rfl (res_tmp rfl) ?_
  skip
  replace M := M.drop 3
  simp only [List.eraseIdx_cons_succ, List.eraseIdx_cons_zero] at M
  replace M := M.drop 0
  simp only [List.eraseIdx_cons_succ, List.eraseIdx_cons_zero] at M
  replace M := M.front 1 rfl
  simp only [List.eraseIdx_cons_succ, List.eraseIdx_cons_zero] at M
  exact ⟨rfl, S1, E1, ra, rc, lo3, hi3, hI1, trivial, hE1, M⟩
theorem unfinished_any {b : Nat} (dv : Value) (s : Ls) (va : Option Addr) (vc : Nat) (w : World) (B : Blk w b (lgC dv s (opV va vc s.op)).toArray 76) (hv : Rd 0 w.heap.size w 12 (opV va vc s.op) s.op.length (rcsC s.op)) (hl : s.op.length ≤ 1000) :
    Calls Tryz.prog 15 #[.pointer (some ⟨b, 0, none⟩)] w fun e w' => ∃ ra rc, e = .returned (opV ra rc s.op) ∧ Fresh w w' 29 12 (opV ra rc s.op) s.op.length (rcsC s.op) := by
  have M := Mem.start w
  refine calls_enter Tryz.func15 rfl 11 rfl rfl ?_; intro a S
  refine nxD ?_
  refine st_go [1] S rfl (by kernel_rfl) ?_; clear S a; intro a S
  refine nxC ?_
  refine wp_seq ?_
  refine nxD ?_
  refine st_go [1] S rfl (by kernel_rfl) ?_; clear S a; intro a S
  refine st_y S rfl rfl rfl (y_eqlPS (by kernel_rfl) S rfl) ?_; clear S a; intro a S
  refine nxC ?_
  refine st_condF S rfl ?_
  refine wp_skip ?_
  refine nxE ?_
  refine st_go [1, 1, 2, 25] S rfl (by kernel_rfl) ?_; clear S a; intro a S
  refine st_y S rfl rfl rfl (y_load S (by kernel_rfl) rfl (by rw [(B.cells0 M.below).cells]; rfl)) ?_; clear S a; intro a S
  refine st_call (xs := [(Operand.tmp 9)]) S (enters_of Tryz.func42 (by decide) rfl) rfl rfl rfl (cloneR_any _ s.op _ (M.argW hv) (by omega)) ?_
  rintro _ w1 ⟨v2, rfl, hF⟩; refine ⟨_, rfl, ?_⟩; clear S a; intro a S
  obtain ⟨ra, rc, rfl, -, -⟩ := (hF.rd (by unfold maxLen; omega)).form
  refine st_go [1] S rfl (by kernel_rfl) ?_; clear S a; intro a S
  refine nxC ?_
  refine wp_ret ?_
  refine end_one S rfl (res_tmp rfl) ?_
  exact ⟨ra, rc, rfl, hF.from M.below⟩
theorem bound_any {b : Nat} (dv : Value) (s : Ls) (v : Value) (w : World) (B : Blk w b (lgC dv s v).toArray 76) :
    Calls Tryz.prog 16 #[.pointer (some ⟨b, 0, none⟩)] w fun e w' => e = .returned (.int .i64 s.cu.bound) ∧ Below w.heap.size w w' := by
  have M := Mem.start w
  refine calls_enter Tryz.func16 rfl 10 rfl rfl ?_; intro a S
  refine nxD ?_
  refine st_go [1] S rfl (by kernel_rfl) ?_; clear S a; intro a S
  refine nxC ?_
  refine wp_seq ?_
  refine nxD ?_
  refine st_go [1] S rfl (by kernel_rfl) ?_; clear S a; intro a S
  refine st_y S rfl rfl rfl (y_eqlPS (by kernel_rfl) S rfl) ?_; clear S a; intro a S
  refine nxC ?_
  refine st_condF S rfl ?_
  refine wp_skip ?_
  refine nxE ?_
  refine st_go [1, 1, 2, 14] S rfl (by kernel_rfl) ?_; clear S a; intro a S
  refine st_y S rfl rfl rfl (y_load S (by kernel_rfl) rfl (by rw [(B.cells0 M.below).cells]; rfl)) ?_; clear S a; intro a S
  refine st_go [1] S rfl (by kernel_rfl) ?_; clear S a; intro a S
  refine nxC ?_
  refine wp_ret ?_
  refine end_one S rfl (res_tmp rfl) ?_
  exact ⟨rfl, M.below⟩
theorem map_any {b : Nat} (dv : Value) (s : Ls) (v : Value) (w : World) (B : Blk w b (lgC dv s v).toArray 76) :
    Calls Tryz.prog 26 #[.pointer (some ⟨b, 0, none⟩)] w fun e w' => e = .returned (.agg #[.int .i64 s.cu.m0, .int .i64 s.cu.m1, .int .i64 s.cu.m2, .int .i64 s.cu.m3, .int .i64 s.cu.m4, .int .i64 s.cu.m5, .int .i64 s.cu.m6, .int .i64 s.cu.m7]) ∧ Below w.heap.size w w' := by
  have M := Mem.start w
  refine calls_enter Tryz.func26 rfl 11 rfl rfl ?_; intro a S
  refine nxD ?_
  refine st_alloc S M rfl rfl #[.int .i64 0, .int .i64 0, .int .i64 0, .int .i64 0, .int .i64 0, .int .i64 0, .int .i64 0, .int .i64 0] (by kernel_rfl) ?_; clear S M a; intro a w1 bZ S M hB
  refine nxC ?_
  refine wp_seq ?_
  refine nxD ?_
  refine st_go [1] S rfl (by kernel_rfl) ?_; clear S a; intro a S
  refine st_y S rfl rfl rfl (y_eqlPS (by kernel_rfl) S rfl) ?_; clear S a; intro a S
  refine nxC ?_
  refine st_condF S rfl ?_
  refine wp_skip ?_
  refine nxE ?_
  refine st_go [1, 1, 2, 15] S rfl (by kernel_rfl) ?_; clear S a; intro a S
  refine st_y S rfl rfl rfl (y_loadAgg S (by kernel_rfl) rfl rfl (show CellsAt _ b 15 [.int .i64 s.cu.m0, .int .i64 s.cu.m1, .int .i64 s.cu.m2, .int .i64 s.cu.m3, .int .i64 s.cu.m4, .int .i64 s.cu.m5, .int .i64 s.cu.m6, .int .i64 s.cu.m7] from Blk.cellsAt (o := 15) (k := 8) (B.cells0 M.below) rfl)) ?_; clear S a; intro a S
  refine st_store (sz := 8) (us := [_, _, _, _, _, _, _, _]) S M 0 rfl (by kernel_rfl) rfl rfl rfl rfl rfl rfl (by first | decide | (simp; done) | (simp; omega)) ?_; clear M; intro w2 M
  simp only [putL, List.set_cons_zero, List.set_cons_succ, Nat.reduceAdd] at M
  refine nxC ?_
  refine wp_ret ?_
  refine end_one S rfl (res_agg (cs := [_, _, _, _, _, _, _, _]) (by kernel_rfl) rfl rfl (M.cellsAt (k := 8) 0 rfl rfl)) ?_
  exact ⟨rfl, M.below⟩
theorem log_any {b : Nat} (dv : Value) (s : Ls) (v : Value) (w : World) (B : Blk w b (lgC dv s v).toArray 76) :
    Calls Tryz.prog 17 #[.pointer (some ⟨b, 0, none⟩)] w fun e w' => e = .returned (.agg #[.int .i64 s.su.tail, .int .i64 s.n]) ∧ Below w.heap.size w w' := by
  have M := Mem.start w
  refine calls_enter Tryz.func17 rfl 11 rfl rfl ?_; intro a S
  refine nxD ?_
  refine st_alloc S M rfl rfl #[.int .i64 0, .int .i64 0] (by kernel_rfl) ?_; clear S M a; intro a w1 bZ S M hB
  refine nxC ?_
  refine wp_seq ?_
  refine nxD ?_
  refine st_go [1] S rfl (by kernel_rfl) ?_; clear S a; intro a S
  refine st_y S rfl rfl rfl (y_eqlPS (by kernel_rfl) S rfl) ?_; clear S a; intro a S
  refine nxC ?_
  refine st_condF S rfl ?_
  refine wp_skip ?_
  refine nxE ?_
  refine st_go [1, 1, 2, 23] S rfl (by kernel_rfl) ?_; clear S a; intro a S
  refine st_y S rfl rfl rfl (y_loadAgg S (by kernel_rfl) rfl rfl (show CellsAt _ b 23 [.int .i64 s.su.tail, .int .i64 s.n] from Blk.cellsAt (o := 23) (k := 2) (B.cells0 M.below) rfl)) ?_; clear S a; intro a S
  refine st_store (sz := 2) (us := [_, _]) S M 0 rfl (by kernel_rfl) rfl rfl rfl rfl rfl rfl (by first | decide | (simp; done) | (simp; omega)) ?_; clear M; intro w2 M
  simp only [putL, List.set_cons_zero, List.set_cons_succ, Nat.reduceAdd] at M
  refine nxC ?_
  refine wp_ret ?_
  refine end_one S rfl (res_agg (cs := [_, _]) (by kernel_rfl) rfl rfl (M.cellsAt (k := 2) 0 rfl rfl)) ?_
  exact ⟨rfl, M.below⟩
end Go.Proofs.YtmdededhoibofaaGreat

namespace Go.Proofs.YtmdededhoibofaaGreat
open Go.RowKit Go.Sort
abbrev tkV (bf : Nat) : Value := .func (.func 53) #[.pointer (some ⟨bf, 0, none⟩)] #[]
theorem takeR_any {wc w : World} {H : List Ent} {bf : Nat} {bv : Value} {s : Rs} {bs : List UInt8} (M : Mem wc w (.blk bf (rdC bv s) 116 :: H)) (hb : Bs 0 wc.heap.size wc bv bs) (k : Int) (hk : 1 ≤ k ∧ k ≤ 6) :
    Calls Tryz.prog 53 #[.pointer (some ⟨bf, 0, none⟩), .int .i64 k] w fun e w' => e = .returned (.int .i64 (tk bs k.toNat s).1) ∧ Mem wc w' (.blk bf (rdC bv (tk bs k.toNat s).2) 116 :: H) := by
  have hl := hb.2.1
  unfold maxLen at hl
  refine calls_enter Tryz.func53 rfl 34 rfl rfl ?_; intro a S
  refine wp_seq ?_
  skip
  refine wp_region_lit ?_
  refine st_go [1] S rfl (by kernel_rfl) ?_; clear S a; intro a S
  refine nxC ?_
  refine wp_seq ?_
  refine wp_regionK [] #[false, false, false, false, false, false, false, false, false, false, false, false, false, false, false] rfl M (by kernel_rfl) ?_; clear M; intro w1 M
  refine k_pure 0 S rfl (fun w => y_move S rfl) ?_; clear S a; intro a S
  refine k_pure 1 S rfl (fun w => y_nilCheck S rfl) ?_; clear S a; intro a S
  refine k_pure 2 S rfl (fun w => y_fieldAddr (k := 0) S (by kernel_rfl) rfl) ?_; clear S a; intro a S
  refine k_read 3 S rfl (fun w hW => have M := M.grow hW; y_load S (by kernel_rfl) rfl (M.cell 0 rfl rfl)) ?_; clear S a; intro a S
  refine k_pure 4 S rfl (fun w => y_move S rfl) ?_; clear S a; intro a S
  refine k_pure 5 S rfl (fun w => y_nilCheck S rfl) ?_; clear S a; intro a S
  refine k_pure 6 S rfl (fun w => y_fieldAddr (k := 1) S (by kernel_rfl) rfl) ?_; clear S a; intro a S
  refine k_read 7 S rfl (fun w hW => have M := M.grow hW; y_load S (by kernel_rfl) rfl (M.cell 0 rfl rfl)) ?_; clear S a; intro a S
  refine k_pure 8 S rfl (fun w => y_move S rfl) ?_; clear S a; intro a S
  refine k_one 9 rfl (by kernel_rfl) ?_
  refine st_call (xs := [(Operand.tmp 11), (Operand.tmp 15), (Operand.tmp 16)]) S (enters_of Tryz.func83 (by decide) rfl) rfl rfl rfl (get_any _ bs _ _ _ (M.argW hb) (by omega)) ?_
  rintro _ w2 ⟨rfl, hK⟩; refine ⟨_, rfl, ?_⟩; clear S a; intro a S; replace M := M.grow hK
  refine wpList_nil ?_; refine then_normal ?_; refine ⟨fun _ => hK, ?_⟩
  refine k_pure 10 S rfl (fun w => y_move S rfl) ?_; clear S a; intro a S
  refine k_pure 11 S rfl (fun w => y_extract S rfl rfl) ?_; clear S a; intro a S
  refine k_pure 12 S rfl (fun w => y_extract S rfl rfl) ?_; clear S a; intro a S
  refine k_pure 13 S rfl (fun w => y_assign S rfl) ?_; clear S a; intro a S
  refine k_pure 14 S rfl (fun w => y_assign S rfl) ?_; clear S a; intro a S
  refine k_end (by kernel_rfl) ?_
  refine then_normal ?_
  refine wp_seq ?_
  refine nxD ?_
  refine st_go [1, 1] S rfl (by kernel_rfl) ?_; clear S a; intro a S
  replace S := S.sub [(0, _), (1, _), (4, _), (5, _), (6, _), (21, _)] rfl
  refine nxC ?_
  refine st_if (t := 21) S rfl ?_ ?_
  · clear S; intro h21 S
    refine st_condT S rfl ?_
    refine wp_seq ?_
    have hno : ¬ s.at_ + k.toNat ≤ bs.length := fun h => h21 (by unfold getE; rw [if_neg (by omega), if_neg (by omega)])
    refine wp_region_lit ?_
    refine st_go [1, 1, 3] S rfl (by kernel_rfl) ?_; clear S a; intro a S
    refine st_store (sz := 1) (us := [_]) S M 0 rfl (by kernel_rfl) rfl rfl rfl rfl rfl rfl (by first | decide | (simp; done) | (simp; omega)) ?_; clear M; intro w3 M
    simp only [putL, List.set_cons_zero, List.set_cons_succ, Nat.reduceAdd] at M
    refine nxA ?_
    refine st_go [1] S rfl (by kernel_rfl) ?_; clear S a; intro a S
    refine nxC ?_
    refine wp_ret ?_
    refine then_ret ?_
    refine end_one S rfl (res_tmp rfl) ?_
    refine ⟨?_, ?_⟩
    · unfold tk; rw [if_neg hno]
    · unfold tk; rw [if_neg hno]; exact M
  clear S; intro h21 S
  refine st_condF S rfl ?_
  refine wp_skip ?_
  refine then_normal ?_
  refine wp_seq ?_
  have hin : s.at_ + k.toNat ≤ bs.length := by
    rcases Nat.lt_or_ge bs.length (s.at_ + k.toNat) with h | h
    · exfalso; unfold getE at h21; rw [if_neg (by omega), if_pos (by omega)] at h21; omega
    · exact h
  refine wp_region_lit ?_
  refine st_run [1, 1, 2, 1, 1] S M rfl (by kernel_rfl) ?_; clear S a; intro a S
  (first | refine st_y S rfl rfl rfl (y_addN S rfl rfl (by omega)) ?_ | refine st_y S rfl rfl rfl (y_int S rfl rfl rfl) ?_); clear S a; intro a S
  refine st_go [1, 2] S rfl (by kernel_rfl) ?_; clear S a; intro a S
  refine st_store (sz := 1) (us := [_]) S M 0 rfl (by kernel_rfl) rfl rfl rfl rfl rfl rfl (by first | decide | (simp; done) | (simp; omega)) ?_; clear M; intro w4 M
  simp only [putL, List.set_cons_zero, List.set_cons_succ, Nat.reduceAdd] at M
  refine nxA ?_
  refine st_go [1, 1] S rfl (by kernel_rfl) ?_; clear S a; intro a S
  refine nxC ?_
  refine wp_ret ?_
  refine end_one S rfl (res_tmp rfl) ?_
  refine ⟨?_, ?_⟩
  · unfold tk getN; rw [if_pos hin, if_pos (by omega), Int.toNat_natCast]
  · unfold tk; rw [if_pos hin]
    have e : ((s.at_ + k.toNat : Nat) : Int) = (s.at_ : Int) + k := by omega
    simp only [rdC, e]
    exact M
theorem numberR_any {wc w : World} {H : List Ent} {bf : Nat} {bv : Value} {s : Rs} {bs : List UInt8} (M : Mem wc w (.blk bf (rdC bv s) 116 :: H)) (hb : Bs 0 wc.heap.size wc bv bs) (k : Int) (hk : 1 ≤ k ∧ k ≤ 6) :
    Calls Tryz.prog 90 #[tkV bf, .int .i64 k] w fun e w' => e = .returned (.int .i64 (tk bs k.toNat s).1) ∧ Mem wc w' (.blk bf (rdC bv (tk bs k.toNat s).2) 116 :: H) := by
  refine calls_enter Tryz.func90 rfl 8 rfl rfl ?_; intro a S
  refine nxD ?_
  refine st_go [1] S rfl (by kernel_rfl) ?_; clear S a; intro a S
  refine nxA ?_
  refine st_go [1, 1] S rfl (by kernel_rfl) ?_; clear S a; intro a S
  refine st_callB (xs := [(Operand.tmp 6)]) (fi := [_]) (ca := []) S (enters_of Tryz.func53 (by decide) rfl) rfl rfl (rfl) rfl (takeR_any M hb k hk) ?_
  rintro _ w1 ⟨rfl, M1⟩; refine ⟨_, rfl, ?_⟩; clear S a; intro a S; replace M := M1
  refine st_go [1] S rfl (by kernel_rfl) ?_; clear S a; intro a S
  refine nxC ?_
  refine wp_ret ?_
  refine end_one S rfl (res_tmp rfl) ?_
  exact ⟨rfl, M⟩
theorem number8_any {wc w : World} {H : List Ent} {bf : Nat} {bv : Value} {s : Rs} {bs : List UInt8} (M : Mem wc w (.blk bf (rdC bv s) 116 :: H)) (hb : Bs 0 wc.heap.size wc bv bs) :
    Calls Tryz.prog 54 #[tkV bf, .int .i64 1] w fun e w' => e = .returned (.int .i8 (IntKind.i8.wrap (tk bs 1 s).1)) ∧ Mem wc w' (.blk bf (rdC bv (tk bs 1 s).2) 116 :: H) := by
  refine calls_enter Tryz.func54 rfl 9 rfl rfl ?_; intro a S
  refine nxD ?_
  refine st_go [1] S rfl (by kernel_rfl) ?_; clear S a; intro a S
  refine nxA ?_
  refine st_go [1, 1] S rfl (by kernel_rfl) ?_; clear S a; intro a S
  refine st_callB (xs := [(Operand.tmp 6)]) (fi := [_]) (ca := []) S (enters_of Tryz.func53 (by decide) rfl) rfl rfl (rfl) rfl (takeR_any M hb 1 (by omega)) ?_
  rintro _ w1 ⟨rfl, M1⟩; refine ⟨_, rfl, ?_⟩; clear S a; intro a S; replace M := M1
  refine st_y S rfl rfl rfl (y_conv (k' := .i8) S rfl (by kernel_rfl) (by kernel_rfl)) ?_; clear S a; intro a S
  refine st_go [1] S rfl (by kernel_rfl) ?_; clear S a; intro a S
  refine nxC ?_
  refine wp_ret ?_
  refine end_one S rfl (res_tmp rfl) ?_
  exact ⟨rfl, M⟩
theorem numberB_any {wc w : World} {H : List Ent} {bf : Nat} {bv : Value} {s : Rs} {bs : List UInt8} (M : Mem wc w (.blk bf (rdC bv s) 116 :: H)) (hb : Bs 0 wc.heap.size wc bv bs) :
    Calls Tryz.prog 133 #[tkV bf, .int .i64 1] w fun e w' => e = .returned (.int .u8 ((byteOf (tk bs 1 s).1).toNat : Int)) ∧ Mem wc w' (.blk bf (rdC bv (tk bs 1 s).2) 116 :: H) := by
  refine calls_enter Tryz.func133 rfl 9 rfl rfl ?_; intro a S
  refine nxD ?_
  refine st_go [1] S rfl (by kernel_rfl) ?_; clear S a; intro a S
  refine nxA ?_
  refine st_go [1, 1] S rfl (by kernel_rfl) ?_; clear S a; intro a S
  refine st_callB (xs := [(Operand.tmp 6)]) (fi := [_]) (ca := []) S (enters_of Tryz.func53 (by decide) rfl) rfl rfl (rfl) rfl (takeR_any M hb 1 (by omega)) ?_
  rintro _ w1 ⟨rfl, M1⟩; refine ⟨_, rfl, ?_⟩; clear S a; intro a S; replace M := M1
  refine st_y S rfl rfl rfl (y_to8 S rfl (by kernel_rfl) (by kernel_rfl)) ?_; clear S a; intro a S
  refine st_go [1] S rfl (by kernel_rfl) ?_; clear S a; intro a S
  refine nxC ?_
  refine wp_ret ?_
  refine end_one S rfl (res_tmp rfl) ?_
  exact ⟨rfl, M⟩
theorem num1_any {wc w : World} {H : List Ent} {bf : Nat} {bv : Value} {s : Rs} {bs : List UInt8} (M : Mem wc w (.blk bf (rdC bv s) 116 :: H)) (hb : Bs 0 wc.heap.size wc bv bs) :
    Calls Tryz.prog 90 #[tkV bf, .int .i64 1] w fun e w' => e = .returned (.int .i64 (tk bs 1 s).1) ∧ Mem wc w' (.blk bf (rdC bv (tk bs 1 s).2) 116 :: H) := numberR_any M hb 1 (by omega)
theorem num3_any {wc w : World} {H : List Ent} {bf : Nat} {bv : Value} {s : Rs} {bs : List UInt8} (M : Mem wc w (.blk bf (rdC bv s) 116 :: H)) (hb : Bs 0 wc.heap.size wc bv bs) :
    Calls Tryz.prog 90 #[tkV bf, .int .i64 3] w fun e w' => e = .returned (.int .i64 (tk bs 3 s).1) ∧ Mem wc w' (.blk bf (rdC bv (tk bs 3 s).2) 116 :: H) := numberR_any M hb 3 (by omega)
theorem name_any {wc w : World} {H : List Ent} {bf : Nat} {bv : Value} {s : Rs} {bs : List UInt8} (M : Mem wc w (.blk bf (rdC bv s) 116 :: H)) (hb : Bs 0 wc.heap.size wc bv bs) :
    Calls Tryz.prog 92 #[tkV bf] w fun e w' => e = .returned (.agg (rdName bs s).1.cells) ∧ Mem wc w' (.blk bf (rdC bv (rdName bs s).2) 116 :: H) := by
  refine calls_enter Tryz.func92 rfl 16 rfl rfl ?_; intro a S
  refine wp_seq ?_
  skip
  refine wp_region_lit ?_
  refine st_alloc S M rfl rfl #[.int .i64 0, .int .i64 0, .int .i64 0] (by kernel_rfl) ?_; clear S M a; intro a w1 bN S M hB
  refine nxA ?_
  refine st_go [1] S rfl (by kernel_rfl) ?_; clear S a; intro a S
  replace M := M.front 1 rfl
  simp only [List.eraseIdx_cons_succ, List.eraseIdx_cons_zero] at M
  refine st_call (xs := [(Operand.tmp 6), (Operand.const (Value.int IntKind.i64 3))]) S (enters_of Tryz.func90 (by decide) rfl) rfl rfl rfl (num3_any M hb) ?_
  rintro _ w2 ⟨rfl, M1⟩; refine ⟨_, rfl, ?_⟩; clear S a; intro a S; replace M := M1
  refine st_go [1] S rfl (by kernel_rfl) ?_; clear S a; intro a S
  refine nxA ?_
  refine st_go [1] S rfl (by kernel_rfl) ?_; clear S a; intro a S
  refine st_call (xs := [(Operand.tmp 8), (Operand.const (Value.int IntKind.i64 3))]) S (enters_of Tryz.func90 (by decide) rfl) rfl rfl rfl (num3_any M hb) ?_
  rintro _ w3 ⟨rfl, M1⟩; refine ⟨_, rfl, ?_⟩; clear S a; intro a S; replace M := M1
  refine st_go [1] S rfl (by kernel_rfl) ?_; clear S a; intro a S
  refine nxA ?_
  refine st_go [1] S rfl (by kernel_rfl) ?_; clear S a; intro a S
  refine st_call (xs := [(Operand.tmp 10), (Operand.const (Value.int IntKind.i64 3))]) S (enters_of Tryz.func90 (by decide) rfl) rfl rfl rfl (num3_any M hb) ?_
  rintro _ w4 ⟨rfl, M1⟩; refine ⟨_, rfl, ?_⟩; clear S a; intro a S; replace M := M1
  refine st_go [1] S rfl (by kernel_rfl) ?_; clear S a; intro a S
  refine nxA ?_
  refine st_go [1, 1, 1] S rfl (by kernel_rfl) ?_; clear S a; intro a S
  refine st_y S rfl rfl rfl (y_build (ps := [(0, (Operand.tmp 12)), (1, (Operand.tmp 13)), (2, (Operand.tmp 14))]) (pl := [(0, 1), (1, 1), (2, 1)]) (z := [.int .i64 0, .int .i64 0, .int .i64 0]) (cs := [_, _, _]) S (by kernel_rfl) rfl (rfl)) ?_; clear S a; intro a S
  refine st_store (sz := 3) (us := [_, _, _]) S M 1 rfl (by kernel_rfl) rfl rfl rfl rfl rfl rfl (by first | decide | (simp; done) | (simp; omega)) ?_; clear M; intro w5 M
  simp only [putL, List.set_cons_zero, List.set_cons_succ, Nat.reduceAdd] at M
  refine nxC ?_
  refine wp_ret ?_
  refine end_one S rfl (res_agg (cs := [_, _, _]) (by kernel_rfl) rfl rfl (M.cellsAt (k := 3) 1 rfl rfl)) ?_
  exact ⟨rfl, M.drop 1⟩
theorem writes_any {wc w : World} {H : List Ent} {bf : Nat} {bv : Value} {s : Rs} {bs : List UInt8} (M : Mem wc w (.blk bf (rdC bv s) 116 :: H)) (hb : Bs 0 wc.heap.size wc bv bs) :
    Calls Tryz.prog 93 #[tkV bf] w fun e w' => ∃ v' lo hi, e = .returned v' ∧ Mem wc w' (rowE lo hi 146 9 v' (rdWs bs s).1.length (wcells (rdWs bs s).1) :: .blk bf (rdC bv (rdWs bs s).2) 116 :: H) := by
  obtain ⟨t1, ht1⟩ : ∃ t1, tk bs 1 s = t1 := ⟨_, rfl⟩
  have hn := tk1_bd bs s
  rw [ht1] at hn
  obtain ⟨n, hn'⟩ : ∃ n : Nat, (n : Int) = min t1.1 8 := ⟨(min t1.1 8).toNat, by omega⟩
  have hn8 : n ≤ 8 := by omega
  have hrd : rdWs bs s = rdWrs bs n t1.2 := by unfold rdWs; rw [ht1]; simp only; rw [← hn', Int.toNat_natCast]
  rw [hrd]
  refine calls_enter Tryz.func93 rfl 29 rfl rfl ?_; intro a S
  refine wp_seq ?_
  skip
  refine wp_region_lit ?_
  refine st_go [1] S rfl (by kernel_rfl) ?_; clear S a; intro a S
  refine nxA ?_
  refine st_go [1] S rfl (by kernel_rfl) ?_; clear S a; intro a S
  refine nxC ?_
  refine wp_seq ?_
  refine nxD ?_
  refine st_go [1] S rfl (by kernel_rfl) ?_; clear S a; intro a S
  refine st_call (xs := [(Operand.tmp 6), (Operand.const (Value.int IntKind.i64 1))]) S (enters_of Tryz.func90 (by decide) rfl) rfl rfl rfl (num1_any M hb) ?_
  rintro _ w1 ⟨rfl, M1⟩; refine ⟨_, rfl, ?_⟩; clear S a; intro a S; replace M := M1; rw [ht1] at S M
  refine st_y S rfl rfl rfl (y_min S rfl rfl) ?_; clear S a; intro a S
  rw [← hn'] at S
  refine st_y S rfl rfl rfl (y_move S rfl) ?_; clear S a; intro a S
  refine nxC ?_
  refine wp_block ?_
  refine wp_loop_g (fun m a w' => ∃ (k : Nat) (v : Value) (lo hi : Nat), k ≤ n ∧ m = n - k ∧ Sees 29 a [(0, tkV bf), (3, v), (8, .int .i64 (n : Int)), (9, .int .i64 (k : Int))] ∧ Mem wc w' (.blk bf (rdC bv (rdWrs bs k t1.2).2) 116 :: rowE lo hi 146 9 v (rdWrs bs k t1.2).1.length (wcells (rdWrs bs k t1.2).1) :: H)) (n) ?_ ?_
  · skip
    exact ⟨0, _, _, _, Nat.zero_le _, rfl, S.sub _ rfl, (M.rowNil 146 9).front 1 rfl⟩
  clear S M a; intro m a wl
  rintro ⟨k, v, lo, hi, hk, rfl, S, M⟩
  obtain ⟨s1, hs1⟩ : ∃ s1, (rdWrs bs k t1.2).2 = s1 := ⟨_, rfl⟩
  obtain ⟨xs, hxs⟩ : ∃ xs, (rdWrs bs k t1.2).1 = xs := ⟨_, rfl⟩
  have hxl : xs.length = k := by rw [← hxs, rdWrs_len]
  rw [hs1, hxs] at M
  refine nxD ?_
  refine st_go [1] S rfl (by kernel_rfl) ?_; clear S a; intro a S
  refine nxC ?_
  refine wp_seq ?_
  refine st_fi (t := 10) S rfl ?_ ?_
  · clear S; intro h10 S
    refine st_condF S rfl ?_
    refine wp_exit ?_
    refine then_exit ?_
    refine then_exit ?_
    refine block_hit ?_
    refine nxE ?_
    refine st_go [1, 1] S rfl (by kernel_rfl) ?_; clear S a; intro a S
    refine nxC ?_
    refine wp_ret ?_
    refine end_one S rfl (res_tmp rfl) ?_
    obtain rfl : k = n := by omega
    rw [← hs1, ← hxs] at M
    exact ⟨_, _, _, rfl, M.front 1 rfl⟩
  clear S; intro h10 S
  refine st_condT S rfl ?_
  refine wp_skip ?_
  refine then_normal ?_
  refine wp_seq ?_
  refine wp_block ?_
  refine nxD ?_
  refine st_go [1] S rfl (by kernel_rfl) ?_; clear S a; intro a S
  refine st_call (xs := [(Operand.tmp 11), (Operand.const (Value.int IntKind.i64 1))]) S (enters_of Tryz.func90 (by decide) rfl) rfl rfl rfl (num1_any M hb) ?_
  rintro _ w2 ⟨rfl, M1⟩; refine ⟨_, rfl, ?_⟩; clear S a; intro a S; replace M := M1
  refine st_y S rfl rfl rfl (y_build (ps := [(0, (Operand.tmp 12))]) (pl := [(0, 1), (1, 8)]) (z := [.int .i64 0, .int .u8 0, .int .u8 0, .int .u8 0, .int .u8 0, .int .u8 0, .int .u8 0, .int .u8 0, .int .u8 0]) (cs := [_, _, _, _, _, _, _, _, _]) S (by kernel_rfl) rfl (rfl)) ?_; clear S a; intro a S
  refine st_alloc S M rfl rfl #[.int .i64 0, .int .u8 0, .int .u8 0, .int .u8 0, .int .u8 0, .int .u8 0, .int .u8 0, .int .u8 0, .int .u8 0] (by kernel_rfl) ?_; clear S M a; intro a w3 bW S M hB
  refine st_store (sz := 9) (us := [_, _, _, _, _, _, _, _, _]) S M 0 rfl (by kernel_rfl) rfl rfl rfl rfl rfl rfl (by first | decide | (simp; done) | (simp; omega)) ?_; clear M; intro w4 M
  simp only [putL, List.set_cons_zero, List.set_cons_succ, Nat.reduceAdd] at M
  refine nxC ?_
  refine wp_seq ?_
  refine nxD ?_
  refine st_go [1] S rfl (by kernel_rfl) ?_; clear S a; intro a S
  refine nxC ?_
  refine wp_block ?_
  refine wp_loop_g (fun m a w' => ∃ (j : Nat), j ≤ 8 ∧ m = 8 - j ∧ Sees 29 a [(0, tkV bf), (3, v), (4, .pointer (some ⟨bW, 0, none⟩)), (8, .int .i64 (n : Int)), (9, .int .i64 (k : Int)), (14, .int .i64 (j : Int))] ∧ Mem wc w' (.blk bf (rdC bv (rdBs bs j (tk bs 1 s1).2).2) 116 :: .blk bW (.int .i64 (tk bs 1 s1).1 :: bcells (padB (rdBs bs j (tk bs 1 s1).2).1)).toArray 146 :: rowE lo hi 146 9 v xs.length (wcells xs) :: H)) (8) ?_ ?_
  · skip
    replace M := M.front 1 rfl
    simp only [List.eraseIdx_cons_succ, List.eraseIdx_cons_zero] at M
    exact ⟨0, by omega, rfl, S.sub _ rfl, M⟩
  clear S M a; intro m a wl
  rintro ⟨j, hj, rfl, S, M⟩
  refine nxD ?_
  refine st_go [1] S rfl (by kernel_rfl) ?_; clear S a; intro a S
  refine nxC ?_
  refine wp_seq ?_
  refine st_if (t := 15) S rfl ?_ ?_
  · clear S; intro h15 S
    refine st_condT S rfl ?_
    refine wp_skip ?_
    refine then_normal ?_
    refine wp_seq ?_
    refine wp_block ?_
    refine nxD ?_
    refine st_go [1, 1] S rfl (by kernel_rfl) ?_; clear S a; intro a S
    refine nxC ?_
    have hjl := rdBs_len bs j (tk bs 1 s1).2
    refine wp_region_lit ?_
    refine st_go [1, 1] S rfl (by kernel_rfl) ?_; clear S a; intro a S
    refine st_call (xs := [(Operand.tmp 18), (Operand.const (Value.int IntKind.i64 1))]) S (enters_of Tryz.func133 (by decide) rfl) rfl rfl rfl (numberB_any M hb) ?_
    rintro _ w5 ⟨rfl, M1⟩; refine ⟨_, rfl, ?_⟩; clear S a; intro a S; replace M := M1
    refine st_go [2] S rfl (by kernel_rfl) ?_; clear S a; intro a S
    refine st_y S rfl rfl rfl (y_indexA (m := 8) (sz := 1) S (by kernel_rfl) rfl rfl (by first | omega | (simp; done) | (simp; omega))) ?_; clear S a; intro a S
    try simp only [Int.toNat_natCast, Nat.mul_one, Nat.zero_add] at S
    refine st_store (sz := 1) (us := [_]) S M 1 rfl (by kernel_rfl) rfl rfl rfl rfl rfl rfl (by simp [padB, bcells, hjl]; omega) ?_; clear M; intro w6 M
    simp only [List.set_cons_zero, List.set_cons_succ] at M
    refine wpList_nil ?_
    refine block_normal ?_
    refine nxF ?_
    (first | refine st_y S rfl rfl rfl (y_addN S rfl rfl (by omega)) ?_ | refine st_y S rfl rfl rfl (y_int S rfl rfl rfl) ?_); clear S a; intro a S
    refine st_go [1] S rfl (by kernel_rfl) ?_; clear S a; intro a S
    refine nxC ?_
    refine ⟨8 - (j + 1), by omega, j + 1, by omega, rfl, S.sub _ rfl, ?_⟩
    rw [rdBs_snoc]
    have e := padB_set (l := (rdBs bs j (tk bs 1 s1).2).1) (.int .i64 (tk bs 1 s1).1) (byteOf (tk bs 1 (rdBs bs j (tk bs 1 s1).2).2).1) (by omega)
    rw [hjl] at e
    rw [← e]
    exact M
  clear S; intro h15 S
  refine st_condF S rfl ?_
  refine wp_exit ?_
  refine then_exit ?_
  refine then_exit ?_
  refine block_hit ?_
  refine then_normal ?_
  obtain rfl : j = 8 := by omega
  obtain ⟨x, hx⟩ : ∃ x : Wr, (rdWr bs s1).1 = x := ⟨_, rfl⟩
  have hxc : (Value.int .i64 (tk bs 1 s1).1 :: bcells (padB (rdBs bs 8 (tk bs 1 s1).2).1)) = x.cellsL := by rw [padB_full (rdBs_len _ _ _), ← hx]; rfl
  have hs2 : (rdBs bs 8 (tk bs 1 s1).2).2 = (rdWr bs s1).2 := rfl
  rw [hxc, hs2] at M
  refine wp_region_lit ?_
  refine st_go [1] S rfl (by kernel_rfl) ?_; clear S a; intro a S
  refine st_y S rfl rfl rfl (y_loadAgg (cs := [_, _, _, _, _, _, _, _, _]) S (by kernel_rfl) rfl rfl (M.cellsAt (k := 9) 1 rfl rfl)) ?_; clear S a; intro a S
  refine st_lit (ps := [(0, (Operand.tmp 24))]) (e := 146) (sz := 9) (zl := [.int .i64 0, .int .u8 0, .int .u8 0, .int .u8 0, .int .u8 0, .int .u8 0, .int .u8 0, .int .u8 0, .int .u8 0]) (cs := [_, _, _, _, _, _, _, _, _]) S M rfl rfl (by kernel_rfl) rfl (rfl) ?_; clear S M a; intro a w7 bZ S M hB
  refine st_append (e := 146) (sz := 9) (by_ := 16) (zc := [.int .i64 0, .int .u8 0, .int .u8 0, .int .u8 0, .int .u8 0, .int .u8 0, .int .u8 0, .int .u8 0, .int .u8 0]) S M 3 rfl rfl (by kernel_rfl) rfl (by decide) rfl rfl rfl (show Rd _ _ _ 9 _ 1 (wcells [x]) from M.sliceAt 0 rfl (M.cellsAt (k := 9) 0 rfl rfl) rfl (Nat.le_refl _) (by unfold maxLen; omega)) (allOne_wcells _) (by omega) (by unfold maxLen; omega) ?_; clear S M a; intro a w8 vA loA hiA S M
  refine st_go [1] S rfl (by kernel_rfl) ?_; clear S a; intro a S
  refine wpList_nil ?_
  refine block_normal ?_
  refine nxF ?_
  (first | refine st_y S rfl rfl rfl (y_addN S rfl rfl (by omega)) ?_ | refine st_y S rfl rfl rfl (y_int S rfl rfl rfl) ?_); clear S a; intro a S
  refine st_go [1] S rfl (by kernel_rfl) ?_; clear S a; intro a S
  refine nxC ?_
  replace M := M.front 2 rfl
  simp only [List.eraseIdx_cons_succ, List.eraseIdx_cons_zero] at M
  refine ⟨n - (k + 1), by omega, k + 1, vA, loA, hiA, by omega, rfl, S.sub _ rfl, ?_⟩
  rw [rdWrs_snoc, hs1, hxs, hx, wcells_append, List.length_append]
  exact M.sub (by simp)
end Go.Proofs.YtmdededhoibofaaGreat

namespace Go.Proofs.YtmdededhoibofaaGreat
open Go.RowKit Go.Sort
theorem equalB_any (v u : Value) (x y : List UInt8) (w : World) (hx : Bs 0 w.heap.size w v x) (hy : Bs 0 w.heap.size w u y) : Calls Tryz.prog 57 #[v, u] w fun e w' => e = .returned (.bool (x == y)) ∧ Below w.heap.size w w' := by
  have M := Mem.start w
  refine calls_enter Tryz.func57 rfl 10 rfl rfl ?_; intro a S
  refine nxD ?_
  refine st_go [1] S rfl (by kernel_rfl) ?_; clear S a; intro a S
  refine nxA ?_
  refine st_go [1] S rfl (by kernel_rfl) ?_; clear S a; intro a S
  refine st_y S rfl rfl rfl (y_bytesStr (e := 5) S rfl (by kernel_rfl) (by kernel_rfl) (by kernel_rfl) (M.arg hx)) ?_; clear S a; intro a S
  refine st_go [1] S rfl (by kernel_rfl) ?_; clear S a; intro a S
  refine st_y S rfl rfl rfl (y_bytesStr (e := 5) S rfl (by kernel_rfl) (by kernel_rfl) (by kernel_rfl) (M.arg hy)) ?_; clear S a; intro a S
  refine st_y S rfl rfl rfl (y_eqlStr S rfl rfl) ?_; clear S a; intro a S
  refine st_go [1] S rfl (by kernel_rfl) ?_; clear S a; intro a S
  refine nxC ?_
  refine wp_ret ?_
  refine end_one S rfl (res_tmp rfl) ?_
  exact ⟨ret_bool (strEq x y), M.below⟩
end Go.Proofs.YtmdededhoibofaaGreat

