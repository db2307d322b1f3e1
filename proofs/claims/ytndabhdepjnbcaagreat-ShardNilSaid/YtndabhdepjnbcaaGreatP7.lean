/-
  What ShardNil rests on, part 7.
-/
import Derived.Test.YtndabhdepjnbcaaGreatP6
namespace Go.Proofs.YtndabhdepjnbcaaGreat
open Go.RowKit Go.Sort
theorem seatOf (s : Int) : 0 ≤ 2 + s % 24 ∧ 2 + s % 24 < 34 := by omega
set_option maxHeartbeats 1000000 in
theorem write1_any {wc w : World} {A E : List Ent} {b : Nat} {S0 : DS} (f : Fr) (ad : Option Addr) (c : Nat) (ld : List UInt8) (hE : DkE b S0 E) (M : Mem wc w (A ++ E)) (hv : RdH wc A (.slice ad ld.length c) ld) (hup : S0.down = false) (hm : f.may ld.length = true) (hw : ∀ k, (S0.cache k).length ≤ 1000000) :
    Calls Tryz.prog 104 #[.pointer (some ⟨b, 0, none⟩), .agg (f.cells (.slice ad ld.length c)).toArray] w fun e w' => e = .returned (.int .i64 0) ∧ ∃ E', DkE b (S0.write (2 + f.seq % 24) (bytesF f ld)) E' ∧ Mem wc w' (A ++ E') := by
  have hm2 := hm
  simp only [Fr.may, decide_eq_true_eq] at hm2
  have hA : ∀ W, Mem wc W (A ++ E) → Bs 0 W.heap.size W (.slice ad ld.length c) ld := fun W M => hv _ (M.sub (List.sublist_append_left _ _))
  have hpe : plE f.seq = 0 := by unfold plE; rw [if_pos hm2.1]
  have hpv : plV f.seq = 2 + f.seq % 24 := by unfold plV; rw [if_pos hm2.1]
  have h64 := bytesF_length hm
  refine calls_enter Tryz.func104 rfl 29 rfl rfl ?_; intro a S
  refine nxD ?_
  refine st_box S M rfl rfl rfl #[_, _, _, _, _, _] rfl ?_; clear S M a; intro a w1 bB S M hB
  refine st_go [1] S rfl (by kernel_rfl) ?_; clear S a; intro a S
  refine nxA ?_
  refine st_run [1, 1] S M rfl (by kernel_rfl) ?_; clear S a; intro a S
  refine st_call (xs := [(Operand.tmp 10)]) S (enters_of Tryz.func108 (by decide) rfl) rfl rfl rfl (PlaceJ f.seq _) ?_
  rintro _ w2 ⟨rfl, hK⟩; refine ⟨_, rfl, ?_⟩; clear S a; intro a S; replace M := M.grow hK
  refine st_go [1, 1, 1, 1, 1] S rfl (by kernel_rfl) ?_; clear S a; intro a S
  refine nxC ?_
  refine wp_seq ?_
  refine wp_seq ?_
  rw [hpe, hpv] at S
  refine wp_region_lit ?_
  refine st_go [1, 1] S rfl (by kernel_rfl) ?_; clear S a; intro a S
  refine nxC ?_
  refine st_if (t := 15) S rfl ?_ ?_
  · clear S; intro h15 S
    exact absurd rfl h15
  clear S; intro h15 S
  refine st_condF S rfl ?_
  refine wp_skip ?_
  refine nxE ?_
  refine st_y S rfl rfl rfl (y_loadAgg (cs := [_, _, _, _, _, _]) S (by kernel_rfl) rfl rfl (M.cellsAt (k := 6) 0 rfl rfl)) ?_; clear S a; intro a S
  refine st_call (xs := [(Operand.tmp 18)]) S (enters_of Tryz.func144 (by decide) rfl) rfl rfl rfl (bytes_any f (.slice ad ld.length c) ld _ (hA _ (M.drop 0))) ?_
  rintro _ w3 hP; obtain ⟨vb, lo, hi, rfl, hK, M2⟩ := bytes_uni M hP; refine ⟨_, rfl, ?_⟩; clear S M a; intro a S; have M := M2; clear M2
  rw [if_pos hm] at S
  rw [ifL_pos hm] at M
  refine st_go [1, 1, 1, 1, 1] S rfl (by kernel_rfl) ?_; clear S a; intro a S
  refine nxC ?_
  refine wp_seq ?_
  refine nxD ?_
  refine st_go [1, 1] S rfl (by kernel_rfl) ?_; clear S a; intro a S
  replace S := S.sub [(0, _), (1, _), (3, _), (4, _), (5, _), (15, _), (7, _), (6, _), (23, _)] rfl
  refine nxC ?_
  refine st_if (t := 23) S rfl ?_ ?_
  · clear S; intro h23 S
    exact absurd rfl h23
  clear S; intro h23 S
  refine st_condF S rfl ?_
  refine wp_skip ?_
  refine nxE ?_
  refine st_go [1, 1, 1] S rfl (by kernel_rfl) ?_; clear S a; intro a S
  refine st_call (xs := [(Operand.tmp 25), (Operand.tmp 26), (Operand.tmp 27)]) S (enters_of Tryz.func83 (by decide) rfl) rfl rfl rfl (write_any (A := _ :: _ :: A) (k := 2 + f.seq % 24) (bs := bytesF f ld) hE M (fun W M => M.readAll 0 rfl (by unfold maxLen; omega)) hup (seatOf _) (by omega) (hw _)) ?_
  rintro _ w4 ⟨rfl, E', hE', M2⟩; refine ⟨_, rfl, ?_⟩; clear S M a; intro a S; have M := M2; clear M2
  rw [pad64_eq h64] at hE'
  refine st_go [1] S rfl (by kernel_rfl) ?_; clear S a; intro a S
  refine nxC ?_
  refine wp_ret ?_
  refine end_one S rfl (res_tmp rfl) ?_
  exact ⟨rfl, E', hE', (M.drop 0).drop 0⟩
def putF (S : DS) (fs : List (Fr × List UInt8)) : DS := fs.foldl (fun S x => S.write (2 + x.1.seq % 24) (bytesF x.1 x.2)) S
def appOk (t n : Int) (bs : List UInt8) : Prop := bs ≠ [] ∧ bs.length ≤ 90 ∧ (nOf bs.length : Int) ≤ 24 - (n - t)
instance (t n : Int) (bs : List UInt8) : Decidable (appOk t n bs) := by unfold appOk; infer_instance
def AppP (t n inc : Int) (bs : List UInt8) (S0 : DS) (n' er : Int) (S1 : DS) : Prop := (appOk t n bs ∧ n' = n + (nOf bs.length : Nat) ∧ er = 0 ∧ S1 = putF S0 (cutF bs n inc)) ∨ (¬ appOk t n bs ∧ n' = n ∧ er ≠ 0 ∧ S1 = S0)
theorem write_cache_le {S : DS} {k : Int} {bs : List UInt8} {m : Nat} (h : ∀ j, (S.cache j).length ≤ m) (j : Int) : ((S.write k bs).cache j).length ≤ m + 1 := by
  unfold DS.write
  simp only
  split
  · rw [List.length_append]; have := h k; simp; omega
  · have := h j; omega
theorem putF_cache_le (fs : List (Fr × List UInt8)) : ∀ {S : DS} {m : Nat}, (∀ j, (S.cache j).length ≤ m) → ∀ j, ((putF S fs).cache j).length ≤ m + fs.length := by
  induction fs with
  | nil => intro S m h j; exact h j
  | cons x fs ih =>
    intro S m h j
    have := ih (write_cache_le (k := 2 + x.1.seq % 24) (bs := bytesF x.1 x.2) h) j
    rw [List.length_cons]
    unfold putF at this ⊢
    rw [List.foldl_cons]; omega
theorem putF_down (fs : List (Fr × List UInt8)) : ∀ (S : DS), (putF S fs).down = S.down := by
  induction fs with
  | nil => intro S; rfl
  | cons x fs ih => intro S; exact ih _
theorem putF_snoc (S : DS) (fs : List (Fr × List UInt8)) (x : Fr × List UInt8) : putF S (fs ++ [x]) = (putF S fs).write (2 + x.1.seq % 24) (bytesF x.1 x.2) := by unfold putF; rw [List.foldl_append]; rfl
theorem nOf_le {n : Nat} (h : n ≤ 90) : nOf n ≤ 2 := by unfold nOf; omega
set_option maxHeartbeats 2000000 in
theorem append_any {wc w : World} {A E : List Ent} {b : Nat} {S0 : DS} (t n inc : Int) (v : Value) (bs : List UInt8) (hE : DkE b S0 E) (M : Mem wc w (A ++ E)) (hv : RdH wc A v bs) (hup : S0.down = false) (hl : mayL t n) (hn : n ≤ 2147483648) (hi : 0 ≤ inc ∧ inc ≤ 1048576) (hw : ∀ k, (S0.cache k).length ≤ 100000) :
    Calls Tryz.prog 55 #[.pointer (some ⟨b, 0, none⟩), .agg #[.int .i64 t, .int .i64 n], .int .i64 inc, v] w fun e w' => ∃ n' er S1, e = .returned (.tuple #[.agg #[.int .i64 t, .int .i64 n'], .int .i64 er]) ∧ AppP t n inc bs S0 n' er S1 ∧ ∃ E', DkE b S1 E' ∧ Mem wc w' (A ++ E') := by
  have hA : ∀ W, Mem wc W (A ++ E) → Bs 0 W.heap.size W v bs := fun W M => hv _ (M.sub (List.sublist_append_left _ _))
  have hl' := hl
  refine calls_enter Tryz.func55 rfl 63 rfl rfl ?_; intro a S
  refine nxD ?_
  refine st_box S M rfl rfl rfl #[_, _] rfl ?_; clear S M a; intro a w1 bL S M hB
  refine st_alloc S M rfl rfl #[.int .i64 0, .int .i64 0] (by kernel_rfl) ?_; clear S M a; intro a w2 bR S M hB
  refine st_go [1] S rfl (by kernel_rfl) ?_; clear S a; intro a S
  refine nxC ?_
  refine wp_seq ?_
  refine nxD ?_
  refine st_go [1] S rfl (by kernel_rfl) ?_; clear S a; intro a S
  refine st_y S rfl rfl rfl (y_eqlPS (by kernel_rfl) S rfl) ?_; clear S a; intro a S
  refine nxC ?_
  refine st_condF S rfl ?_
  refine wp_skip ?_
  refine then_normal ?_
  refine wp_seq ?_
  refine nxD ?_
  refine st_y S rfl rfl rfl (y_loadAgg (cs := [_, _]) S (by kernel_rfl) rfl rfl (M.cellsAt (k := 2) 1 rfl rfl)) ?_; clear S a; intro a S
  refine st_call (xs := [(Operand.tmp 20)]) S (enters_of Tryz.func98 (by decide) rfl) rfl rfl rfl (MayJ t n _) ?_
  rintro _ w3 ⟨rfl, hK⟩; refine ⟨_, rfl, ?_⟩; clear S a; intro a S; replace M := M.grow hK
  refine st_go [1] S rfl (by kernel_rfl) ?_; clear S a; intro a S
  refine nxC ?_
  refine st_if (t := 22) S rfl ?_ ?_
  · clear S; intro h22 S
    exfalso; omega
  clear S; intro h22 S
  refine st_condF S rfl ?_
  refine wp_skip ?_
  refine nxE ?_
  refine st_run [1, 2, 2, 1] S M rfl (by kernel_rfl) ?_; clear S a; intro a S
  refine st_call (xs := [(Operand.tmp 25), (Operand.tmp 27), (Operand.tmp 28)]) S (enters_of Tryz.func102 (by decide) rfl) rfl rfl rfl (cut_any v bs n inc _ (hA _ ((M.drop 0).drop 0)) (by omega)) ?_
  rintro _ w4 ⟨vc, rfl, hK, cs, hF⟩; refine ⟨_, rfl, ?_⟩; clear S a; intro a S
  obtain ⟨lo, hi2, hlo, M2⟩ := M.pushFrs hK hF; clear M; have M := M2; clear M2
  refine st_go [1, 1, 1, 1, 1] S rfl (by kernel_rfl) ?_; clear S a; intro a S
  refine nxC ?_
  refine wp_seq ?_
  refine nxD ?_
  refine st_go [1, 1] S rfl (by kernel_rfl) ?_; clear S a; intro a S
  refine nxC ?_
  refine st_split (t := 33) S rfl ?_ ?_
  · clear S; intro h33 S
    refine st_condT S rfl ?_
    refine nxD ?_
    refine st_y S rfl rfl rfl (y_loadAgg (cs := [_, _]) S (by kernel_rfl) rfl rfl (M.cellsAt (k := 2) 2 rfl rfl)) ?_; clear S a; intro a S
    refine st_go [1] S rfl (by kernel_rfl) ?_; clear S a; intro a S
    refine st_store (sz := 2) (us := [_, _]) S M 1 rfl (by kernel_rfl) rfl rfl rfl rfl rfl rfl (by first | decide | (simp; done) | (simp; omega)) ?_; clear M; intro w5 M
    simp only [putL, List.set_cons_zero, List.set_cons_succ, Nat.reduceAdd] at M
    refine st_go [1] S rfl (by kernel_rfl) ?_; clear S a; intro a S
    replace S := S.sub [(0, _), (1, _), (2, _), (3, _), (5, _), (8, _), (18, _), (22, _), (10, _), (11, _), (33, _), (9, _)] rfl
    refine nxC ?_
    refine wp_ret ?_
    refine then_ret ?_
    refine end_two S rfl (res_agg (cs := [_, _]) (by kernel_rfl) rfl rfl (M.cellsAt (k := 2) 1 rfl rfl)) (res_tmp rfl) ?_
    refine ⟨n, _, S0, rfl, .inr ⟨?_, rfl, ?_, rfl⟩, E, hE, ((M.drop 0).drop 0).drop 0⟩
    · intro hok
      have hc : cutOk bs n inc := ⟨hok.1, by omega, hi, hok.2.1, by have := nOf_le hok.2.1; omega⟩
      rw [cutE_zero.2 hc] at h33; simp at h33
    · intro h0; rw [h0] at h33; simp at h33
  clear S; intro h33 S
  refine st_condF S rfl ?_
  refine wp_skip ?_
  refine then_normal ?_
  refine wp_seq ?_
  have hc : cutOk bs n inc := by
    rw [← cutE_zero]; simpa using h33
  have hcl : (cutF bs n inc).length = nOf bs.length := by unfold cutF; simp
  have hcR : cutR bs n inc = cutF bs n inc := by unfold cutR; rw [if_pos hc]
  rw [hcR] at M
  have hn2 := nOf_le hc.2.2.2.1
  have hF0 := (M.own 0 rfl)
  obtain ⟨va, vcp, rfl, -, -⟩ := (hF0.1).form
  rw [hcl] at S M
  refine wp_region_lit ?_
  refine st_y S rfl rfl rfl (y_loadAgg (cs := [_, _]) S (by kernel_rfl) rfl rfl (M.cellsAt (k := 2) 2 rfl rfl)) ?_; clear S a; intro a S
  refine st_go [1] S rfl (by kernel_rfl) ?_; clear S a; intro a S
  refine st_y S rfl rfl rfl (y_lenS (E := 191) S rfl (by kernel_rfl)) ?_; clear S a; intro a S
  refine st_call (xs := [(Operand.tmp 37), (Operand.tmp 39)]) S (enters_of Tryz.func103 (by decide) rfl) rfl rfl rfl (TakeJ t n (nOf bs.length) _ hl (by omega)) ?_
  rintro _ w6 ⟨er, x, y, tv, rfl, hK2, hT⟩; refine ⟨_, rfl, ?_⟩; clear S a; intro a S; replace M := M.grow hK2
  refine st_go [1, 1, 1, 1] S rfl (by kernel_rfl) ?_; clear S a; intro a S
  refine st_alloc S M rfl rfl #[.int .i64 0, .int .i64 0] (by kernel_rfl) ?_; clear S M a; intro a w7 bT S M hB
  refine st_store (sz := 2) (us := [_, _]) S M 0 rfl (by kernel_rfl) rfl rfl rfl rfl rfl rfl (by first | decide | (simp; done) | (simp; omega)) ?_; clear M; intro w8 M
  simp only [putL, List.set_cons_zero, List.set_cons_succ, Nat.reduceAdd] at M
  refine st_go [1, 1] S rfl (by kernel_rfl) ?_; clear S a; intro a S
  replace S := S.sub [(0, _), (1, _), (2, _), (3, _), (5, _), (8, _), (9, _), (18, _), (22, _), (10, _), (33, _), (12, _), (11, _)] rfl
  refine nxC ?_
  refine wp_seq ?_
  refine nxD ?_
  refine st_go [1, 1] S rfl (by kernel_rfl) ?_; clear S a; intro a S
  refine nxC ?_
  refine st_if (t := 45) S rfl ?_ ?_
  · clear S; intro h45 S
    refine st_condT S rfl ?_
    refine nxD ?_
    refine st_y S rfl rfl rfl (y_loadAgg (cs := [_, _]) S (by kernel_rfl) rfl rfl (M.cellsAt (k := 2) 3 rfl rfl)) ?_; clear S a; intro a S
    refine st_go [1] S rfl (by kernel_rfl) ?_; clear S a; intro a S
    refine st_store (sz := 2) (us := [_, _]) S M 2 rfl (by kernel_rfl) rfl rfl rfl rfl rfl rfl (by first | decide | (simp; done) | (simp; omega)) ?_; clear M; intro w9 M
    simp only [putL, List.set_cons_zero, List.set_cons_succ, Nat.reduceAdd] at M
    refine st_go [1] S rfl (by kernel_rfl) ?_; clear S a; intro a S
    refine nxC ?_
    refine wp_ret ?_
    refine then_ret ?_
    refine end_two S rfl (res_agg (cs := [_, _]) (by kernel_rfl) rfl rfl (M.cellsAt (k := 2) 2 rfl rfl)) (res_tmp rfl) ?_
    refine ⟨n, _, S0, rfl, .inr ⟨?_, rfl, ?_, rfl⟩, E, hE, (((M.drop 0).drop 0).drop 0).drop 0⟩
    · intro hok
      rcases hT with ⟨rfl, -⟩ | ⟨-, hno⟩
      · omega
      · exact hno ⟨hok.2.2, by omega⟩
    · intro h0; omega
  clear S; intro h45 S
  refine st_condF S rfl ?_
  refine wp_skip ?_
  refine then_normal ?_
  refine wp_seq ?_
  refine wp_seq ?_
  obtain ⟨rfl, hfit, rfl, rfl⟩ : er = 0 ∧ fitsL t n (nOf bs.length : Nat) ∧ t = x ∧ n + (nOf bs.length : Nat) = y := by
    rcases hT with h | ⟨h, -⟩
    · exact h
    · omega
  refine wp_region_lit ?_
  refine st_go [1] S rfl (by kernel_rfl) ?_; clear S a; intro a S
  refine st_y S rfl rfl rfl (y_lenS (E := 191) S rfl (by kernel_rfl)) ?_; clear S a; intro a S
  refine st_go [1] S rfl (by kernel_rfl) ?_; clear S a; intro a S
  refine nxC ?_
  refine wp_block ?_
  refine wp_loop_g (fun m a w' => ∃ (i : Nat) (E1 : List Ent), i ≤ nOf bs.length ∧ m = nOf bs.length - i ∧ DkE b (putF S0 ((cutF bs n inc).take i)) E1 ∧ Sees 63 a [(0, .pointer (some ⟨b, 0, none⟩)), (5, .pointer (some ⟨bL, 0, none⟩)), (8, .pointer (some ⟨bR, 0, none⟩)), (12, .pointer (some ⟨bT, 0, none⟩)), (48, .slice va (nOf bs.length) vcp), (49, .int .i64 (nOf bs.length : Int)), (50, .int .i64 (i : Int))] ∧ Mem wc w' ([.blk bT #[.int .i64 t, .int .i64 (n + (nOf bs.length : Nat))] 51, .own lo hi2 (fun w => FrsC cs lo hi2 w (.slice va (nOf bs.length) vcp) (cutF bs n inc)), .blk bR #[.int .i64 0, .int .i64 0] 51, .blk bL #[.int .i64 t, .int .i64 n] 51] ++ A ++ E1)) (nOf bs.length) ?_ ?_
  · skip
    exact ⟨0, E, Nat.zero_le _, rfl, hE, S.sub _ rfl, M⟩
  clear S M a; intro m a wl
  rintro ⟨i, E1, hi', rfl, hE1, S, M⟩
  replace M := M
  simp only [List.cons_append, List.nil_append] at M
  refine nxD ?_
  refine st_go [1] S rfl (by kernel_rfl) ?_; clear S a; intro a S
  refine nxC ?_
  refine wp_seq ?_
  refine st_fi (t := 51) S rfl ?_ ?_
  · clear S; intro h51 S
    refine st_condF S rfl ?_
    refine wp_exit ?_
    refine then_exit ?_
    refine then_exit ?_
    refine block_hit ?_
    refine nxE ?_
    refine st_y S rfl rfl rfl (y_loadAgg (cs := [_, _]) S (by kernel_rfl) rfl rfl (M.cellsAt (k := 2) 0 rfl rfl)) ?_; clear S a; intro a S
    refine st_store (sz := 2) (us := [_, _]) S M 2 rfl (by kernel_rfl) rfl rfl rfl rfl rfl rfl (by first | decide | (simp; done) | (simp; omega)) ?_; clear M; intro w13 M
    simp only [putL, List.set_cons_zero, List.set_cons_succ, Nat.reduceAdd] at M
    refine st_go [1] S rfl (by kernel_rfl) ?_; clear S a; intro a S
    refine nxC ?_
    refine wp_ret ?_
    refine end_two S rfl (res_agg (cs := [_, _]) (by kernel_rfl) rfl rfl (M.cellsAt (k := 2) 2 rfl rfl)) (res_tmp rfl) ?_
    obtain rfl : i = nOf bs.length := by omega
    rw [List.take_of_length_le (by omega)] at hE1
    exact ⟨_, 0, _, rfl, .inl ⟨⟨hc.1, hc.2.2.2.1, hfit.1⟩, rfl, rfl, rfl⟩, E1, hE1, (((M.drop 0).drop 0).drop 0).drop 0⟩
  clear S; intro h51 S
  refine st_condT S rfl ?_
  refine wp_skip ?_
  refine then_normal ?_
  refine wp_seq ?_
  refine wp_block ?_
  refine wp_seq ?_
  have hlt : i < nOf bs.length := by omega
  have hF1 := M.own 1 rfl
  obtain ⟨f, ld, hfi⟩ : ∃ f ld, (cutF bs n inc)[i]? = some (f, ld) := ⟨_, _, List.getElem?_eq_getElem (by omega)⟩
  obtain ⟨lv, hrow, hlv0⟩ := hF1.2 i f ld hfi
  have hmay : f.may ld.length = true := by
    have e := cutR_get hc hlt
    rw [hcR, hfi] at e
    have := frOf_may hc hlt
    rw [← Option.some.inj e] at this; exact this
  obtain ⟨la, lc, rfl, -, -⟩ := hlv0.form
  refine wp_region_lit ?_
  refine st_y S rfl rfl rfl (y_indexR (e := 191) (sz := 6) S (by kernel_rfl) rfl ((by have h := (M.own 1 rfl).1.wide (Nat.zero_le _) (M.fits _ (List.mem_of_getElem? (show _[1]? = _ from rfl))).2; rw [hcl] at h; exact h)) rfl (by first | omega | (simp; done) | (simp; omega))) ?_; clear S a; intro a S
  try simp only [Int.toNat_natCast, Nat.mul_one, Nat.zero_add] at S
  refine st_y S rfl rfl rfl (y_loadAgg S (by kernel_rfl) rfl rfl (((M.own 1 rfl).row hfi hrow).1)) ?_; clear S a; intro a S
  refine st_alloc S M rfl rfl #[.int .i64 0, .int .i64 0, .int .i64 0, .int .i64 0, .int .u32 0, .slice none 0 0] (by kernel_rfl) ?_; clear S M a; intro a w10 bX S M hB
  refine st_store (sz := 6) (us := [_, _, _, _, _, _]) S M 0 rfl (by kernel_rfl) rfl rfl rfl rfl rfl rfl (by first | decide | (simp; done) | (simp; omega)) ?_; clear M; intro w11 M
  simp only [putL, List.set_cons_zero, List.set_cons_succ, Nat.reduceAdd] at M
  refine nxA ?_
  refine st_go [1] S rfl (by kernel_rfl) ?_; clear S a; intro a S
  refine st_y S rfl rfl rfl (y_loadAgg (cs := [_, _, _, _, _, _]) S (by kernel_rfl) rfl rfl (M.cellsAt (k := 6) 0 rfl rfl)) ?_; clear S a; intro a S
  refine st_call (xs := [(Operand.tmp 54), (Operand.tmp 55)]) S (enters_of Tryz.func104 (by decide) rfl) rfl rfl rfl (write1_any (A := _ :: _ :: _ :: _ :: _ :: A) f la lc ld hE1 M (fun W M => (((M.own 2 rfl).row hfi hrow).2).wide (Nat.zero_le _) (M.fits _ (List.mem_of_getElem? (show _[2]? = _ from rfl))).2) (by rw [putF_down]; exact hup) hmay (fun k => by have := putF_cache_le ((cutF bs n inc).take i) hw k; rw [List.length_take] at this; omega)) ?_
  rintro _ w12 ⟨rfl, E2, hE2, M2⟩; refine ⟨_, rfl, ?_⟩; clear S M a; intro a S; have M := M2; clear M2
  simp only [List.cons_append, List.nil_append] at M
  refine st_go [1] S rfl (by kernel_rfl) ?_; clear S a; intro a S
  refine nxA ?_
  refine st_go [1, 1] S rfl (by kernel_rfl) ?_; clear S a; intro a S
  refine nxC ?_
  refine st_if (t := 58) S rfl ?_ ?_
  · clear S; intro h58 S
    exact absurd rfl h58
  clear S; intro h58 S
  refine st_condF S rfl ?_
  refine wp_skip ?_
  refine block_normal ?_
  refine nxF ?_
  (first | refine st_y S rfl rfl rfl (y_addN S rfl rfl (by omega)) ?_ | refine st_y S rfl rfl rfl (y_int S rfl rfl rfl) ?_); clear S a; intro a S
  refine st_go [1] S rfl (by kernel_rfl) ?_; clear S a; intro a S
  refine nxC ?_
  skip
  replace M := M.drop 0
  simp only [List.eraseIdx_cons_succ, List.eraseIdx_cons_zero] at M
  refine ⟨nOf bs.length - (i + 1), by omega, i + 1, E2, by omega, rfl, ?_, S.sub _ rfl, M⟩
  obtain ⟨hlt2, he⟩ := List.getElem?_eq_some_iff.1 hfi
  rw [List.take_succ_eq_append_getElem hlt2, he, putF_snoc]
  exact hE2
end Go.Proofs.YtndabhdepjnbcaaGreat

namespace Go.Proofs.YtndabhdepjnbcaaGreat
open Go.RowKit Go.Sort
abbrev secB (x : FrB) : List UInt8 := bytesF x.1 x.2
def zero64 : List UInt8 := List.replicate 64 0
theorem frIn_zero : (frIn (zero64.take 60)).may (ldIn (zero64.take 60)).length = false := by kernel_rfl
theorem readF_zero : readF zero64 = none := by
  unfold readF
  rw [if_neg]
  rintro ⟨_, _, _, h, _⟩
  rw [frIn_zero] at h; cases h
def framesL (inc : Int) : Int → List (List UInt8) → List FrB
  | _, [] => []
  | q, r :: rs => cutF r q inc ++ framesL inc (q + (nOf r.length : Nat)) rs
def beginsL : Int → List (List UInt8) → List (Int × List UInt8)
  | _, [] => []
  | q, r :: rs => (q, r) :: beginsL (q + (nOf r.length : Nat)) rs
theorem cutF_length (r : List UInt8) (q inc : Int) : (cutF r q inc).length = nOf r.length := by unfold cutF; simp
theorem goodP_iff {s : Sc} {f : Fr} : goodP s f = true ↔ f.seq = s.seq ∧ s.inc ≤ f.inc ∧ (match s.begun with
    | [] => f.part = 0
    | g :: _ => f.part = (s.begun.length : Int) ∧ f.of = g.1.of ∧ f.mark = g.1.mark ∧ f.inc = g.1.inc) := by
  unfold goodP
  cases s.begun with
  | nil => simp [and_assoc]
  | cons g t => simp [and_assoc]
/-- nothing goes on from here -/
def Ends (q inc : Int) (rest : List (List UInt8)) : Prop := ∀ x t, rest = x :: t → ∀ f ld, readF x = some (f, ld) → f.seq = q → inc ≤ f.inc → f.part = 0 →
  (1 : Int) < f.of ∧ ∀ y t', t = y :: t' → ∀ g le, readF y = some (g, le) → g.seq = q + 1 → g.part = 1 → g.inc = f.inc → False
theorem scan_end {q inc nx : Int} {l : List (Int × List UInt8)} {rest : List (List UInt8)} (h : Ends q inc rest) : (scanP ⟨q, inc, [], l, nx⟩ rest).l = l ∧ (scanP ⟨q, inc, [], l, nx⟩ rest).next = nx := by
  cases rest with
  | nil => exact ⟨rfl, rfl⟩
  | cons x t =>
    by_cases hst : (stepP ⟨q, inc, [], l, nx⟩ x).2 = true
    · rw [scanP_cons, if_pos hst]
      unfold stepP at hst ⊢
      cases hx : readF x with
      | none => rw [hx] at hst; cases hst
      | some p =>
        obtain ⟨f, ld⟩ := p
        rw [hx] at hst
        simp only at hst ⊢
        by_cases hg : goodP ⟨q, inc, [], l, nx⟩ f = true
        · obtain ⟨g1, g2, g3⟩ := goodP_iff.1 hg
          obtain ⟨hof, h2⟩ := h x t rfl f ld hx g1 g2 g3
          have ht : takeP ⟨q, inc, [], l, nx⟩ (f, ld) = (⟨q + 1, f.inc, [(f, ld)], l, nx⟩, true) := by
            unfold takeP
            exact if_pos (by simpa using hof)
          rw [if_pos hg, ht]
          cases t with
          | nil => exact ⟨rfl, rfl⟩
          | cons y t' =>
            have hst2 : stepP ⟨q + 1, f.inc, [(f, ld)], l, nx⟩ y = (⟨q + 1, f.inc, [(f, ld)], l, nx⟩, false) := by
              unfold stepP
              cases hy : readF y with
              | none => rfl
              | some p2 =>
                obtain ⟨g, le⟩ := p2
                refine if_neg fun hg2 => ?_
                obtain ⟨k1, k2, k3⟩ := goodP_iff.1 hg2
                exact h2 y t' rfl g le hy k1 (by simpa using k3.1) k3.2.2.2
            rw [scanP_cons, hst2]
            exact ⟨rfl, rfl⟩
        · rw [if_neg hg] at hst; cases hst
    · rw [scanP_cons, if_neg hst]
      unfold stepP at hst ⊢
      cases hx : readF x with
      | none => exact ⟨rfl, rfl⟩
      | some p =>
        obtain ⟨f, ld⟩ := p
        rw [hx] at hst
        simp only at hst ⊢
        by_cases hg : goodP ⟨q, inc, [], l, nx⟩ f = true
        · obtain ⟨g1, g2, g3⟩ := goodP_iff.1 hg
          obtain ⟨hof, h2⟩ := h x t rfl f ld hx g1 g2 g3
          have ht : takeP ⟨q, inc, [], l, nx⟩ (f, ld) = (⟨q + 1, f.inc, [(f, ld)], l, nx⟩, true) := by
            unfold takeP
            exact if_pos (by simpa using hof)
          rw [if_pos hg, ht] at hst
          exact absurd rfl hst
        · rw [if_neg hg]; exact ⟨rfl, rfl⟩
end Go.Proofs.YtndabhdepjnbcaaGreat

namespace Go.Proofs.YtndabhdepjnbcaaGreat
open Go.RowKit Go.Sort
/-- the bytes that a crash keeps, with their sectors -/
def keptB (c : Int → List (List UInt8)) : List (Int × Int) → List Int → List (Nat × List UInt8)
  | [], _ => []
  | p :: l, told => if (0 ≤ p.1 ∧ p.1 < 34) ∧ p.1 ∉ told then (match if 1 ≤ p.2 then (c p.1)[(p.2 - 1).toNat]? else none with
      | some r => [(p.1.toNat, r)]
      | none => []) ++ keptB c l (p.1 :: told) else keptB c l told
def durK (dur : Nat → List UInt8) (l : List (Nat × List UInt8)) : Nat → List UInt8 := l.foldl (fun d x j => if j = x.1 then x.2 else d j) dur
def DS.crash (S : DS) (plan : List (Int × Int)) : DS := ⟨durK S.dur (keptB S.cache plan []), fun _ => [], true⟩
end Go.Proofs.YtndabhdepjnbcaaGreat

namespace Go.Proofs.YtndabhdepjnbcaaGreat
open Go.RowKit Go.Sort
def durS (S : DS) (t : Int) (j : Nat) : List UInt8 := S.dur (2 + (t + (j : Int)) % 24).toNat
def cacS (S : DS) (t : Int) (j : Nat) : List (List UInt8) := S.cache (2 + (t + (j : Int)) % 24)
/-- a disk of which nothing is cached -/
def DS.still (S : DS) : Prop := ∀ k, S.cache k = []
theorem secsOf_get (S : DS) (t : Int) {j : Nat} (h : j < 24) : (secsOf S t)[j]? = some (secAt S t j) := by unfold secsOf; simp [h]
theorem secAt_new (t : Int) (j : Nat) : secAt DS.new t j = zero64 := by
  unfold secAt DS.get DS.new zero64 durAt
  simp only [List.getLast?_nil]
  rw [List.drop_replicate, List.take_replicate]
  congr 1
  omega
structure JInv (S : DS) (t : Int) (G : List FrB) (c : Nat) : Prop where
  len : G.length ≤ 24
  le : c ≤ G.length
  old : ∀ j x, j < c → G[j]? = some x → durS S t j = secB x ∧ cacS S t j = []
  new : ∀ j, c ≤ j → j < 24 → durS S t j = zero64 ∧ cacS S t j = (match G[j]? with
    | some x => [secB x]
    | none => [])
end Go.Proofs.YtndabhdepjnbcaaGreat

namespace Go.Proofs.YtndabhdepjnbcaaGreat
open Go.RowKit Go.Sort
variable {ds : List Deferred}
variable {P : Program} {ops : Array Oper} {Q : Exit → Act → World → Prop} {rest : List Oper} {n d : Nat} {a : Act} {L : List (Nat × Value)} {w w0 : World} {H : List Ent}
end Go.Proofs.YtndabhdepjnbcaaGreat

namespace Go.Proofs.YtndabhdepjnbcaaGreat
open Go.RowKit Go.Sort
/-- the slice v reads as these rows of bytes -/
def BRows (W : World) (v : Value) (bss : List (List UInt8)) : Prop := ∃ vs, Rd 0 W.heap.size W 1 v bss.length vs ∧ ∀ (i : Nat) x bs, vs[i]? = some x → bss[i]? = some bs → Bs 0 W.heap.size W x bs
end Go.Proofs.YtndabhdepjnbcaaGreat

namespace Go.Proofs.YtndabhdepjnbcaaGreat
open Go.RowKit Go.Sort
def wantsP (n : Int) : Int := if n < 1 ∨ 90 < n then 0 else (n + 44) / 45
theorem jflush_any {wc w : World} {A E : List Ent} {b : Nat} {S0 : DS} (hE : DkE b S0 E) (M : Mem wc w (A ++ E)) (hup : S0.down = false) (hw : ∀ k, (S0.cache k).length ≤ 1000000) :
    Calls Tryz.prog 56 #[.pointer (some ⟨b, 0, none⟩)] w fun e w' => e = .returned (.int .i64 0) ∧ ∃ E', DkE b S0.flush E' ∧ Mem wc w' (A ++ E') := by
  refine calls_enter Tryz.func56 rfl 5 rfl rfl ?_; intro a S
  refine nxD ?_
  refine st_go [1] S rfl (by kernel_rfl) ?_; clear S a; intro a S
  refine nxA ?_
  refine st_go [1] S rfl (by kernel_rfl) ?_; clear S a; intro a S
  refine st_call (xs := [(Operand.tmp 3)]) S (enters_of Tryz.func48 (by decide) rfl) rfl rfl rfl (flush_any hE M hup hw) ?_
  rintro _ w1 ⟨rfl, E', hE', M2⟩; refine ⟨_, rfl, ?_⟩; clear S M a; intro a S; have M := M2; clear M2
  refine st_go [1] S rfl (by kernel_rfl) ?_; clear S a; intro a S
  refine nxC ?_
  refine wp_ret ?_
  refine end_one S rfl (res_tmp rfl) ?_
  exact ⟨rfl, E', hE', M⟩
end Go.Proofs.YtndabhdepjnbcaaGreat

namespace Go.Proofs.YtndabhdepjnbcaaGreat
open Go.RowKit Go.Sort
def encQ (q : Pr × List Wr) : List UInt8 := (prRc q.1).enc q.2
def mayQ (q : Pr × List Wr) : Prop := (prRc q.1).may q.2 = true
def secQ (q : Pr × List Wr) : Nat := nOf (encQ q).length
def wtP (ps : Pl) : Nat := (ps.map secQ).sum
theorem secQ_le {q : Pr × List Wr} (h : mayQ q) : 1 ≤ secQ q ∧ secQ q ≤ 2 := by
  have := enc_len h
  unfold secQ nOf encQ; omega
theorem secsN_nOf {r : Rc} {x : List Wr} (h : r.may x = true) : secsN r x = ((nOf (r.enc x).length : Nat) : Int) := by
  unfold secsN nOf; rw [if_pos h]; omega
theorem wtP_append (a b : Pl) : wtP (a ++ b) = wtP a + wtP b := by unfold wtP; simp
theorem wtP_snoc (a : Pl) (q : Pr × List Wr) : wtP (a ++ [q]) = wtP a + secQ q := by rw [wtP_append]; simp [wtP]
theorem wtP_take {ps : Pl} {k : Nat} {q : Pr × List Wr} (h : ps[k]? = some q) : wtP (ps.take (k + 1)) = wtP (ps.take k) + secQ q := by
  rw [take_snocP h, wtP_snoc]
theorem wtP_le (ps : Pl) (h : ∀ q ∈ ps, mayQ q) : wtP ps ≤ ps.length * 2 := by
  induction ps with
  | nil => simp [wtP]
  | cons q ps ih =>
    have h1 := ih fun p hp => h p (List.mem_cons_of_mem _ hp)
    have h2 := (secQ_le (h q (List.mem_cons_self ..))).2
    have e : wtP (q :: ps) = secQ q + wtP ps := by simp [wtP]
    rw [e, List.length_cons]; omega
theorem wants9_any (s : St) (hs : s.ok) (dv : Value) (cs : List Value) (ps : Pl) (w : World) (hd : PrsC cs 0 w.heap.size w dv ps) (hps : ps.length ≤ 10000) (hm : ∀ q ∈ ps, mayQ q) : Calls Tryz.prog 105 #[.agg (s.cellsL dv).toArray] w fun e w' => e = .returned (.int .i64 (wtP ps : Nat)) ∧ Below w.heap.size w w' := by
  have M := Mem.start w
  refine calls_enter Tryz.func105 rfl 26 rfl rfl ?_; intro a S
  refine nxD ?_
  refine st_box S M rfl rfl rfl _ rfl ?_; clear S M a; intro a w1 bF S M hB
  refine st_go [1] S rfl (by kernel_rfl) ?_; clear S a; intro a S
  refine nxA ?_
  refine st_go [1] S rfl (by kernel_rfl) ?_; clear S a; intro a S
  refine nxC ?_
  refine wp_seq ?_
  refine nxD ?_
  refine st_go [272] S rfl (by kernel_rfl) ?_; clear S a; intro a S
  refine st_y S rfl rfl rfl (y_load S (by kernel_rfl) rfl (M.cell 0 rfl (St.doubt hs dv))) ?_; clear S a; intro a S
  refine st_y S rfl rfl rfl (y_lenR (E := 75) S rfl ((M.prs hd).1) (by kernel_rfl)) ?_; clear S a; intro a S
  refine st_go [1] S rfl (by kernel_rfl) ?_; clear S a; intro a S
  refine nxC ?_
  refine wp_block ?_
  refine wp_loop_g (fun m a w' => ∃ (k : Nat), k ≤ ps.length ∧ m = ps.length - k ∧ Sees 26 a [(3, .int .i64 ((wtP (ps.take k) : Nat) : Int)), (9, dv), (10, .int .i64 (ps.length : Int)), (11, .int .i64 (k : Int))] ∧ Mem w w' []) (ps.length) ?_ ?_
  · skip
    replace M := M.drop 0
    simp only [List.eraseIdx_cons_succ, List.eraseIdx_cons_zero] at M
    exact ⟨0, Nat.zero_le _, rfl, S.sub _ rfl, M⟩
  clear S M a; intro m a wl
  rintro ⟨k, hk, rfl, S, M⟩
  refine nxD ?_
  refine st_go [1] S rfl (by kernel_rfl) ?_; clear S a; intro a S
  refine nxC ?_
  refine wp_seq ?_
  refine st_fi (t := 12) S rfl ?_ ?_
  · clear S; intro h12 S
    refine st_condF S rfl ?_
    refine wp_exit ?_
    refine then_exit ?_
    refine then_exit ?_
    refine block_hit ?_
    refine nxE ?_
    refine st_go [1, 1] S rfl (by kernel_rfl) ?_; clear S a; intro a S
    refine nxC ?_
    refine wp_ret ?_
    refine end_one S rfl (res_tmp rfl) ?_
    obtain rfl : k = ps.length := by omega
    exact ⟨by rw [List.take_length], M.below⟩
  clear S; intro h12 S
  refine st_condT S rfl ?_
  refine wp_skip ?_
  refine then_normal ?_
  refine wp_seq ?_
  refine wp_block ?_
  refine nxD ?_
  have hk' : k < ps.length := by omega
  obtain ⟨q, hq⟩ : ∃ q, ps[k]? = some q := ⟨_, List.getElem?_eq_getElem hk'⟩
  obtain ⟨ad, cp, hrow, hws⟩ := hd.sl hq
  have hmq := hm q (List.mem_of_getElem? hq)
  have hwl := wtP_le (ps.take k) fun p hp => hm p (List.mem_of_mem_take hp)
  rw [List.length_take] at hwl
  have hsq := secQ_le hmq
  refine st_y S rfl rfl rfl (y_indexR (e := 75) (sz := 6) S (by kernel_rfl) rfl ((M.prs hd).1) rfl (by first | omega | (simp; done) | (simp; omega))) ?_; clear S a; intro a S
  try simp only [Int.toNat_natCast, Nat.mul_one, Nat.zero_add] at S
  refine st_y S rfl rfl rfl (y_loadAgg S (by kernel_rfl) rfl rfl ((M.prs hd).1.at_.row (i := k) hrow rfl)) ?_; clear S a; intro a S
  refine st_alloc S M rfl rfl #[.int .i64 0, .int .i64 0, .int .i64 0, .slice none 0 0, .int .i64 0, .int .i64 0] (by kernel_rfl) ?_; clear S M a; intro a w2 bP S M hB
  refine st_store (sz := 6) (us := [_, _, _, _, _, _]) S M 0 rfl (by kernel_rfl) rfl rfl rfl rfl rfl rfl (by first | decide | (simp; done) | (simp; omega)) ?_; clear M; intro w3 M
  simp only [putL, List.set_cons_zero, List.set_cons_succ, Nat.reduceAdd] at M
  refine nxA ?_
  refine st_y S rfl rfl rfl (y_loadAgg (cs := [_, _, _, _, _, _]) S (by kernel_rfl) rfl rfl (M.cellsAt (k := 6) 0 rfl rfl)) ?_; clear S a; intro a S
  refine st_call (xs := [(Operand.tmp 16)]) S (enters_of Tryz.func145 (by decide) rfl) rfl rfl rfl (prepare_any q.1 ad q.2.length cp _) ?_
  rintro _ w4 ⟨rfl, hK⟩; refine ⟨_, rfl, ?_⟩; clear S a; intro a S; replace M := M.grow hK
  refine st_call (xs := [(Operand.tmp 17)]) S (enters_of Tryz.func52 (by decide) rfl) rfl rfl rfl (sectorsR_any (prRc q.1) ad q.2.length cp q.2 _ (by show (0 : Int) ≤ _; omega) (M.argW hws)) ?_
  rintro _ w5 ⟨rfl, hK⟩; refine ⟨_, rfl, ?_⟩; clear S a; intro a S; replace M := M.grow hK
  rw [secsN_nOf hmq, if_pos (show (prRc q.1).may q.2 = true from hmq), show nOf ((prRc q.1).enc q.2).length = secQ q from rfl] at S
  refine st_go [1, 1, 1, 1, 1] S rfl (by kernel_rfl) ?_; clear S a; intro a S
  refine nxB ?_
  refine st_go [1, 1] S rfl (by kernel_rfl) ?_; clear S a; intro a S
  (first | refine st_y S rfl rfl rfl (y_addN S rfl rfl (by omega)) ?_ | refine st_y S rfl rfl rfl (y_int S rfl rfl rfl) ?_); clear S a; intro a S
  refine st_go [1] S rfl (by kernel_rfl) ?_; clear S a; intro a S
  refine wpList_nil ?_
  refine block_normal ?_
  refine nxF ?_
  (first | refine st_y S rfl rfl rfl (y_addN S rfl rfl (by omega)) ?_ | refine st_y S rfl rfl rfl (y_int S rfl rfl rfl) ?_); clear S a; intro a S
  refine st_go [1] S rfl (by kernel_rfl) ?_; clear S a; intro a S
  replace S := S.sub [(9, _), (10, _), (12, _), (5, _), (6, _), (3, _), (11, _)] rfl
  refine nxC ?_
  skip
  replace M := M.drop 0
  simp only [List.eraseIdx_cons_succ, List.eraseIdx_cons_zero] at M
  refine ⟨ps.length - (k + 1), by omega, k + 1, by omega, rfl, ?_, M⟩
  rw [wtP_take hq, Int.natCast_add]; exact S.sub _ rfl
/-! ### the steps, plainly -/
def sv1 (h : List V8) (ps : Pl) (x : Su) (j : Nat) (p : DS × Int) : DS × Int :=
  if j < 8 then (p.1.write (26 + (j : Int)) (pad64 (homeB ((h.drop (j * 4)).take 4))), p.2)
  else if j = 8 then (p.1.flush, p.2)
  else match ps[j - 9]? with
    | some q => (putF p.1 (cutF (encQ q) p.2 x.inc), p.2 + (secQ q : Nat))
    | none => if j = 10 + ps.length then (p.1.write (x.gen % 2) (supS x), p.2) else (p.1.flush, p.2)
def sv (h : List V8) (ps : Pl) (x : Su) : Nat → DS × Int → DS × Int
  | 0, p => p
  | j + 1, p => sv1 h ps x j (sv h ps x j p)
theorem sv1_put {h : List V8} {ps : Pl} {x : Su} {j : Nat} {p : DS × Int} (hj : j < 8) : sv1 h ps x j p = (p.1.write (26 + (j : Int)) (pad64 (homeB ((h.drop (j * 4)).take 4))), p.2) := by unfold sv1; rw [if_pos hj]
theorem sv1_fl {h : List V8} {ps : Pl} {x : Su} {j : Nat} {p : DS × Int} (hj : j = 8 ∨ j = 9 + ps.length ∨ 10 + ps.length < j) : sv1 h ps x j p = (p.1.flush, p.2) := by
  unfold sv1
  rcases hj with hj | hj
  · rw [if_neg (by omega), if_pos hj]
  · rw [if_neg (by omega), if_neg (by omega), List.getElem?_eq_none (by omega)]
    simp only
    rw [if_neg (by omega)]
theorem sv1_app {h : List V8} {ps : Pl} {x : Su} {i : Nat} {q : Pr × List Wr} {p : DS × Int} (hq : ps[i]? = some q) : sv1 h ps x (9 + i) p = (putF p.1 (cutF (encQ q) p.2 x.inc), p.2 + (secQ q : Nat)) := by
  unfold sv1; rw [if_neg (by omega), if_neg (by omega), show 9 + i - 9 = i by omega, hq]
theorem sv1_sup {h : List V8} {ps : Pl} {x : Su} {p : DS × Int} : sv1 h ps x (10 + ps.length) p = (p.1.write (x.gen % 2) (supS x), p.2) := by
  unfold sv1; rw [if_neg (by omega), if_neg (by omega), List.getElem?_eq_none (by omega)]
  simp only
  rw [if_pos trivial]
theorem sv1_down (h : List V8) (ps : Pl) (x : Su) (j : Nat) (p : DS × Int) : (sv1 h ps x j p).1.down = p.1.down := by
  unfold sv1; split
  · rfl
  · split
    · rfl
    · split
      · exact putF_down _ _
      · split <;> rfl
theorem sv_down (h : List V8) (ps : Pl) (x : Su) (p : DS × Int) : ∀ j, (sv h ps x j p).1.down = p.1.down
  | 0 => rfl
  | j + 1 => by rw [sv, sv1_down, sv_down h ps x p j]
theorem sv1_cache (h : List V8) {ps : Pl} (x : Su) (j : Nat) (p : DS × Int) (hm : ∀ q ∈ ps, mayQ q) {c : Nat} (hc : ∀ k, (p.1.cache k).length ≤ c) : ∀ k, ((sv1 h ps x j p).1.cache k).length ≤ c + 2 := by
  intro k
  unfold sv1; split
  · have := write_cache_le (k := 26 + (j : Int)) (bs := pad64 (homeB ((h.drop (j * 4)).take 4))) hc k; simp only; omega
  · split
    · exact Nat.zero_le _
    · split
      · rename_i q hq
        have h1 := putF_cache_le (cutF (encQ q) p.2 x.inc) hc k
        rw [cutF_length] at h1
        have := (secQ_le (hm q (List.mem_of_getElem? hq))).2
        unfold secQ at this
        simp only; omega
      · split
        · have := write_cache_le (k := x.gen % 2) (bs := supS x) hc k; simp only; omega
        · exact Nat.zero_le _
theorem sv_cache (h : List V8) {ps : Pl} (x : Su) (p : DS × Int) (hm : ∀ q ∈ ps, mayQ q) {c : Nat} (hc : ∀ k, (p.1.cache k).length ≤ c) : ∀ j k, ((sv h ps x j p).1.cache k).length ≤ c + 2 * j
  | 0, k => hc k
  | j + 1, k => by
    have := sv1_cache h x j (sv h ps x j p) hm (sv_cache h x p hm hc j) k
    rw [sv]; omega
theorem sv_n (h : List V8) (ps : Pl) (x : Su) (p : DS × Int) : ∀ j, (sv h ps x j p).2 = p.2 + (wtP (ps.take (j - 9)) : Nat)
  | 0 => by simp [sv, wtP]
  | j + 1 => by
    have ih := sv_n h ps x p j
    rw [sv]
    rcases Nat.lt_or_ge j 9 with h9 | h9
    · have e : (sv1 h ps x j (sv h ps x j p)).2 = (sv h ps x j p).2 := by
        unfold sv1; split
        · rfl
        · rw [if_pos (by omega)]
      rw [e, ih, show j - 9 = 0 by omega, show j + 1 - 9 = 0 by omega]
    · obtain ⟨i, rfl⟩ : ∃ i, j = 9 + i := ⟨j - 9, by omega⟩
      rw [show 9 + i - 9 = i by omega] at ih
      rw [show 9 + i + 1 - 9 = i + 1 by omega]
      cases hq : ps[i]? with
      | some q => rw [sv1_app hq, ih, wtP_take hq]; simp only; omega
      | none =>
        have hl := List.getElem?_eq_none_iff.1 hq
        have e : (sv1 h ps x (9 + i) (sv h ps x (9 + i) p)).2 = (sv h ps x (9 + i) p).2 := by
          unfold sv1
          rw [if_neg (by omega), if_neg (by omega), show 9 + i - 9 = i by omega, hq]
          simp only
          split <;> rfl
        rw [e, ih, List.take_of_length_le hl, List.take_of_length_le (by omega)]
/-! ### a store's cells -/
/-- a store: its superblock (what is owned with it), its journal, its blocks, how many records -/
def stX (x : Su) (a b : Int) (h : List V8) (n : Int) : St := stG x x.owned a b h n
theorem stX_ok (x : Su) (a b : Int) {h : List V8} (n : Int) (hh : h.length = 32) : (stX x a b h n).ok := stG_ok x x.owned a b n hh
abbrev stB (b : Nat) (x : Su) (a n : Int) (h : List V8) (k : Int) (dv : Value) : Ent := .blk b ((stX x a n h k).cellsL dv).toArray 57
theorem stX_log (x : Su) (a b : Int) (h : List V8) (n : Int) (dv : Value) : cutL ((stX x a b h n).cellsL dv).toArray.toList 13 2 = some [.int .i64 a, .int .i64 b] :=
  cutL_mid [.int .i64 x.gen, .int .i64 x.tail, .int .i64 x.owned, .int .i64 x.inc, .int .i64 x.bound, .int .i64 x.m0, .int .i64 x.m1, .int .i64 x.m2, .int .i64 x.m3, .int .i64 x.m4, .int .i64 x.m5, .int .i64 x.m6, .int .i64 x.m7] [.int .i64 a, .int .i64 b] (hcells h ++ [dv, .int .i64 n])
theorem stX_inc (x : Su) (a b : Int) (h : List V8) (n : Int) (dv : Value) : ((stX x a b h n).cellsL dv).toArray[3]? = some (.int .i64 x.inc) := rfl
theorem stX_nxt (x : Su) (a b : Int) (h : List V8) (n : Int) (dv : Value) : ((stX x a b h n).cellsL dv).toArray[14]? = some (.int .i64 b) := rfl
theorem stX_tl (x : Su) (a b : Int) (h : List V8) (n : Int) (dv : Value) : ((stX x a b h n).cellsL dv).toArray[1]? = some (.int .i64 x.tail) := rfl
theorem stX_gen (x : Su) (a b : Int) (h : List V8) (n : Int) (dv : Value) : ((stX x a b h n).cellsL dv).toArray[0]? = some (.int .i64 x.gen) := rfl
theorem stX_sup (x : Su) (a b : Int) (h : List V8) (n : Int) (dv : Value) : cutL ((stX x a b h n).cellsL dv).toArray.toList 0 13 = some x.cellsL := cutL_mid [] x.cellsL ([.int .i64 a, .int .i64 b] ++ (hcells h ++ [dv, .int .i64 n]))
theorem stX_setlog (x : Su) (a b a' b' : Int) (h : List V8) (n : Int) (dv : Value) : (((stX x a b h n).cellsL dv).set 13 (.int .i64 a')).set 14 (.int .i64 b') = (stX x a' b' h n).cellsL dv := rfl
set_option maxHeartbeats 1000000 in
theorem stepF_any {wc w : World} {A E : List Ent} {b bd : Nat} {S0 : DS} (hE : DkE bd S0 E) (M : Mem wc w (.blk b #[.pointer (some ⟨bd, 0, none⟩)] 38 :: (A ++ E))) (hup : S0.down = false) (hw : ∀ k, (S0.cache k).length ≤ 1000000) :
    Calls Tryz.prog 146 #[.pointer (some ⟨b, 0, none⟩)] w fun e w' => e = .returned (.int .i64 0) ∧ ∃ E', DkE bd S0.flush E' ∧ Mem wc w' (.blk b #[.pointer (some ⟨bd, 0, none⟩)] 38 :: (A ++ E')) := by
  refine calls_enter Tryz.func146 rfl 4 rfl rfl ?_; intro a S
  refine wp_seq ?_
  skip
  refine wp_region_lit ?_
  refine st_go [1] S rfl (by kernel_rfl) ?_; clear S a; intro a S
  refine nxA ?_
  refine st_run [1] S M rfl (by kernel_rfl) ?_; clear S a; intro a S
  refine st_call (xs := [(Operand.tmp 2)]) S (enters_of Tryz.func56 (by decide) rfl) rfl rfl rfl (jflush_any (A := _ :: A) hE M hup hw) ?_
  rintro _ w1 ⟨rfl, E2, hE2, M1⟩; refine ⟨_, rfl, ?_⟩; clear S M a; intro a S; have M := M1; clear M1
  refine st_go [1] S rfl (by kernel_rfl) ?_; clear S a; intro a S
  refine nxC ?_
  refine wp_ret ?_
  refine end_one S rfl (res_tmp rfl) ?_
  exact ⟨rfl, E2, hE2, M⟩
end Go.Proofs.YtndabhdepjnbcaaGreat

namespace Go.Proofs.YtndabhdepjnbcaaGreat
open Go.RowKit Go.Sort
theorem hcells_app (a b : List V8) : hcells (a ++ b) = hcells a ++ hcells b := by simp [hcells]
theorem hcells4 {h : List V8} (hl : h.length = 32) {j : Nat} (hj : j < 8) : ∃ x0 x1 x2 x3, (h.drop (j * 4)).take 4 = [x0, x1, x2, x3] := by
  have e : ((h.drop (j * 4)).take 4).length = 4 := by rw [List.length_take, List.length_drop]; omega
  match (h.drop (j * 4)).take 4, e with
  | [x0, x1, x2, x3], _ => exact ⟨x0, x1, x2, x3, rfl⟩
theorem stX_home (x : Su) (a b : Int) {h : List V8} (n : Int) (dv : Value) {j : Nat} (hl : h.length = 32) (hj : j < 8) : cutL ((stX x a b h n).cellsL dv).toArray.toList (15 + j * 32) 32 = some (hcells ((h.drop (j * 4)).take 4)) := by
  have e : (stX x a b h n).cellsL dv = ((stX x a b h n).pre ++ hcells (h.take (j * 4))) ++ (hcells ((h.drop (j * 4)).take 4) ++ (hcells ((h.drop (j * 4)).drop 4) ++ [dv, .int .i64 n])) := by
    have e2 : hcells h = hcells (h.take (j * 4)) ++ (hcells ((h.drop (j * 4)).take 4) ++ hcells ((h.drop (j * 4)).drop 4)) := by
      rw [← hcells_app, ← hcells_app, List.take_append_drop, List.take_append_drop]
    show (stX x a b h n).pre ++ (hcells h ++ [dv, .int .i64 n]) = _
    rw [e2]; simp only [List.append_assoc]
  have l0 : ((stX x a b h n).pre ++ hcells (h.take (j * 4))).length = 15 + j * 32 := by
    rw [List.length_append, hcells_length, List.length_take, St.pre_len (stX_ok x a b n hl)]; omega
  have l2 : (hcells ((h.drop (j * 4)).take 4)).length = 32 := by rw [hcells_length, List.length_take, List.length_drop]; omega
  have := cutL_mid ((stX x a b h n).pre ++ hcells (h.take (j * 4))) (hcells ((h.drop (j * 4)).take 4)) (hcells ((h.drop (j * 4)).drop 4) ++ [dv, .int .i64 n])
  rw [l0, l2, ← e] at this
  exact this
set_option maxHeartbeats 1000000 in
theorem stepP_any {wc w : World} {A E : List Ent} {bj b2 b3 bS bd : Nat} {S0 : DS} (j : Nat) (x : Su) (a9 n : Int) (h : List V8) (k : Int) (dv : Value) (hE : DkE bd S0 E)
    (M : Mem wc w (.blk bj #[.int .i64 (j : Int)] 3 :: .blk b2 #[.pointer (some ⟨bd, 0, none⟩)] 38 :: .blk b3 #[.pointer (some ⟨bS, 0, none⟩)] 196 :: stB bS x a9 n h k dv :: (A ++ E))) (hup : S0.down = false) (hw : ∀ k, (S0.cache k).length ≤ 1000000) (hj : j < 8) (hl : h.length = 32) :
    Calls Tryz.prog 147 #[.pointer (some ⟨bj, 0, none⟩), .pointer (some ⟨b2, 0, none⟩), .pointer (some ⟨b3, 0, none⟩)] w fun e w' => e = .returned (.int .i64 0) ∧ ∃ E', DkE bd (S0.write (26 + (j : Int)) (pad64 (homeB ((h.drop (j * 4)).take 4)))) E' ∧ Mem wc w' (.blk bj #[.int .i64 (j : Int)] 3 :: .blk b2 #[.pointer (some ⟨bd, 0, none⟩)] 38 :: .blk b3 #[.pointer (some ⟨bS, 0, none⟩)] 196 :: stB bS x a9 n h k dv :: (A ++ E')) := by
  obtain ⟨x0, x1, x2, x3, h4⟩ := hcells4 hl hj
  have hcell := stX_home x a9 n k dv hl hj
  rw [h4] at hcell ⊢
  refine calls_enter Tryz.func147 rfl 20 rfl rfl ?_; intro a S
  refine wp_seq ?_
  skip
  refine wp_region_lit ?_
  refine st_go [1] S rfl (by kernel_rfl) ?_; clear S a; intro a S
  refine nxC ?_
  refine wp_seq ?_
  refine wp_quiet M (by kernel_rfl) (by kernel_rfl) ?_
  refine qt_y S rfl rfl rfl (fun w M => y_load S (by kernel_rfl) rfl (M.cell 0 rfl rfl)) ?_; clear S a; intro a S
  (first | refine qt_y S rfl rfl rfl (fun w M => y_mulN S rfl rfl (by omega)) ?_ | refine qt_y S rfl rfl rfl (fun w M => y_int S rfl rfl rfl) ?_); clear S a; intro a S
  refine qt_y S rfl rfl rfl (fun w M => y_load S (by kernel_rfl) rfl (M.cell 0 rfl rfl)) ?_; clear S a; intro a S
  (first | refine qt_y S rfl rfl rfl (fun w M => y_addN S rfl rfl (by omega)) ?_ | refine qt_y S rfl rfl rfl (fun w M => y_int S rfl rfl rfl) ?_); clear S a; intro a S
  (first | refine qt_y S rfl rfl rfl (fun w M => y_mulN S rfl rfl (by omega)) ?_ | refine qt_y S rfl rfl rfl (fun w M => y_int S rfl rfl rfl) ?_); clear S a; intro a S
  refine qt_y S rfl rfl rfl (fun w M => y_assign S rfl) ?_; clear S a; intro a S
  refine qt_y S rfl rfl rfl (fun w M => y_assign S rfl) ?_; clear S a; intro a S
  refine wpQuiet_nil ?_; clear M; intro w1 M
  refine then_normal ?_
  refine wp_seq ?_
  refine wp_regionK [8] #[false, false, false, false, false, false, false, false, false, false] rfl M (by kernel_rfl) ?_; clear M; intro w2 M
  refine k_read 0 S rfl (fun w hW => have M := M.grow hW; y_load S (by kernel_rfl) rfl (M.cell 1 rfl rfl)) ?_; clear S a; intro a S
  refine k_read 1 S rfl (fun w hW => have M := M.grow hW; y_load S (by kernel_rfl) rfl (M.cell 0 rfl rfl)) ?_; clear S a; intro a S
  refine k_read 2 S rfl (fun w hW => have M := M.grow hW; y_load S (by kernel_rfl) rfl (M.cell 2 rfl rfl)) ?_; clear S a; intro a S
  refine k_pure 3 S rfl (fun w => y_nilCheck S rfl) ?_; clear S a; intro a S
  refine k_pure 4 S rfl (fun w => y_fieldAddr (k := 15) S (by kernel_rfl) rfl) ?_; clear S a; intro a S
  refine k_pure 5 S rfl (fun w => y_move S rfl) ?_; clear S a; intro a S
  refine k_pure 6 S rfl (fun w => y_move S rfl) ?_; clear S a; intro a S
  refine k_pure 7 S rfl (fun w => y_sliceA2 (m := 32) (sz := 8) S (by kernel_rfl) rfl rfl rfl (by first | omega | (simp; done) | (simp; omega))) ?_; clear S a; intro a S
  refine k_one 8 rfl (by kernel_rfl) ?_
  rw [show 0 + 15 + ((j : Int) * 4).toNat * 8 = 15 + j * 32 by omega, show (((j : Int) + 1) * 4).toNat - ((j : Int) * 4).toNat = 4 by omega] at S
  refine st_call (xs := [(Operand.tmp 11), (Operand.tmp 12), (Operand.tmp 18)]) S (enters_of Tryz.func148 (by decide) rfl) rfl rfl rfl (put9_any (A := [_, _, _] ++ (_ :: A)) (bS := bS) (o := 15 + j * 32) j x0 x1 x2 x3 hE M hup hj hw (fun W M9 => M9.cellsAt (k := 32) 3 rfl hcell)) ?_
  rintro _ w3 ⟨rfl, E2, hE2, M1⟩; refine ⟨_, rfl, ?_⟩; clear S M a; intro a S; have M := M1; clear M1
  simp only [List.cons_append, List.nil_append] at M
  refine wpList_nil ?_; refine then_normal ?_; refine ⟨fun h => absurd h (by decide), ?_⟩
  refine k_pure 9 S rfl (fun w => y_assign S rfl) ?_; clear S a; intro a S
  refine k_end (by kernel_rfl) ?_
  replace S := S.sub [(0, _), (1, _), (2, _), (4, _), (5, _), (3, _)] rfl
  refine then_normal ?_
  refine wp_ret ?_
  refine end_one S rfl (res_tmp rfl) ?_
  exact ⟨rfl, E2, hE2, M⟩
set_option maxHeartbeats 1000000 in
theorem stepA_any {wc w : World} {A E : List Ent} {bj b2 b3 bS bd : Nat} {S0 : DS} (q : Pr × List Wr) (ad : Option Addr) (cp : Nat) (x : Su) (a9 n : Int) (h : List V8) (k : Int) (dv : Value) (hE : DkE bd S0 E)
    (M : Mem wc w (.blk bj (q.1.cellsL (.slice ad q.2.length cp)).toArray 75 :: .blk b2 #[.pointer (some ⟨bd, 0, none⟩)] 38 :: .blk b3 #[.pointer (some ⟨bS, 0, none⟩)] 196 :: stB bS x a9 n h k dv :: (A ++ E))) (hup : S0.down = false) (hw : ∀ k, (S0.cache k).length ≤ 100000) (hl : h.length = 32)
    (hm : mayQ q) (hW : ∀ W H, Mem wc W (H ++ (A ++ E)) → Ws 0 W.heap.size W (.slice ad q.2.length cp) q.2) (hlg : mayL a9 n) (hn : n ≤ 2147483648) (hi : 0 ≤ x.inc ∧ x.inc ≤ 1048576) (hroom : n + (secQ q : Nat) ≤ a9 + 24) :
    Calls Tryz.prog 149 #[.pointer (some ⟨bj, 0, none⟩), .pointer (some ⟨b2, 0, none⟩), .pointer (some ⟨b3, 0, none⟩)] w fun e w' => e = .returned (.int .i64 0) ∧ ∃ E', DkE bd (putF S0 (cutF (encQ q) n x.inc)) E' ∧ Mem wc w' (.blk bj (q.1.cellsL (.slice ad q.2.length cp)).toArray 75 :: .blk b2 #[.pointer (some ⟨bd, 0, none⟩)] 38 :: .blk b3 #[.pointer (some ⟨bS, 0, none⟩)] 196 :: stB bS x a9 (n + (secQ q : Nat)) h k dv :: (A ++ E')) := by
  have hok := stX_ok x a9 n k hl
  have hel : 1 ≤ (encQ q).length ∧ (encQ q).length ≤ 90 := enc_len hm
  refine calls_enter Tryz.func149 rfl 34 rfl rfl ?_; intro a S
  refine wp_seq ?_
  skip
  refine wp_region_lit ?_
  refine st_go [1] S rfl (by kernel_rfl) ?_; clear S a; intro a S
  refine nxA ?_
  refine st_y S rfl rfl rfl (y_loadAgg (cs := [_, _, _, _, _, _]) S (by kernel_rfl) rfl rfl (M.cellsAt (k := 6) 0 rfl rfl)) ?_; clear S a; intro a S
  refine st_call (xs := [(Operand.tmp 7)]) S (enters_of Tryz.func145 (by decide) rfl) rfl rfl rfl (prepare_any q.1 ad q.2.length cp _) ?_
  rintro _ w1 ⟨rfl, hK⟩; refine ⟨_, rfl, ?_⟩; clear S a; intro a S; replace M := M.grow hK
  refine st_call (xs := [(Operand.tmp 8)]) S (enters_of Tryz.func54 (by decide) rfl) rfl rfl rfl (bytesR_any (prRc q.1) ad q.2.length cp q.2 _ (by show (0 : Int) ≤ _; omega) (hW _ [_, _, _, _] M)) ?_
  rintro _ w2 ⟨v1, rfl, hK, hF, -⟩; refine ⟨_, rfl, ?_⟩; clear S a; intro a S
  have hF := hF hm
  rw [if_pos (show (prRc q.1).may q.2 = true from hm)] at S
  obtain ⟨lo3, hi3, -, M1⟩ := M.pushFresh hF; clear M; have M := M1; clear M1
  refine st_go [1, 1, 1, 1, 1] S rfl (by kernel_rfl) ?_; clear S a; intro a S
  refine nxC ?_
  refine wp_seq ?_
  refine nxD ?_
  refine st_go [1, 1] S rfl (by kernel_rfl) ?_; clear S a; intro a S
  refine nxC ?_
  refine st_if (t := 13) S rfl ?_ ?_
  · clear S; intro h13 S
    exact absurd rfl h13
  clear S; intro h13 S
  refine st_condF S rfl ?_
  refine wp_skip ?_
  refine then_normal ?_
  refine wp_seq ?_
  refine wp_regionKC (C := fun W => Blk W b3 #[.pointer (some ⟨bS, 0, none⟩)] 196) [12, 18] #[false, false, false, false, false, false, false, false, false, false, false, false, false, false, false, false, false, false, false, false] rfl M (by kernel_rfl) ?_; clear M; intro w3 M; have hC := M.blk 3 rfl
  refine kc_readC 0 S rfl hC (fun w hC => y_load S (by kernel_rfl) rfl (hC.cells 0)) ?_; clear S a; intro a S
  refine kc_read 1 S rfl hC (fun w hW => have M := M.grow hW; y_load S (by kernel_rfl) rfl (M.cell 2 rfl rfl)) ?_; clear S a; intro a S
  refine kc_read 2 S rfl hC (fun w hW => have M := M.grow hW; y_load S (by kernel_rfl) rfl (M.cell 3 rfl rfl)) ?_; clear S a; intro a S
  refine kc_readC 3 S rfl hC (fun w _ => y_nilCheck S rfl) ?_; clear S a; intro a S
  refine kc_readC 4 S rfl hC (fun w _ => y_fieldAddr (k := 13) S (by kernel_rfl) rfl) ?_; clear S a; intro a S
  refine kc_read 5 S rfl hC (fun w hW => have M := M.grow hW; y_loadAgg S (by kernel_rfl) rfl rfl (show CellsAt _ _ _ [.int .i64 a9, .int .i64 n] from M.cellsAt (k := 2) 4 rfl (stX_log _ _ _ _ _ _))) ?_; clear S a; intro a S
  refine kc_read 6 S rfl hC (fun w hW => have M := M.grow hW; y_load S (by kernel_rfl) rfl (M.cell 3 rfl rfl)) ?_; clear S a; intro a S
  refine kc_readC 7 S rfl hC (fun w _ => y_nilCheck S rfl) ?_; clear S a; intro a S
  refine kc_readC 8 S rfl hC (fun w _ => y_fieldAddr (k := 0) S (by kernel_rfl) rfl) ?_; clear S a; intro a S
  refine kc_readC 9 S rfl hC (fun w _ => y_fieldAddr (k := 3) S (by kernel_rfl) rfl) ?_; clear S a; intro a S
  refine kc_read 10 S rfl hC (fun w hW => have M := M.grow hW; y_load S (by kernel_rfl) rfl (M.cell 4 rfl (stX_inc _ _ _ _ _ _))) ?_; clear S a; intro a S
  refine kc_readC 11 S rfl hC (fun w _ => y_move S rfl) ?_; clear S a; intro a S
  refine kc_one 12 rfl (by kernel_rfl) ?_
  refine st_call (xs := [(Operand.tmp 17), (Operand.tmp 21), (Operand.tmp 26), (Operand.tmp 27)]) S (enters_of Tryz.func55 (by decide) rfl) rfl rfl rfl (append_any (A := [_, _, _, _] ++ (_ :: A)) a9 n x.inc v1 (encQ q) hE M (fun W M9 => M9.readAll 0 rfl (by show (encQ q).length ≤ maxLen; unfold maxLen; omega)) hup hlg hn hi hw) ?_
  rintro _ w4 ⟨n', er, S2, rfl, hP, E2, hE2, M1⟩; refine ⟨_, rfl, ?_⟩; clear S M a; intro a S; have M := M1; clear M1
  obtain ⟨rfl, rfl, rfl⟩ : n' = n + (secQ q : Nat) ∧ er = 0 ∧ S2 = putF S0 (cutF (encQ q) n x.inc) := by
    rcases hP with ⟨-, h1, h2, h3⟩ | ⟨h1, -⟩
    · exact ⟨h1, h2, h3⟩
    · exact absurd ⟨fun e => by rw [e] at hel; simp at hel, hel.2, by show ((secQ q : Nat) : Int) ≤ _; omega⟩ h1
  simp only [List.cons_append, List.nil_append] at M
  replace hC := M.blk 3 rfl
  refine wpList_nil ?_; refine then_normal ?_; refine ⟨fun h => absurd h (by decide), hC, ?_⟩
  refine kc_readC 13 S rfl hC (fun w _ => y_move S rfl) ?_; clear S a; intro a S
  refine kc_readC 14 S rfl hC (fun w _ => y_extract S rfl rfl) ?_; clear S a; intro a S
  refine kc_readC 15 S rfl hC (fun w _ => y_extract S rfl rfl) ?_; clear S a; intro a S
  skip
  refine kc_readC 16 S rfl hC (fun w _ => y_nilCheck S rfl) ?_; clear S a; intro a S
  refine kc_readC 17 S rfl hC (fun w _ => y_fieldAddr (k := 13) S (by kernel_rfl) rfl) ?_; clear S a; intro a S
  refine kc_one 18 rfl (by kernel_rfl) ?_
  refine st_store (sz := 2) (us := [_, _]) S M 4 rfl (by kernel_rfl) rfl rfl rfl rfl rfl rfl (by rw [St.len hok]; exact (by decide : 15 ≤ 273)) ?_; clear M; intro w5 M
  simp only [putL, List.set_cons_zero, List.set_cons_succ, Nat.reduceAdd] at M
  replace hC := M.blk 3 rfl
  refine wpList_nil ?_; refine then_normal ?_; refine ⟨fun h => absurd h (by decide), hC, ?_⟩
  refine kc_readC 19 S rfl hC (fun w _ => y_assign S rfl) ?_; clear S a; intro a S
  refine kc_end (by kernel_rfl) ?_
  replace S := S.sub [(0, _), (1, _), (2, _), (3, _), (4, _), (13, _), (5, _)] rfl
  refine nxE ?_
  refine st_go [1, 1] S rfl (by kernel_rfl) ?_; clear S a; intro a S
  refine nxC ?_
  refine wp_ret ?_
  refine end_one S rfl (res_tmp rfl) ?_
  rw [stX_setlog] at M
  exact ⟨rfl, E2, hE2, M.drop 0⟩
theorem stepS_any {wc w : World} {A E : List Ent} {b2 b3 bS bd : Nat} {S0 : DS} (x : Su) (a9 n : Int) (h : List V8) (k : Int) (dv : Value) (hE : DkE bd S0 E)
    (M : Mem wc w (.blk b2 #[.pointer (some ⟨bd, 0, none⟩)] 38 :: .blk b3 #[.pointer (some ⟨bS, 0, none⟩)] 196 :: stB bS x a9 n h k dv :: (A ++ E))) (hup : S0.down = false) (hw : ∀ k, (S0.cache k).length ≤ 1000000) (hm : x.may) :
    Calls Tryz.prog 150 #[.pointer (some ⟨b2, 0, none⟩), .pointer (some ⟨b3, 0, none⟩)] w fun e w' => e = .returned (.int .i64 0) ∧ ∃ E', DkE bd (S0.write (x.gen % 2) (supS x)) E' ∧ Mem wc w' (.blk b2 #[.pointer (some ⟨bd, 0, none⟩)] 38 :: .blk b3 #[.pointer (some ⟨bS, 0, none⟩)] 196 :: stB bS x a9 n h k dv :: (A ++ E')) := by
  refine calls_enter Tryz.func150 rfl 9 rfl rfl ?_; intro a S
  refine wp_seq ?_
  skip
  refine wp_region_lit ?_
  refine st_go [1] S rfl (by kernel_rfl) ?_; clear S a; intro a S
  refine nxC ?_
  refine wp_seq ?_
  refine wp_regionK [5] #[false, false, false, false, false, false, false] rfl M (by kernel_rfl) ?_; clear M; intro w1 M
  refine k_read 0 S rfl (fun w hW => have M := M.grow hW; y_load S (by kernel_rfl) rfl (M.cell 0 rfl rfl)) ?_; clear S a; intro a S
  refine k_read 1 S rfl (fun w hW => have M := M.grow hW; y_load S (by kernel_rfl) rfl (M.cell 1 rfl rfl)) ?_; clear S a; intro a S
  refine k_pure 2 S rfl (fun w => y_nilCheck S rfl) ?_; clear S a; intro a S
  refine k_pure 3 S rfl (fun w => y_fieldAddr (k := 0) S (by kernel_rfl) rfl) ?_; clear S a; intro a S
  refine k_read 4 S rfl (fun w hW => have M := M.grow hW; y_loadAgg S (by kernel_rfl) rfl rfl (show CellsAt _ _ _ x.cellsL from M.cellsAt (k := 13) 2 rfl (stX_sup _ _ _ _ _ _))) ?_; clear S a; intro a S
  refine k_one 5 rfl (by kernel_rfl) ?_
  refine st_call (xs := [(Operand.tmp 3), (Operand.tmp 7)]) S (enters_of Tryz.func47 (by decide) rfl) rfl rfl rfl (putSuper_any (A := [_, _] ++ (_ :: A)) x hE M hup hm hw) ?_
  rintro _ w2 ⟨rfl, E2, hE2, M1⟩; refine ⟨_, rfl, ?_⟩; clear S M a; intro a S; have M := M1; clear M1
  simp only [List.cons_append, List.nil_append] at M
  refine wpList_nil ?_; refine then_normal ?_; refine ⟨fun h => absurd h (by decide), ?_⟩
  refine k_pure 6 S rfl (fun w => y_assign S rfl) ?_; clear S a; intro a S
  refine k_end (by kernel_rfl) ?_
  refine then_normal ?_
  refine wp_ret ?_
  refine end_one S rfl (res_tmp rfl) ?_
  exact ⟨rfl, E2, hE2, M⟩
end Go.Proofs.YtndabhdepjnbcaaGreat

namespace Go.Proofs.YtndabhdepjnbcaaGreat
open Go.RowKit Go.Sort
abbrev pB (b : Nat) : Value := .pointer (some ⟨b, 0, none⟩)
/-- the j-th step is this function value; F are the variables that it holds on to -/
def stepV (b2 b3 : Nat) (ps : Pl) (cs : List Value) (F : List Ent) (j : Nat) (v : Value) : Prop :=
  if j < 8 then ∃ bj, v = .func (.func 147) #[] #[pB bj, pB b2, pB b3] ∧ Ent.blk bj #[.int .i64 (j : Int)] 3 ∈ F
  else if j = 8 then v = .func (.func 146) #[] #[pB b2]
  else match ps[j - 9]? with
    | some _ => ∃ bj, v = .func (.func 149) #[] #[pB bj, pB b2, pB b3] ∧ Ent.blk bj ((cs.drop ((j - 9) * 6)).take 6).toArray 75 ∈ F
    | none => if j = 10 + ps.length then v = .func (.func 150) #[] #[pB b2, pB b3] else v = .func (.func 146) #[] #[pB b2]
theorem stepV.mono {b2 b3 : Nat} {ps : Pl} {cs : List Value} {F F2 : List Ent} {j : Nat} {v : Value} (h : stepV b2 b3 ps cs F j v) (hs : ∀ e ∈ F, e ∈ F2) : stepV b2 b3 ps cs F2 j v := by
  unfold stepV at *
  split
  · rename_i hj; rw [if_pos hj] at h
    obtain ⟨bj, h1, h2⟩ := h
    exact ⟨bj, h1, hs _ h2⟩
  · rename_i hj; rw [if_neg hj] at h
    split
    · rename_i h8; rw [if_pos h8] at h; exact h
    · rename_i h8; rw [if_neg h8] at h
      cases hq : ps[j - 9]? with
      | none => rw [hq] at h; exact h
      | some q =>
        rw [hq] at h
        obtain ⟨bj, h1, h2⟩ := h
        exact ⟨bj, h1, hs _ h2⟩
structure StepsBk (b2 b3 : Nat) (ps : Pl) (cs : List Value) (F : List Ent) (n : Nat) (fc : List Value) : Prop where
  len : fc.length = n
  get : ∀ (j : Nat) (v : Value), fc[j]? = some v → stepV b2 b3 ps cs F j v
theorem StepsBk.nil (b2 b3 : Nat) (ps : Pl) (cs : List Value) (F : List Ent) : StepsBk b2 b3 ps cs F 0 [] := ⟨rfl, fun j v h => by simp at h⟩
theorem StepsBk.snoc {b2 b3 : Nat} {ps : Pl} {cs : List Value} {F F2 : List Ent} {n : Nat} {fc : List Value} {v : Value} (h : StepsBk b2 b3 ps cs F n fc) (hs : ∀ e ∈ F, e ∈ F2) (hv : stepV b2 b3 ps cs F2 n v) : StepsBk b2 b3 ps cs F2 (n + 1) (fc ++ [v]) := by
  refine ⟨by rw [List.length_append, h.len]; rfl, fun j u hu => ?_⟩
  rcases Nat.lt_or_ge j fc.length with h1 | h1
  · rw [List.getElem?_append_left h1] at hu
    exact (h.get j u hu).mono hs
  · have h2 := (List.getElem?_eq_some_iff.1 hu).1
    rw [List.length_append, List.length_singleton] at h2
    obtain rfl : j = fc.length := by omega
    rw [List.getElem?_append_right (Nat.le_refl _), Nat.sub_self] at hu
    cases hu
    rw [h.len]; exact hv
theorem stepV_put {b2 b3 : Nat} {ps : Pl} {cs : List Value} {F : List Ent} {j bj : Nat} (hj : j < 8) : stepV b2 b3 ps cs (.blk bj #[.int .i64 (j : Int)] 3 :: F) j (.func (.func 147) #[] #[pB bj, pB b2, pB b3]) := by
  unfold stepV; rw [if_pos hj]; exact ⟨bj, rfl, List.mem_cons_self ..⟩
theorem stepV_fl {b2 b3 : Nat} {ps : Pl} {cs : List Value} {F : List Ent} {j : Nat} (hj : j = 8 ∨ j = 9 + ps.length ∨ j = 11 + ps.length) : stepV b2 b3 ps cs F j (.func (.func 146) #[] #[pB b2]) := by
  unfold stepV
  rcases hj with hj | hj
  · rw [if_neg (by omega), if_pos hj]
  · rw [if_neg (by omega), if_neg (by omega), List.getElem?_eq_none (by omega)]
    simp only
    rw [if_neg (by omega)]
    trivial
theorem stepV_app {b2 b3 : Nat} {ps : Pl} {cs us : List Value} {F : List Ent} {i bj : Nat} {q : Pr × List Wr} (hq : ps[i]? = some q) (hr : (cs.drop (i * 6)).take 6 = us) : stepV b2 b3 ps cs (.blk bj us.toArray 75 :: F) (9 + i) (.func (.func 149) #[] #[pB bj, pB b2, pB b3]) := by
  unfold stepV
  rw [if_neg (by omega), if_neg (by omega), show 9 + i - 9 = i by omega, hq]
  exact ⟨bj, rfl, by rw [hr]; exact List.mem_cons_self ..⟩
theorem stepV_sup {b2 b3 : Nat} {ps : Pl} {cs : List Value} {F : List Ent} : stepV b2 b3 ps cs F (10 + ps.length) (.func (.func 150) #[] #[pB b2, pB b3]) := by
  unfold stepV
  rw [if_neg (by omega), if_neg (by omega), List.getElem?_eq_none (by omega)]
  simp only
  rw [if_pos trivial]
  trivial
set_option maxHeartbeats 1000000 in
theorem steps_any {wc w : World} {H : List Ent} {bS bd lo hi : Nat} (x : Su) (a9 n : Int) (h : List V8) (k : Int) (da : Option Addr) (dc : Nat) (cs : List Value) (ps : Pl) (es : List Ent) (hl : h.length = 32) (hps : ps.length ≤ 1000) (hPB : PrBk cs ps es)
    (M : Mem wc w (stB bS x a9 n h k (.slice da ps.length dc) :: rowE lo hi 75 6 (.slice da ps.length dc) ps.length cs :: H)) :
    Calls Tryz.prog 106 #[pB bd, pB bS] w fun e w' => ∃ b2 b3 ra rc rlo rhi fc F, e = .returned (.slice ra (12 + ps.length) rc) ∧ StepsBk b2 b3 ps cs F (12 + ps.length) fc ∧
      Mem wc w' (rowE rlo rhi 64 1 (.slice ra (12 + ps.length) rc) (12 + ps.length) fc :: .blk b2 #[pB bd] 38 :: .blk b3 #[pB bS] 196 :: stB bS x a9 n h k (.slice da ps.length dc) :: rowE lo hi 75 6 (.slice da ps.length dc) ps.length cs :: (F ++ H)) := by
  have hok := stX_ok x a9 n k hl
  refine calls_enter Tryz.func106 rfl 45 rfl rfl ?_; intro a S
  refine wp_seq ?_
  skip
  refine wp_region_lit ?_
  refine st_box S M rfl rfl rfl #[_] rfl ?_; clear S M a; intro a w1 bB S M hB
  refine st_box S M rfl rfl rfl #[_] rfl ?_; clear S M a; intro a w2 bC S M hB
  refine st_go [1] S rfl (by kernel_rfl) ?_; clear S a; intro a S
  refine nxA ?_
  refine st_y S rfl rfl rfl (y_makeFunc (fs := []) (cs := [(Operand.tmp 2)]) S rfl rfl) ?_; clear S a; intro a S
  refine st_go [1] S rfl (by kernel_rfl) ?_; clear S a; intro a S
  refine nxA ?_
  refine st_go [1] S rfl (by kernel_rfl) ?_; clear S a; intro a S
  refine nxC ?_
  refine wp_seq ?_
  refine nxD ?_
  refine st_go [1] S rfl (by kernel_rfl) ?_; clear S a; intro a S
  refine nxC ?_
  refine wp_block ?_
  refine wp_loop_g (fun m a w' => ∃ (j : Nat) (ra : Option Addr) (rc rlo rhi : Nat) (fc : List Value) (F : List Ent), j ≤ 8 ∧ m = 8 - j ∧ StepsBk bB bC ps cs F j fc ∧ Sees 45 a [(2, pB bB), (3, pB bC), (5, .func (.func 146) #[] #[pB bB]), (6, .slice ra j rc), (12, .int .i64 (j : Int))] ∧ Mem wc w' (rowE rlo rhi 64 1 (.slice ra j rc) j fc :: .blk bB #[pB bd] 38 :: .blk bC #[pB bS] 196 :: stB bS x a9 n h k (.slice da ps.length dc) :: rowE lo hi 75 6 (.slice da ps.length dc) ps.length cs :: (F ++ H))) (8) ?_ ?_
  · skip
    replace M := M.ord [3, 3, 2, 3] (by simp only [ordO, oG, oS, oE, oZ, oB] <;> rfl)
    obtain ⟨rlo, rhi, M1⟩ := M.nilRow 64 1
    exact ⟨0, none, 0, rlo, rhi, [], [], Nat.zero_le _, rfl, StepsBk.nil _ _ _ _ _, S.sub _ rfl, M1⟩
  clear S M a; intro m a wl
  rintro ⟨j, ra, rc, rlo, rhi, fc, F, hj, rfl, hSB, S, M⟩
  have hfl := hSB.len
  refine nxD ?_
  refine st_go [1] S rfl (by kernel_rfl) ?_; clear S a; intro a S
  refine nxC ?_
  refine wp_seq ?_
  refine st_if (t := 13) S rfl ?_ ?_
  · clear S; intro h13 S
    refine st_condT S rfl ?_
    refine wp_skip ?_
    refine then_normal ?_
    refine wp_seq ?_
    refine wp_block ?_
    refine nxD ?_
    refine st_go [1] S rfl (by kernel_rfl) ?_; clear S a; intro a S
    refine st_alloc S M rfl rfl #[.int .i64 0] (by kernel_rfl) ?_; clear S M a; intro a w3 bK S M hB
    refine st_store (sz := 1) (us := [_]) S M 0 rfl (by kernel_rfl) rfl rfl rfl rfl rfl rfl (by first | decide | (simp; done) | (simp; omega)) ?_; clear M; intro w4 M
    simp only [putL, List.set_cons_zero, List.set_cons_succ, Nat.reduceAdd] at M
    refine nxB ?_
    refine st_go [1] S rfl (by kernel_rfl) ?_; clear S a; intro a S
    refine st_y S rfl rfl rfl (y_makeFunc (fs := []) (cs := [(Operand.tmp 7), (Operand.tmp 2), (Operand.tmp 3)]) S rfl rfl) ?_; clear S a; intro a S
    refine st_lit (ps := [(0, (Operand.tmp 16))]) (e := 64) (sz := 1) (zl := [.nilFunc]) (cs := [_]) S M rfl rfl (by kernel_rfl) rfl (rfl) ?_; clear S M a; intro a w5 bZ S M hB
    refine st_append (e := 64) (sz := 1) (by_ := 8) (zc := [.nilFunc]) S M 2 rfl rfl (by kernel_rfl) rfl (by decide) rfl rfl rfl (show Rd _ _ _ 1 _ 1 [.func (.func 147) #[] #[pB bK, pB bB, pB bC]] from M.sliceAt 0 rfl (M.cellsAt (k := 1) 0 rfl rfl) rfl (Nat.le_refl _) (by unfold maxLen; omega)) (rfl) (by omega) (by unfold maxLen; omega) ?_; clear S M a; intro a w6 vA loA hiA S M
    obtain ⟨aA, cA, rfl, -, -⟩ := (M.readAll 0 rfl (by unfold maxLen; omega)).form
    replace M := M.drop 1
    simp only [List.eraseIdx_cons_succ, List.eraseIdx_cons_zero] at M
    refine st_y S rfl rfl rfl (y_assign S rfl) ?_; clear S a; intro a S
    refine wpList_nil ?_
    refine block_normal ?_
    refine nxF ?_
    (first | refine st_y S rfl rfl rfl (y_addN S rfl rfl (by omega)) ?_ | refine st_y S rfl rfl rfl (y_int S rfl rfl rfl) ?_); clear S a; intro a S
    refine st_go [1] S rfl (by kernel_rfl) ?_; clear S a; intro a S
    refine nxC ?_
    skip
    replace M := M.ord [5, 5, 5, 5, 4] (by simp only [ordO, oG, oS, oE, oZ, oB] <;> rfl)
    exact ⟨8 - (j + 1), by omega, j + 1, aA, cA, loA, hiA, _, .blk bK #[.int .i64 (j : Int)] 3 :: F, by omega, rfl, hSB.snoc (fun e he => List.mem_cons_of_mem _ he) (stepV_put (by omega)), S.sub _ rfl, M⟩
  clear S; intro h13 S
  refine st_condF S rfl ?_
  refine wp_exit ?_
  refine then_exit ?_
  refine then_exit ?_
  refine block_hit ?_
  refine then_normal ?_
  refine wp_seq ?_
  obtain rfl : j = 8 := by omega
  refine wp_region_lit ?_
  refine st_go [1, 1] S rfl (by kernel_rfl) ?_; clear S a; intro a S
  refine st_lit (ps := [(0, (Operand.tmp 21))]) (e := 64) (sz := 1) (zl := [.nilFunc]) (cs := [_]) S M rfl rfl (by kernel_rfl) rfl (rfl) ?_; clear S M a; intro a w7 bZ S M hB
  refine st_append (e := 64) (sz := 1) (by_ := 8) (zc := [.nilFunc]) S M 1 rfl rfl (by kernel_rfl) rfl (by decide) rfl rfl rfl (show Rd _ _ _ 1 _ 1 [.func (.func 146) #[] #[pB bB]] from M.sliceAt 0 rfl (M.cellsAt (k := 1) 0 rfl rfl) rfl (Nat.le_refl _) (by unfold maxLen; omega)) (rfl) (by omega) (by unfold maxLen; omega) ?_; clear S M a; intro a w8 vA loA hiA S M
  obtain ⟨aA, cA, rfl, -, -⟩ := (M.readAll 0 rfl (by unfold maxLen; omega)).form
  have hSB2 := hSB.snoc (fun e he => he) (stepV_fl (F := F) (b3 := bC) (cs := cs) (ps := ps) (j := 8) (b2 := bB) (.inl rfl))
  replace M := M.drop 1
  simp only [List.eraseIdx_cons_succ, List.eraseIdx_cons_zero] at M
  refine st_y S rfl rfl rfl (y_assign S rfl) ?_; clear S a; intro a S
  refine nxC ?_
  refine wp_seq ?_
  refine nxD ?_
  refine st_run [3] S M rfl (by kernel_rfl) ?_; clear S a; intro a S
  skip
  refine st_y S rfl rfl rfl (y_nilCheck S rfl) ?_; clear S a; intro a S
  refine st_go [272] S rfl (by kernel_rfl) ?_; clear S a; intro a S
  refine st_y S rfl rfl rfl (y_load S (by kernel_rfl) rfl (M.cell 3 rfl (St.doubt hok _))) ?_; clear S a; intro a S
  refine st_y S rfl rfl rfl (y_lenR (E := 75) S rfl (M.readAll 4 rfl (by unfold maxLen; omega)) (by kernel_rfl)) ?_; clear S a; intro a S
  refine st_go [1] S rfl (by kernel_rfl) ?_; clear S a; intro a S
  refine nxC ?_
  refine wp_block ?_
  refine wp_loop_g (fun m a w' => ∃ (i : Nat) (ra : Option Addr) (rc rlo rhi : Nat) (fc : List Value) (F : List Ent), i ≤ ps.length ∧ m = ps.length - i ∧ StepsBk bB bC ps cs F (9 + i) fc ∧ Sees 45 a [(2, pB bB), (3, pB bC), (5, .func (.func 146) #[] #[pB bB]), (6, .slice ra (9 + i) rc), (27, .slice da ps.length dc), (28, .int .i64 (ps.length : Int)), (29, .int .i64 (i : Int))] ∧ Mem wc w' (rowE rlo rhi 64 1 (.slice ra (9 + i) rc) (9 + i) fc :: .blk bB #[pB bd] 38 :: .blk bC #[pB bS] 196 :: stB bS x a9 n h k (.slice da ps.length dc) :: rowE lo hi 75 6 (.slice da ps.length dc) ps.length cs :: (F ++ H))) (ps.length) ?_ ?_
  · skip
    replace M := M.ord [4, 4, 4, 4, 4] (by simp only [ordO, oG, oS, oE, oZ, oB] <;> rfl)
    exact ⟨0, aA, cA, loA, hiA, _, F, Nat.zero_le _, rfl, hSB2, S.sub _ rfl, M⟩
  clear S M a; intro m a wl
  rintro ⟨i, ra, rc, rlo, rhi, fc, F, hi', rfl, hSB, S, M⟩
  have hfl := hSB.len
  refine nxD ?_
  refine st_go [1] S rfl (by kernel_rfl) ?_; clear S a; intro a S
  refine nxC ?_
  refine wp_seq ?_
  refine st_fi (t := 30) S rfl ?_ ?_
  · clear S; intro h30 S
    refine st_condF S rfl ?_
    refine wp_exit ?_
    refine then_exit ?_
    refine then_exit ?_
    refine block_hit ?_
    refine then_normal ?_
    refine wp_seq ?_
    obtain rfl : i = ps.length := by omega
    refine wp_region_lit ?_
    refine st_y S rfl rfl rfl (y_makeFunc (fs := []) (cs := [(Operand.tmp 2), (Operand.tmp 3)]) S rfl rfl) ?_; clear S a; intro a S
    refine st_go [1] S rfl (by kernel_rfl) ?_; clear S a; intro a S
    refine nxA ?_
    refine st_go [1, 1, 1, 1] S rfl (by kernel_rfl) ?_; clear S a; intro a S
    refine st_lit (ps := [(0, (Operand.tmp 40)), (1, (Operand.tmp 41)), (2, (Operand.tmp 42))]) (e := 64) (sz := 1) (zl := [.nilFunc, .nilFunc, .nilFunc]) (cs := [_, _, _]) S M rfl rfl (by kernel_rfl) rfl (rfl) ?_; clear S M a; intro a w13 bZ S M hB
    refine st_append (e := 64) (sz := 1) (by_ := 8) (zc := [.nilFunc]) S M 1 rfl rfl (by kernel_rfl) rfl (by decide) rfl rfl rfl (show Rd _ _ _ 1 _ 3 [.func (.func 146) #[] #[pB bB], .func (.func 150) #[] #[pB bB, pB bC], .func (.func 146) #[] #[pB bB]] from M.sliceAt 0 rfl (M.cellsAt (k := 3) 0 rfl rfl) rfl (Nat.le_refl _) (by unfold maxLen; omega)) (rfl) (by omega) (by unfold maxLen; omega) ?_; clear S M a; intro a w14 vA loA hiA S M
    obtain ⟨aA, cA, rfl, -, -⟩ := (M.readAll 0 rfl (by unfold maxLen; omega)).form
    replace M := M.drop 1
    simp only [List.eraseIdx_cons_succ, List.eraseIdx_cons_zero] at M
    refine st_y S rfl rfl rfl (y_assign S rfl) ?_; clear S a; intro a S
    refine nxC ?_
    refine wp_ret ?_
    refine end_one S rfl (res_tmp rfl) ?_
    skip
    replace M := M.ord [4, 4, 4, 4, 4] (by simp only [ordO, oG, oS, oE, oZ, oB] <;> rfl)
    have k1 := hSB.snoc (fun e he => he) (stepV_fl (F := F) (b3 := bC) (cs := cs) (ps := ps) (j := 9 + ps.length) (b2 := bB) (.inr (.inl rfl)))
    have k2 := k1.snoc (fun e he => he) (v := .func (.func 150) #[] #[pB bB, pB bC]) (by rw [show 9 + ps.length + 1 = 10 + ps.length by omega]; exact stepV_sup)
    have k3 := k2.snoc (fun e he => he) (v := .func (.func 146) #[] #[pB bB]) (stepV_fl (.inr (.inr (by omega))))
    have e12 : 9 + ps.length + 3 = 12 + ps.length := by omega
    rw [e12] at M
    rw [show 9 + ps.length + 1 + 1 + 1 = 12 + ps.length by omega, List.append_assoc, List.append_assoc] at k3
    exact ⟨bB, bC, aA, cA, loA, hiA, _, F, by rw [e12], k3, M⟩
  clear S; intro h30 S
  refine st_condT S rfl ?_
  refine wp_skip ?_
  refine then_normal ?_
  refine wp_seq ?_
  refine wp_block ?_
  refine wp_seq ?_
  obtain ⟨q, hq⟩ : ∃ q, ps[i]? = some q := ⟨_, List.getElem?_eq_getElem (by omega)⟩
  obtain ⟨ad, cp, wlo, whi, hrow, hmem, -⟩ := hPB.2.2 i q hq
  refine wp_region_lit ?_
  refine st_y S rfl rfl rfl (y_indexR (e := 75) (sz := 6) S (by kernel_rfl) rfl ((M.readAll 4 rfl (by unfold maxLen; omega))) rfl (by first | omega | (simp; done) | (simp; omega))) ?_; clear S a; intro a S
  try simp only [Int.toNat_natCast, Nat.mul_one, Nat.zero_add] at S
  refine st_y S rfl rfl rfl (y_loadAgg S (by kernel_rfl) rfl rfl ((M.readAll 4 rfl (by unfold maxLen; omega)).at_.row (i := i) hrow rfl)) ?_; clear S a; intro a S
  refine st_alloc S M rfl rfl #[.int .i64 0, .int .i64 0, .int .i64 0, .slice none 0 0, .int .i64 0, .int .i64 0] (by kernel_rfl) ?_; clear S M a; intro a w9 bK S M hB
  refine st_store (sz := 6) (us := [_, _, _, _, _, _]) S M 0 rfl (by kernel_rfl) rfl rfl rfl rfl rfl rfl (by first | decide | (simp; done) | (simp; omega)) ?_; clear M; intro w10 M
  simp only [putL, List.set_cons_zero, List.set_cons_succ, Nat.reduceAdd] at M
  refine nxB ?_
  refine st_go [1] S rfl (by kernel_rfl) ?_; clear S a; intro a S
  refine st_y S rfl rfl rfl (y_makeFunc (fs := []) (cs := [(Operand.tmp 9), (Operand.tmp 2), (Operand.tmp 3)]) S rfl rfl) ?_; clear S a; intro a S
  refine st_lit (ps := [(0, (Operand.tmp 34))]) (e := 64) (sz := 1) (zl := [.nilFunc]) (cs := [_]) S M rfl rfl (by kernel_rfl) rfl (rfl) ?_; clear S M a; intro a w11 bZ S M hB
  refine st_append (e := 64) (sz := 1) (by_ := 8) (zc := [.nilFunc]) S M 2 rfl rfl (by kernel_rfl) rfl (by decide) rfl rfl rfl (show Rd _ _ _ 1 _ 1 [.func (.func 149) #[] #[pB bK, pB bB, pB bC]] from M.sliceAt 0 rfl (M.cellsAt (k := 1) 0 rfl rfl) rfl (Nat.le_refl _) (by unfold maxLen; omega)) (rfl) (by omega) (by unfold maxLen; omega) ?_; clear S M a; intro a w12 vA loA hiA S M
  obtain ⟨aA, cA, rfl, -, -⟩ := (M.readAll 0 rfl (by unfold maxLen; omega)).form
  replace M := M.drop 1
  simp only [List.eraseIdx_cons_succ, List.eraseIdx_cons_zero] at M
  refine st_y S rfl rfl rfl (y_assign S rfl) ?_; clear S a; intro a S
  refine wpList_nil ?_
  refine block_normal ?_
  refine nxF ?_
  (first | refine st_y S rfl rfl rfl (y_addN S rfl rfl (by omega)) ?_ | refine st_y S rfl rfl rfl (y_int S rfl rfl rfl) ?_); clear S a; intro a S
  refine st_go [1] S rfl (by kernel_rfl) ?_; clear S a; intro a S
  refine nxC ?_
  skip
  replace M := M.ord [5, 5, 5, 5, 4] (by simp only [ordO, oG, oS, oE, oZ, oB] <;> rfl)
  exact ⟨ps.length - (i + 1), by omega, i + 1, aA, cA, loA, hiA, _, .blk bK (q.1.cellsL (.slice ad q.2.length cp)).toArray 75 :: F, by omega, rfl, hSB.snoc (fun e he => List.mem_cons_of_mem _ he) (stepV_app hq hrow), S.sub _ rfl, M⟩
end Go.Proofs.YtndabhdepjnbcaaGreat

namespace Go.Proofs.YtndabhdepjnbcaaGreat
open Go.RowKit Go.Sort
theorem perm_inS {α : Type} {F1 F2 G E : List α} {x a b c : α} : (a :: b :: c :: ((F1 ++ x :: F2 ++ G) ++ E)).Perm (x :: a :: b :: c :: ((F1 ++ F2 ++ G) ++ E)) := by
  have e1 : (F1 ++ x :: F2 ++ G) ++ E = F1 ++ x :: (F2 ++ G ++ E) := by simp
  have e2 : (F1 ++ F2 ++ G) ++ E = F1 ++ (F2 ++ G ++ E) := by simp
  rw [e1, e2]
  exact (((List.perm_middle.cons c).cons b).cons a).trans (((((List.Perm.swap x c _).cons b).cons a).trans ((List.Perm.swap x b _).cons a)).trans (List.Perm.swap x a _))
/-- what a step needs -/
structure StepOk (S0 : DS) (x : Su) (a9 n : Int) (h : List V8) (ps : Pl) (j : Nat) : Prop where
  up : S0.down = false
  cache : ∀ k, (S0.cache k).length ≤ 100000
  hl : h.length = 32
  may : x.may
  lg : mayL a9 n
  big : n ≤ 2147483648
  mq : ∀ q ∈ ps, mayQ q
  room : ∀ (i : Nat) (q : Pr × List Wr), j = 9 + i → ps[i]? = some q → n + (secQ q : Nat) ≤ a9 + 24
theorem stepJ_any {wc w : World} {F G E es : List Ent} {b2 b3 bS bd : Nat} {S0 : DS} (x : Su) (a9 n : Int) (h : List V8) (k : Int) (dv : Value) (cs : List Value) (ps : Pl) (j : Nat) (v : Value) (hv : stepV b2 b3 ps cs F j v) (hE : DkE bd S0 E)
    (M : Mem wc w (.blk b2 #[pB bd] 38 :: .blk b3 #[pB bS] 196 :: stB bS x a9 n h k dv :: ((F ++ G) ++ E))) (hok : StepOk S0 x a9 n h ps j) (hB : PrBk cs ps es) (hes : ∀ e ∈ es, e ∈ G) :
    ∃ (f : FuncId) (ca : List Value), v = .func (.func f) #[] ca.toArray ∧ Enters Tryz.prog f ∧ Calls Tryz.prog f ca.toArray w (fun e w' => e = .returned (.int .i64 0) ∧ ∃ E', DkE bd (sv1 h ps x j (S0, n)).1 E' ∧ Mem wc w' (.blk b2 #[pB bd] 38 :: .blk b3 #[pB bS] 196 :: stB bS x a9 (sv1 h ps x j (S0, n)).2 h k dv :: ((F ++ G) ++ E'))) := by
  obtain ⟨hup, hca, hl, hmay, hlg, hbig, hmq, hroom⟩ := hok
  have hw6 : ∀ k, (S0.cache k).length ≤ 1000000 := fun k => by have := hca k; omega
  have hFl : ∀ {j : Nat}, (j = 8 ∨ j = 9 + ps.length ∨ 10 + ps.length < j) → v = .func (.func 146) #[] #[pB b2] → ∃ (f : FuncId) (ca : List Value), v = .func (.func f) #[] ca.toArray ∧ Enters Tryz.prog f ∧ Calls Tryz.prog f ca.toArray w (fun e w' => e = .returned (.int .i64 0) ∧ ∃ E', DkE bd (sv1 h ps x j (S0, n)).1 E' ∧ Mem wc w' (.blk b2 #[pB bd] 38 :: .blk b3 #[pB bS] 196 :: stB bS x a9 (sv1 h ps x j (S0, n)).2 h k dv :: ((F ++ G) ++ E'))) := by
    intro j hj hv
    rw [sv1_fl hj]
    exact ⟨_, [pB b2], hv, enters_of Tryz.func146 (by decide) rfl, stepF_any (A := _ :: _ :: (F ++ G)) hE M hup hw6⟩
  unfold stepV at hv
  split at hv
  · rename_i hj
    obtain ⟨bj, rfl, hm⟩ := hv
    obtain ⟨F1, F2, rfl⟩ := List.append_of_mem hm
    refine ⟨_, [pB bj, pB b2, pB b3], rfl, enters_of Tryz.func147 (by decide) rfl, ?_⟩
    rw [sv1_put hj]
    refine (stepP_any (A := F1 ++ F2 ++ G) j x a9 n h k dv hE (M.perm perm_inS) hup hw6 hj hl).mono ?_
    rintro e w' ⟨he, E', hE', M'⟩
    exact ⟨he, E', hE', M'.perm perm_inS.symm⟩
  · split at hv
    · rename_i hj; exact hFl (.inl hj) hv
    · rename_i h8 h9
      obtain ⟨i, rfl⟩ : ∃ i, j = 9 + i := ⟨j - 9, by omega⟩
      rw [show 9 + i - 9 = i by omega] at hv
      cases hq : ps[i]? with
      | none =>
        rw [hq] at hv
        have hil := List.getElem?_eq_none_iff.1 hq
        simp only at hv
        split at hv
        · rename_i h10
          rw [h10, sv1_sup]
          exact ⟨_, [pB b2, pB b3], hv, enters_of Tryz.func150 (by decide) rfl, stepS_any (A := F ++ G) x a9 n h k dv hE M hup hw6 hmay⟩
        · rename_i h10
          exact hFl (by omega) hv
      | some q =>
        rw [hq] at hv
        obtain ⟨bj, rfl, hm⟩ := hv
        obtain ⟨ad, cp, lo, hi, hrow, hmem, hx⟩ := hB.2.2 i q hq
        rw [hrow] at hm
        obtain ⟨F1, F2, rfl⟩ := List.append_of_mem hm
        refine ⟨_, [pB bj, pB b2, pB b3], rfl, enters_of Tryz.func149 (by decide) rfl, ?_⟩
        rw [sv1_app hq]
        refine (stepA_any (A := F1 ++ F2 ++ G) q ad cp x a9 n h k dv hE (M.perm perm_inS) hup hca hl (hmq q (List.mem_of_getElem? hq)) (fun W H9 M9 => rowW M9 (List.mem_append_right _ (List.mem_append_left _ (List.mem_append_right _ (hes _ hmem)))) hx) hlg hbig ⟨hmay.2.2.2.2.2.2.2.1, hmay.2.2.2.2.2.2.2.2.1⟩ (hroom i q rfl hq)).mono ?_
        rintro e w' ⟨he, E', hE', M'⟩
        exact ⟨he, E', hE', M'.perm perm_inS.symm⟩
end Go.Proofs.YtndabhdepjnbcaaGreat

namespace Go.Proofs.YtndabhdepjnbcaaGreat
open Go.RowKit Go.Sort
/-- the superblock behind a checkpoint -/
def ckSu (x : Su) (n : Int) : Su := { x with gen := x.gen + 1, tail := n }
theorem stX_set0 (x : Su) (a b : Int) (h : List V8) (n g : Int) (dv : Value) : ((stX x a b h n).cellsL dv).set 0 (.int .i64 g) = (stX { x with gen := g } a b h n).cellsL dv := rfl
theorem stX_set1 (x : Su) (a b : Int) (h : List V8) (n g : Int) (dv : Value) : ((stX x a b h n).cellsL dv).set 1 (.int .i64 g) = (stX { x with tail := g } a b h n).cellsL dv := rfl
theorem stX_set272 (x : Su) (a b : Int) {h : List V8} (hl : h.length = 32) (n g : Int) (dv : Value) : ((stX x a b h n).cellsL dv).set 272 (.int .i64 g) = (stX x a b h g).cellsL dv := by
  rw [St.setA (stX_ok x a b n hl)]; rfl
theorem stX_set13 (x : Su) (a b : Int) (h : List V8) (n g : Int) (dv : Value) : ((stX x a b h n).cellsL dv).set 13 (.int .i64 g) = (stX x g b h n).cellsL dv := rfl
theorem sv_room {h : List V8} {ps : Pl} {x : Su} {S0 : DS} {n : Int} {i : Nat} {q : Pr × List Wr} {a : Int} (hq : ps[i]? = some q) (hr : n + (wtP ps : Nat) ≤ a + 24) : (sv h ps x (9 + i) (S0, n)).2 + (secQ q : Nat) ≤ a + 24 := by
  rw [sv_n, show 9 + i - 9 = i by omega]
  have h1 := wtP_take hq
  have h2 : wtP ps = wtP (ps.take (i + 1)) + wtP (ps.drop (i + 1)) := by rw [← wtP_append, List.take_append_drop]
  simp only; omega
theorem sv_n_le {h : List V8} {ps : Pl} {x : Su} {S0 : DS} {n : Int} (j : Nat) : (sv h ps x j (S0, n)).2 ≤ n + (wtP ps : Nat) := by
  rw [sv_n]
  have h2 : wtP ps = wtP (ps.take (j - 9)) + wtP (ps.drop (j - 9)) := by rw [← wtP_append, List.take_append_drop]
  simp only; omega
theorem sv_n_ge {h : List V8} {ps : Pl} {x : Su} {S0 : DS} {n : Int} (j : Nat) : n ≤ (sv h ps x j (S0, n)).2 := by
  rw [sv_n]; simp only; omega
theorem perm_preS {α : Type} {D : α} {es P G : List α} : (D :: (es ++ (P ++ G))).Perm (P ++ (D :: (es ++ G))) := by
  have h1 : (es ++ (P ++ G)).Perm (P ++ (es ++ G)) := by
    rw [← List.append_assoc, ← List.append_assoc]; exact List.perm_append_comm.append_right G
  exact (h1.cons D).trans (List.perm_middle.symm)
theorem perm_goS {α : Type} {R B C W D X Z : α} {F es A E : List α} : (R :: B :: C :: W :: D :: (F ++ (X :: Z :: (es ++ (A ++ E))))).Perm (B :: C :: W :: ((F ++ (R :: D :: X :: Z :: (es ++ A))) ++ E)) := by
  have e : (F ++ (R :: D :: X :: Z :: (es ++ A))) ++ E = F ++ (R :: D :: (X :: Z :: (es ++ (A ++ E)))) := by simp
  rw [e]
  have h1 : (F ++ (R :: D :: (X :: Z :: (es ++ (A ++ E))))).Perm (R :: D :: (F ++ (X :: Z :: (es ++ (A ++ E))))) := List.perm_middle.trans (List.perm_middle.cons R)
  refine List.Perm.trans ?_ (((h1.cons W).cons C).cons B).symm
  exact (List.Perm.swap B R _).trans (((List.Perm.swap C R _).trans ((List.Perm.swap W R _).cons C)).cons B)
theorem sub_finS {α : Type} {R B C W D X Z : α} {F es A E : List α} : (W :: D :: Z :: (es ++ (A ++ E))).Sublist (B :: C :: W :: ((F ++ (R :: D :: X :: Z :: (es ++ A))) ++ E)) := by
  refine .cons _ (.cons _ (.cons_cons _ ?_))
  have e : (D :: Z :: (es ++ (A ++ E))) = (D :: Z :: (es ++ A)) ++ E := by simp
  rw [e]
  exact (List.Sublist.trans (.cons _ (.cons_cons _ (.cons _ (.cons_cons _ (List.Sublist.refl _))))) (List.sublist_append_right F _)).append (List.Sublist.refl _)
set_option maxHeartbeats 4000000 in
set_option maxRecDepth 10000 in
theorem save9_any {wc w : World} {A E : List Ent} {bd : Nat} {S0 : DS} (x : Su) (a9 n : Int) (h : List V8) (k : Int) (dv : Value) (cs : List Value) (ps : Pl) (hE : DkE bd S0 E) (M : Mem wc w (A ++ E)) (hd : ∀ W H', Mem wc W (H' ++ (A ++ E)) → PrsC cs 0 W.heap.size W dv ps) (hps : ps.length ≤ 20) (hws : ∀ (i : Nat) (q : Pr × List Wr), ps[i]? = some q → q.2.length ≤ 1000000)
    (hup : S0.down = false) (hw : ∀ k, (S0.cache k).length ≤ 10000) (hl : h.length = 32) (hmq : ∀ q ∈ ps, mayQ q) (hlg : mayL a9 n) (hn : n ≤ 2000000000) (hmay : (ckSu x n).may) (hg : 0 ≤ x.gen) (hroom : n + (wtP ps : Nat) ≤ a9 + 24) :
    Calls Tryz.prog 59 #[pB bd, .agg ((stX x a9 n h k).cellsL dv).toArray] w fun e w' => ∃ da dc lo hi cs2 es2 E', e = .returned (.tuple #[.agg ((stX (ckSu x n) n (n + (wtP ps : Nat)) h 0).cellsL (.slice da ps.length dc)).toArray, .int .i64 0]) ∧ DkE bd (sv h ps (ckSu x n) (12 + ps.length) (S0, n)).1 E' ∧ PrBk cs2 ps es2 ∧ Mem wc w' (rowE lo hi 75 6 (.slice da ps.length dc) ps.length cs2 :: (es2 ++ (A ++ E'))) := by
  have hok := stX_ok x a9 n k hl
  have hgm : x.gen + 1 ≤ 1099511627776 := hmay.2.2.1
  have hwt := wtP_le ps hmq
  refine calls_enter Tryz.func59 rfl 59 rfl rfl ?_; intro a S
  refine nxD ?_
  refine st_box S M rfl rfl rfl _ rfl ?_; clear S M a; intro a w1 bX S M hB
  refine st_alloc S M rfl rfl (zSt.cellsL (.slice none 0 0)).toArray (by kernel_rfl) ?_; clear S M a; intro a w2 bZ S M hB
  refine st_go [1] S rfl (by kernel_rfl) ?_; clear S a; intro a S
  refine nxC ?_
  refine wp_scope_straight ?_
  refine wp_seq ?_
  refine nxD ?_
  refine st_go [1] S rfl (by kernel_rfl) ?_; clear S a; intro a S
  refine st_y S rfl rfl rfl (y_eqlPS (by kernel_rfl) S rfl) ?_; clear S a; intro a S
  refine nxC ?_
  refine st_condF S rfl ?_
  refine wp_skip ?_
  refine then_normal ?_
  refine wp_seq ?_
  refine wp_seq ?_
  refine wp_regionK [] #[false, false, false, false, false, false] rfl M (by kernel_rfl) ?_; clear M; intro w3 M
  refine k_pure 0 S rfl (fun w => y_fieldAddr (k := 13) S (by kernel_rfl) rfl) ?_; clear S a; intro a S
  refine k_read 1 S rfl (fun w hW => have M := M.grow hW; y_loadAgg (cs := [_, _]) S (by kernel_rfl) rfl rfl (M.cellsAt (k := 2) 1 rfl (stX_log _ _ _ _ _ _))) ?_; clear S a; intro a S
  refine k_read 3 S rfl (fun w hW => have M := M.grow hW; y_loadAgg (k := 273) (cs := _) S (by kernel_rfl) rfl (by with_reducible first | exact St.len hok _ | exact St.len zSt_ok _ | exact St.len (stX_ok _ _ _ _ hl) _) (M.cellsAt 1 rfl cutL_all)) ?_; clear S a; intro a S
  refine k_one 2 rfl (by kernel_rfl) ?_
  refine st_call (xs := [(Operand.tmp 15)]) S (enters_of Tryz.func53 (by decide) rfl) rfl rfl rfl (FreeJ a9 n _ hlg) ?_
  rintro _ w4 ⟨rfl, hK⟩; refine ⟨_, rfl, ?_⟩; clear S a; intro a S; replace M := M.grow hK
  refine wpList_nil ?_; refine then_normal ?_; refine ⟨fun _ => hK, ?_⟩
  refine k_one 4 rfl (by kernel_rfl) ?_
  refine st_call (xs := [(Operand.tmp 17)]) S (enters_of Tryz.func105 (by decide) rfl) rfl rfl rfl (wants9_any _ hok dv cs ps _ (hd _ [_, _] M) (by omega) hmq) ?_
  rintro _ w5 ⟨rfl, hK⟩; refine ⟨_, rfl, ?_⟩; clear S a; intro a S; replace M := M.grow hK
  refine wpList_nil ?_; refine then_normal ?_; refine ⟨fun _ => hK, ?_⟩
  refine k_pure 5 S rfl (fun w => y_int S rfl rfl rfl) ?_; clear S a; intro a S
  refine k_end (by kernel_rfl) ?_
  refine then_normal ?_
  refine st_if (t := 19) S rfl ?_ ?_
  · clear S; intro h19 S
    exfalso; omega
  clear S; intro h19 S
  refine st_condF S rfl ?_
  refine wp_skip ?_
  refine nxE ?_
  refine st_y S rfl rfl rfl (y_loadAgg (k := 273) (cs := _) S (by kernel_rfl) rfl (by with_reducible first | exact St.len hok _ | exact St.len zSt_ok _ | exact St.len (stX_ok _ _ _ _ hl) _) (M.cellsAt 1 rfl cutL_all)) ?_; clear S a; intro a S
  refine st_call (xs := [(Operand.tmp 22)]) S (enters_of Tryz.func71 (by decide) rfl) rfl rfl rfl (apart_any _ hok dv cs ps _ (hd _ [_, _] M) (by omega) hws) ?_
  rintro _ w6 ⟨dv2, rfl, lo2, hi2, cs2, es2, M2, hBk⟩; refine ⟨_, rfl, ?_⟩; clear S a; intro a S
  obtain ⟨da2, dc2, rfl, -, -⟩ := (M2.readRow 0 rfl (by unfold maxLen; omega)).form
  replace M := (M.join M2).perm (perm_preS (P := [_, _]))
  simp only [List.cons_append, List.nil_append] at M
  clear M2
  refine st_alloc S M rfl rfl (zSt.cellsL (.slice none 0 0)).toArray (by kernel_rfl) ?_; clear S M a; intro a w7 bW S M hB
  refine st_storeAll (sz := 273) S M 0 rfl (by kernel_rfl) rfl rfl (by with_reducible first | exact St.len hok _ | exact St.len zSt_ok _ | exact St.len (stX_ok _ _ _ _ hl) _) (by with_reducible first | exact St.one hok _ rfl | exact St.one zSt_ok _ rfl | exact St.one (stX_ok _ _ _ _ hl) _ rfl) rfl (by with_reducible first | exact St.len hok _ | exact St.len zSt_ok _ | exact St.len (stX_ok _ _ _ _ hl) _) ?_; clear M; intro w8 M
  simp only [List.set_cons_zero, List.set_cons_succ] at M
  refine nxA ?_
  refine st_go [1, 1] S rfl (by kernel_rfl) ?_; clear S a; intro a S
  refine st_y S rfl rfl rfl (y_load S (by kernel_rfl) rfl (M.cell 0 rfl (stX_gen _ _ _ _ _ _))) ?_; clear S a; intro a S
  (first | refine st_y S rfl rfl rfl (y_addN S rfl rfl (by omega)) ?_ | refine st_y S rfl rfl rfl (y_int S rfl rfl rfl) ?_); clear S a; intro a S
  refine st_go [1, 1] S rfl (by kernel_rfl) ?_; clear S a; intro a S
  refine st_store (sz := 1) (us := [_]) S M 0 rfl (by kernel_rfl) rfl rfl rfl rfl rfl rfl (by rw [St.len hok]; exact (by decide : 1 ≤ 273)) ?_; clear M; intro w9 M
  simp only [putL, List.set_cons_zero, List.set_cons_succ, Nat.reduceAdd] at M
  replace S := S.sub [(0, _), (1, _), (3, _), (4, _), (5, _), (11, _), (19, _), (6, _)] rfl
  refine nxC ?_
  refine wp_seq ?_
  rw [stX_set0] at M
  refine wp_region_lit ?_
  refine st_go [14, 2] S rfl (by kernel_rfl) ?_; clear S a; intro a S
  refine st_y S rfl rfl rfl (y_load S (by kernel_rfl) rfl (M.cell 2 rfl (stX_nxt _ _ _ _ _ _))) ?_; clear S a; intro a S
  refine st_go [1, 2] S rfl (by kernel_rfl) ?_; clear S a; intro a S
  refine st_store (sz := 1) (us := [_]) S M 0 rfl (by kernel_rfl) rfl rfl rfl rfl rfl rfl (by rw [St.len (stX_ok _ _ _ _ hl)]; exact (by decide : 2 ≤ 273)) ?_; clear M; intro w10 M
  simp only [putL, List.set_cons_zero, List.set_cons_succ, Nat.reduceAdd] at M
  refine nxC ?_
  refine wp_seq ?_
  rw [stX_set1] at M
  refine wp_region_lit ?_
  refine st_go [273] S rfl (by kernel_rfl) ?_; clear S a; intro a S
  refine st_store (sz := 1) (us := [_]) S M 0 rfl (by kernel_rfl) rfl rfl rfl rfl rfl rfl (by rw [St.len (stX_ok _ _ _ _ hl)]; exact (by decide : 273 ≤ 273)) ?_; clear M; intro w11 M
  simp only [putL, List.set_cons_zero, List.set_cons_succ, Nat.reduceAdd] at M
  refine nxC ?_
  refine wp_seq ?_
  rw [stX_set272 _ _ _ hl] at M
  refine wp_region_lit ?_
  refine st_go [1] S rfl (by kernel_rfl) ?_; clear S a; intro a S
  refine nxC ?_
  refine wp_seq ?_
  refine wp_label ?_
  refine then_normal ?_
  refine wp_seq ?_
  refine wp_seq ?_
  skip
  replace M := M.ord [1, 2, 3, 3] (by simp only [ordO, oG, oS, oE, oZ, oB] <;> rfl)
  refine wp_region_lit ?_
  refine st_go [1] S rfl (by kernel_rfl) ?_; clear S a; intro a S
  refine st_call (xs := [(Operand.tmp 36), (Operand.tmp 6)]) S (enters_of Tryz.func106 (by decide) rfl) rfl rfl rfl (steps_any (H := _ :: _ :: (es2 ++ (A ++ E))) (ckSu x n) a9 n h 0 da2 dc2 cs2 ps es2 hl (by omega) hBk M) ?_
  rintro _ w12 ⟨b2, b3, ra, rc, rlo, rhi, fc, F, rfl, hSB, M1⟩; refine ⟨_, rfl, ?_⟩; clear S M a; intro a S
  replace M := M1.perm perm_goS
  clear M1
  refine st_y S rfl rfl rfl (y_lenS (E := 64) S rfl (by kernel_rfl)) ?_; clear S a; intro a S
  refine st_go [1] S rfl (by kernel_rfl) ?_; clear S a; intro a S
  refine nxC ?_
  refine wp_block ?_
  refine wp_loop_g (fun m a w' => ∃ (j : Nat) (E' : List Ent), j ≤ 12 + ps.length ∧ m = 12 + ps.length - j ∧ DkE bd (sv h ps (ckSu x n) j (S0, n)).1 E' ∧ Sees 59 a [(4, pB bZ), (6, pB bW), (7, .int .i64 0), (37, .slice ra (12 + ps.length) rc), (38, .int .i64 ((12 + ps.length : Nat) : Int)), (39, .int .i64 (j : Int))] ∧ Mem wc w' (.blk b2 #[pB bd] 38 :: .blk b3 #[pB bW] 196 :: stB bW (ckSu x n) a9 (sv h ps (ckSu x n) j (S0, n)).2 h 0 (.slice da2 ps.length dc2) :: ((F ++ (rowE rlo rhi 64 1 (.slice ra (12 + ps.length) rc) (12 + ps.length) fc :: rowE lo2 hi2 75 6 (.slice da2 ps.length dc2) ps.length cs2 :: stB bX x a9 n h k dv :: .blk bZ (zSt.cellsL (.slice none 0 0)).toArray 57 :: (es2 ++ A))) ++ E'))) (12 + ps.length) ?_ ?_
  · skip
    exact ⟨0, E, Nat.zero_le _, rfl, hE, S.sub _ rfl, M⟩
  clear S M a; intro m a wl
  rintro ⟨j, E', hj, rfl, hE', S, M⟩
  refine nxD ?_
  refine st_go [1] S rfl (by kernel_rfl) ?_; clear S a; intro a S
  refine nxC ?_
  refine wp_seq ?_
  refine st_fi (t := 40) S rfl ?_ ?_
  · clear S; intro h40 S
    refine st_condF S rfl ?_
    refine wp_exit ?_
    refine then_exit ?_
    refine then_exit ?_
    refine block_hit ?_
    refine then_normal ?_
    refine wp_seq ?_
    refine nxD ?_
    refine st_go [1, 1] S rfl (by kernel_rfl) ?_; clear S a; intro a S
    refine nxC ?_
    refine st_if (t := 49) S rfl ?_ ?_
    · clear S; intro h49 S
      exact absurd rfl h49
    clear S; intro h49 S
    refine st_condF S rfl ?_
    refine wp_skip ?_
    refine then_normal ?_
    refine wp_seq ?_
    obtain rfl : j = 12 + ps.length := by omega
    have M9 := M.sub sub_finS
    clear M; have M := M9; clear M9
    have hnn : (sv h ps (ckSu x n) (12 + ps.length) (S0, n)).2 = n + (wtP ps : Nat) := by
      rw [sv_n, List.take_of_length_le (by omega)]
    rw [hnn] at M
    refine wp_region_lit ?_
    refine st_go [1, 2] S rfl (by kernel_rfl) ?_; clear S a; intro a S
    refine st_y S rfl rfl rfl (y_load S (by kernel_rfl) rfl (M.cell 0 rfl (stX_tl _ _ _ _ _ _))) ?_; clear S a; intro a S
    refine st_go [14, 1] S rfl (by kernel_rfl) ?_; clear S a; intro a S
    refine st_store (sz := 1) (us := [_]) S M 0 rfl (by kernel_rfl) rfl rfl rfl rfl rfl rfl (by rw [St.len (stX_ok _ _ _ _ hl)]; exact (by decide : 14 ≤ 273)) ?_; clear M; intro w14 M
    simp only [putL, List.set_cons_zero, List.set_cons_succ, Nat.reduceAdd] at M
    refine nxC ?_
    refine wp_seq ?_
    rw [stX_set13] at M
    refine wp_region_lit ?_
    refine st_y S rfl rfl rfl (y_loadAgg (k := 273) (cs := _) S (by kernel_rfl) rfl (by with_reducible first | exact St.len hok _ | exact St.len zSt_ok _ | exact St.len (stX_ok _ _ _ _ hl) _) (M.cellsAt 0 rfl cutL_all)) ?_; clear S a; intro a S
    refine st_storeAll (sz := 273) S M 2 rfl (by kernel_rfl) rfl rfl (by with_reducible first | exact St.len hok _ | exact St.len zSt_ok _ | exact St.len (stX_ok _ _ _ _ hl) _) (by with_reducible first | exact St.one hok _ rfl | exact St.one zSt_ok _ rfl | exact St.one (stX_ok _ _ _ _ hl) _ rfl) rfl (by with_reducible first | exact St.len hok _ | exact St.len zSt_ok _ | exact St.len (stX_ok _ _ _ _ hl) _) ?_; clear M; intro w15 M
    simp only [List.set_cons_zero, List.set_cons_succ] at M
    refine st_go [1] S rfl (by kernel_rfl) ?_; clear S a; intro a S
    refine nxC ?_
    refine wp_ret ?_
    refine sc_ret ?_
    refine end_two S rfl (res_agg (k := 273) (cs := _) (by kernel_rfl) rfl (by with_reducible first | exact St.len hok _ | exact St.len zSt_ok _ | exact St.len (stX_ok _ _ _ _ hl) _) (M.cellsAt 2 rfl cutL_all)) (res_tmp rfl) ?_
    exact ⟨da2, dc2, lo2, hi2, cs2, es2, E', rfl, hE', hBk, M.sub (.cons _ (.cons_cons _ (.cons _ (List.Sublist.refl _))))⟩
  clear S; intro h40 S
  refine st_condT S rfl ?_
  refine wp_skip ?_
  refine then_normal ?_
  refine wp_seq ?_
  refine wp_block ?_
  refine wp_seq ?_
  have hjl : j < fc.length := by rw [hSB.len]; omega
  obtain ⟨v, hv⟩ : ∃ v, fc[j]? = some v := ⟨_, List.getElem?_eq_getElem hjl⟩
  have hnle := sv_n_le (h := h) (ps := ps) (x := ckSu x n) (S0 := S0) (n := n) j
  have hnge := sv_n_ge (h := h) (ps := ps) (x := ckSu x n) (S0 := S0) (n := n) j
  have hlg' := hlg
  unfold mayL at hlg'
  obtain ⟨f, ca, rfl, hEn, hCall⟩ := stepJ_any (ckSu x n) a9 _ h 0 _ cs2 ps j v (hSB.get j v hv) hE' M ⟨by rw [sv_down]; exact hup, fun k => by have := sv_cache h (ckSu x n) (S0, n) hmq (c := 10000) hw j k; omega, hl, hmay, by unfold mayL; omega, by omega, hmq, fun i q he hq => by subst he; exact sv_room hq hroom⟩ hBk (fun e he => List.mem_cons_of_mem _ (List.mem_cons_of_mem _ (List.mem_cons_of_mem _ (List.mem_cons_of_mem _ (List.mem_append_left _ he)))))
  refine wp_region_lit ?_
  refine st_y S rfl rfl rfl (y_indexR (e := 64) (sz := 1) S (by kernel_rfl) rfl ((M.readIn (.tail _ (.tail _ (.tail _ (List.mem_append_left _ (List.mem_append_right _ (.head _)))))) (by unfold maxLen; omega))) rfl (by first | omega | (simp; done) | (simp; omega))) ?_; clear S a; intro a S
  try simp only [Int.toNat_natCast, Nat.mul_one, Nat.zero_add] at S
  refine st_y S rfl rfl rfl (y_load S (by kernel_rfl) rfl ((M.readIn (.tail _ (.tail _ (.tail _ (List.mem_append_left _ (List.mem_append_right _ (.head _)))))) (by unfold maxLen; omega)).at_.one j hv)) ?_; clear S a; intro a S
  refine st_go [1] S rfl (by kernel_rfl) ?_; clear S a; intro a S
  refine nxA ?_
  refine st_go [1] S rfl (by kernel_rfl) ?_; clear S a; intro a S
  refine st_callB (xs := []) (fi := []) (ca := ca) S (hEn) rfl rfl (rfl) rfl (hCall) ?_
  rintro _ w13 ⟨rfl, E2, hE2, M1⟩; refine ⟨_, rfl, ?_⟩; clear S M a hCall; intro a S; have M := M1; clear M1
  refine st_go [1] S rfl (by kernel_rfl) ?_; clear S a; intro a S
  refine nxA ?_
  refine st_go [1, 1] S rfl (by kernel_rfl) ?_; clear S a; intro a S
  refine nxC ?_
  refine st_if (t := 46) S rfl ?_ ?_
  · clear S; intro h46 S
    exact absurd rfl h46
  clear S; intro h46 S
  refine st_condF S rfl ?_
  refine wp_skip ?_
  refine block_normal ?_
  refine nxF ?_
  (first | refine st_y S rfl rfl rfl (y_addN S rfl rfl (by omega)) ?_ | refine st_y S rfl rfl rfl (y_int S rfl rfl rfl) ?_); clear S a; intro a S
  refine st_go [1] S rfl (by kernel_rfl) ?_; clear S a; intro a S
  refine nxC ?_
  exact ⟨12 + ps.length - (j + 1), by omega, j + 1, E2, by omega, rfl, hE2, S.sub _ rfl, M⟩
end Go.Proofs.YtndabhdepjnbcaaGreat

namespace Go.Proofs.YtndabhdepjnbcaaGreat
open Go.RowKit Go.Sort
/-- a store, plainly -/
structure Sh where
  x : Su
  a : Int
  n : Int
  h : List V8
  k : Int
  ps : Pl
abbrev Sh.st (s : Sh) : St := stX s.x s.a s.n s.h s.k
def shC (bd : Nat) (s : Sh) (dv : Value) : List Value := [pB bd] ++ (s.st.cellsL dv ++ [])
abbrev shE (b bd : Nat) (s : Sh) (dv : Value) : Ent := .blk b (shC bd s dv).toArray 82
/-- a store and its disk in memory -/
def ShM (wc w : World) (A : List Ent) (b bd : Nat) (s : Sh) (S : DS) : Prop := ∃ (da : Option Addr) (dc lo hi : Nat) (cs : List Value) (es E : List Ent), DkE bd S E ∧ PrBk cs s.ps es ∧
  Mem wc w (shE b bd s (.slice da s.ps.length dc) :: rowE lo hi 75 6 (.slice da s.ps.length dc) s.ps.length cs :: (es ++ (A ++ E)))
def Sh.keep (s : Sh) (r : Rc) (x : List Wr) : Sh := ⟨{ s.x with owned := ownP s.x.owned s.ps r }, s.a, s.n + (nOf (r.enc x).length : Nat), onF s.h (stepO s.ps r x).2, IntKind.i64.wrap (s.k + 1), (stepO s.ps r x).1⟩
def Sh.keepD (s : Sh) (S : DS) (r : Rc) (x : List Wr) (fl : Bool) : DS := if fl = true then (putF S (cutF (r.enc x) s.n s.x.inc)).flush else putF S (cutF (r.enc x) s.n s.x.inc)
def Sh.save (s : Sh) : Sh := ⟨ckSu s.x s.n, s.n, s.n + (wtP s.ps : Nat), s.h, 0, s.ps⟩
def Sh.saveD (s : Sh) (S : DS) : DS := (sv s.h s.ps (ckSu s.x s.n) (12 + s.ps.length) (S, s.n)).1
/-- a store that can go on: N tells how far it has got -/
structure ShI (S : DS) (s : Sh) (N : Int) : Prop where
  up : S.down = false
  cache : ∀ k, ((S.cache k).length : Int) ≤ 5 * N
  hl : s.h.length = 32
  mq : ∀ q ∈ s.ps, mayQ q
  may : s.x.may
  lg : mayL s.a s.n
  nx : s.n ≤ 20 * N
  gen : s.x.gen ≤ N
  few : N ≤ 1000
  w8 : wtP s.ps + s.ps.length ≤ 8
  room : s.n + ((wtP s.ps + s.ps.length : Nat) : Int) ≤ s.a + 24
theorem len1S (v : Value) : [v].length = 0 + 1 := rfl
theorem shC_len {bd : Nat} {s : Sh} {dv : Value} (hl : s.h.length = 32) : (shC bd s dv).length = 274 := by
  unfold shC; rw [List.length_append, List.length_append, St.len (stX_ok _ _ _ _ hl)]; rfl
theorem shC_inc (bd : Nat) (s : Sh) (dv : Value) : (shC bd s dv).toArray[4]? = some (.int .i64 s.x.inc) := rfl
theorem shC_d (bd : Nat) (s : Sh) (dv : Value) : (shC bd s dv).toArray[0]? = some (pB bd) := rfl
theorem shC_log (bd : Nat) (s : Sh) (dv : Value) : cutL (shC bd s dv).toArray.toList 14 2 = some [.int .i64 s.a, .int .i64 s.n] :=
  cutL_mid [pB bd, .int .i64 s.x.gen, .int .i64 s.x.tail, .int .i64 s.x.owned, .int .i64 s.x.inc, .int .i64 s.x.bound, .int .i64 s.x.m0, .int .i64 s.x.m1, .int .i64 s.x.m2, .int .i64 s.x.m3, .int .i64 s.x.m4, .int .i64 s.x.m5, .int .i64 s.x.m6, .int .i64 s.x.m7] [.int .i64 s.a, .int .i64 s.n] ((hcells s.h ++ [dv, .int .i64 s.k]) ++ [])
theorem shC_doubt {bd : Nat} {s : Sh} {dv : Value} (hl : s.h.length = 32) : (shC bd s dv).toArray[272]? = some dv := by
  have h := St.doubt (stX_ok s.x s.a s.n s.k hl) dv
  rw [List.getElem?_toArray] at h ⊢
  unfold shC
  rw [List.getElem?_append_right (by show 1 ≤ 272; omega)]
  show ((s.st.cellsL dv ++ []))[271]? = _
  rw [List.append_nil]; exact h
theorem shC_put {bd : Nat} {s s' : Sh} {dv dv' : Value} (hl : s.h.length = 32) (hl' : s'.h.length = 32) : putL (shC bd s dv) 1 (s'.st.cellsL dv') = shC bd s' dv' := by
  have l1 : (s.st.cellsL dv).length = 273 := St.len (stX_ok _ _ _ _ hl) _
  have l2 : (s'.st.cellsL dv').length = 273 := St.len (stX_ok _ _ _ _ hl') _
  rw [putL_eq _ _ _ (by rw [shC_len hl, l2]; exact Nat.le_refl _), l2, List.drop_of_length_le (by rw [shC_len hl]; exact Nat.le_refl _)]
  unfold shC
  rw [List.append_nil, List.append_nil, List.append_nil]; rfl
theorem DoubtRd {wc w : World} {A E es pre : List Ent} {lo hi : Nat} {da : Option Addr} {dc : Nat} {cs : List Value} {ps : Pl} (hB : PrBk cs ps es) (hps : ps.length ≤ 1000) (M : Mem wc w (pre ++ (rowE lo hi 75 6 (.slice da ps.length dc) ps.length cs :: (es ++ (A ++ E))))) : PrsC cs 0 w.heap.size w (.slice da ps.length dc) ps :=
  (hB.prs M (List.mem_append_right _ (.head _)) (fun e he => List.mem_append_right _ (.tail _ (List.mem_append_left _ he))) (by unfold maxLen; omega)).wide (Nat.zero_le _) (Nat.le_refl _)
theorem save_perm {α : Type} {X D D2 : α} {P es es2 A E : List α} : (D2 :: (es2 ++ ((P ++ (X :: D :: (es ++ A))) ++ E))).Perm (P ++ (X :: D2 :: ((es2 ++ (A ++ E)) ++ (D :: es)))) := by
  have e : (P ++ (X :: D :: (es ++ A))) ++ E = (P ++ [X]) ++ (D :: (es ++ (A ++ E))) := by simp
  have e2 : P ++ (X :: D2 :: ((es2 ++ (A ++ E)) ++ (D :: es))) = (P ++ [X]) ++ (D2 :: ((es2 ++ (A ++ E)) ++ (D :: es))) := by simp
  rw [e, e2]
  refine perm_preS.trans (List.Perm.append_left _ (List.Perm.cons _ ?_))
  rw [List.append_assoc]
  refine List.Perm.append_left es2 ?_
  have e3 : D :: (es ++ (A ++ E)) = (D :: es) ++ (A ++ E) := rfl
  rw [e3]
  exact List.perm_append_comm
set_option maxHeartbeats 1000000 in
set_option maxRecDepth 10000 in
theorem saveS_any {wc w : World} {A : List Ent} {b bd : Nat} {s : Sh} {S0 : DS} {N : Int} (hM : ShM wc w A b bd s S0) (hI : ShI S0 s N) :
    Calls Tryz.prog 35 #[pB b] w fun e w' => e = .returned (.int .i64 0) ∧ ShM wc w' A b bd s.save (s.saveD S0) := by
  obtain ⟨da, dc, lo, hi, cs, es, E, hE, hBk, M⟩ := hM
  obtain ⟨hup, hca, hl, hmq, hmay, hlg, hnx, hgen, hfew, hw8, hroom⟩ := hI
  have hps : s.ps.length ≤ 8 := by omega
  have hok := stX_ok s.x s.a s.n s.k hl
  have hlg' := hlg
  unfold mayL at hlg'
  have hmay2 : (ckSu s.x s.n).may := by
    obtain ⟨h0, h1, h2, h3, h4, h5, h6, h7, h8, h9, h10⟩ := hmay
    refine ⟨h0, ?_⟩
    simp only [ckSu]; omega
  have hl2 : s.save.h.length = 32 := hl
  have hok2 : s.save.st.ok := stX_ok _ _ _ _ hl2
  refine calls_enter Tryz.func35 rfl 24 rfl rfl ?_; intro a S
  refine wp_seq ?_
  skip
  refine wp_region_lit ?_
  refine st_go [1] S rfl (by kernel_rfl) ?_; clear S a; intro a S
  refine nxC ?_
  refine wp_cut (fun a w' => ∃ (bZ : Nat) (da2 : Option Addr) (dc2 lo2 hi2 : Nat) (cs2 : List Value) (es2 E2 : List Ent), DkE bd (s.saveD S0) E2 ∧ PrBk cs2 s.ps es2 ∧ Sees 24 a [(0, pB b), (3, pB bZ), (4, .int .i64 0)] ∧ Mem wc w' (.blk bZ (s.save.st.cellsL (.slice da2 s.ps.length dc2)).toArray 57 :: shE b bd s (.slice da s.ps.length dc) :: rowE lo2 hi2 75 6 (.slice da2 s.ps.length dc2) s.ps.length cs2 :: ((es2 ++ (A ++ E2)) ++ (rowE lo hi 75 6 (.slice da s.ps.length dc) s.ps.length cs :: es)))) ?_ ?_
  · skip
    refine wp_regionK [8, 13] #[false, false, false, false, false, false, false, false, false, false, false, false, false, false, false] rfl M (by kernel_rfl) ?_; clear M; intro w1 M
    refine k_pure 0 S rfl (fun w => y_move S rfl) ?_; clear S a; intro a S
    refine k_pure 1 S rfl (fun w => y_nilCheck S rfl) ?_; clear S a; intro a S
    refine k_pure 2 S rfl (fun w => y_fieldAddr (k := 0) S (by kernel_rfl) rfl) ?_; clear S a; intro a S
    refine k_read 3 S rfl (fun w hW => have M := M.grow hW; y_load S (by kernel_rfl) rfl (M.cell 0 rfl (shC_d _ _ _))) ?_; clear S a; intro a S
    refine k_pure 4 S rfl (fun w => y_move S rfl) ?_; clear S a; intro a S
    refine k_pure 5 S rfl (fun w => y_nilCheck S rfl) ?_; clear S a; intro a S
    refine k_pure 6 S rfl (fun w => y_fieldAddr (k := 1) S (by kernel_rfl) rfl) ?_; clear S a; intro a S
    refine k_read 7 S rfl (fun w hW => have M := M.grow hW; y_loadAgg (k := 273) S (by kernel_rfl) rfl (by with_reducible first | exact St.len hok _ | exact St.len hok2 _ | exact St.len zSt_ok _ | exact shC_len hl | exact St.len (stX_ok _ _ _ _ hl) _ | exact len1S _) (M.cellsMid 0 rfl (by with_reducible first | exact St.len hok _ | exact St.len hok2 _ | exact St.len zSt_ok _ | exact shC_len hl | exact St.len (stX_ok _ _ _ _ hl) _ | exact len1S _))) ?_; clear S a; intro a S
    refine k_two 8 12 rfl rfl (by kernel_rfl) ?_ ?_
    · skip
      refine st_call (xs := [(Operand.tmp 9), (Operand.tmp 13)]) S (enters_of Tryz.func59 (by decide) rfl) rfl rfl rfl (save9_any (A :=  _ :: _ :: (es ++ A)) s.x s.a s.n s.h s.k (.slice da s.ps.length dc) cs s.ps hE (by simpa only [List.cons_append, List.append_assoc] using M) (fun W H' M9 => DoubtRd (A := A) (E := E) (pre := H' ++  [_]) hBk (by omega) (by simpa only [List.cons_append, List.nil_append, List.append_assoc] using M9)) (by omega) (fun i q hq => by have := hmq q (List.mem_of_getElem? hq); exact hBk.short i q hq) hup (fun k => by have := hca k; omega) hl hmq hlg (by omega) hmay2 (by have := hmay.2.1; omega) (by omega)) ?_
      rintro _ w2 ⟨da2, dc2, lo2, hi2, cs2, es2, E2, rfl, hE2, hBk2, M1⟩; refine ⟨_, rfl, ?_⟩; clear S M a; intro a S
      have M := M1.perm (save_perm (P :=  []))
      clear M1
      simp only [List.cons_append, List.nil_append] at M
      refine wpList_nil ?_; refine then_normal ?_; refine ⟨fun h => absurd h (by decide), ?_⟩
      refine k_pure 9 S rfl (fun w => y_move S rfl) ?_; clear S a; intro a S
      refine k_pure 10 S rfl (fun w => y_extract S rfl rfl) ?_; clear S a; intro a S
      refine k_pure 11 S rfl (fun w => y_extract S rfl rfl) ?_; clear S a; intro a S
      refine k_one 12 rfl (by kernel_rfl) ?_
      refine st_alloc S M rfl rfl (zSt.cellsL (.slice none 0 0)).toArray (by kernel_rfl) ?_; clear S M a; intro a w3 bZ S M hB
      refine wpList_nil ?_; refine then_normal ?_; refine ⟨fun _ => hB, ?_⟩
      refine k_one 13 rfl (by kernel_rfl) ?_
      refine st_storeAll (sz := 273) S M 0 rfl (by kernel_rfl) rfl rfl (by with_reducible first | exact St.len hok _ | exact St.len hok2 _ | exact St.len zSt_ok _ | exact shC_len hl | exact St.len (stX_ok _ _ _ _ hl) _ | exact len1S _) (by with_reducible first | exact St.one hok _ rfl | exact St.one hok2 _ rfl | exact St.one zSt_ok _ rfl | exact St.one (stX_ok _ _ _ _ hl) _ rfl) rfl (by with_reducible first | exact St.len hok _ | exact St.len hok2 _ | exact St.len zSt_ok _ | exact shC_len hl | exact St.len (stX_ok _ _ _ _ hl) _ | exact len1S _) ?_; clear M; intro w4 M
      simp only [List.set_cons_zero, List.set_cons_succ] at M
      refine wpList_nil ?_; refine then_normal ?_; refine ⟨fun h => absurd h (by decide), ?_⟩
      refine k_pure 14 S rfl (fun w => y_assign S rfl) ?_; clear S a; intro a S
      refine k_end (by kernel_rfl) ?_
      refine then_normal ?_
      skip
      replace M := M.ord [2, 2, 2] (by simp only [ordO, oG, oS, oE, oZ, oB] <;> rfl)
      exact ⟨_, da2, dc2, lo2, hi2, cs2, es2, E2, hE2, hBk2, S.sub _ rfl, M⟩
    · skip
      refine st_alloc S M rfl rfl (zSt.cellsL (.slice none 0 0)).toArray (by kernel_rfl) ?_; clear S M a; intro a w5 bZ S M hB
      refine wpList_nil ?_; refine then_normal ?_; refine ⟨fun _ => hB, ?_⟩
      refine k_one 8 rfl (by kernel_rfl) ?_
      refine st_call (xs := [(Operand.tmp 9), (Operand.tmp 13)]) S (enters_of Tryz.func59 (by decide) rfl) rfl rfl rfl (save9_any (A := _ ::  _ :: _ :: (es ++ A)) s.x s.a s.n s.h s.k (.slice da s.ps.length dc) cs s.ps hE (by simpa only [List.cons_append, List.append_assoc] using M) (fun W H' M9 => DoubtRd (A := A) (E := E) (pre := H' ++ _ ::  [_]) hBk (by omega) (by simpa only [List.cons_append, List.nil_append, List.append_assoc] using M9)) (by omega) (fun i q hq => by have := hmq q (List.mem_of_getElem? hq); exact hBk.short i q hq) hup (fun k => by have := hca k; omega) hl hmq hlg (by omega) hmay2 (by have := hmay.2.1; omega) (by omega)) ?_
      rintro _ w6 ⟨da2, dc2, lo2, hi2, cs2, es2, E2, rfl, hE2, hBk2, M1⟩; refine ⟨_, rfl, ?_⟩; clear S M a; intro a S
      have M := M1.perm (save_perm (P := _ ::  []))
      clear M1
      simp only [List.cons_append, List.nil_append] at M
      refine wpList_nil ?_; refine then_normal ?_; refine ⟨fun h => absurd h (by decide), ?_⟩
      refine k_pure 9 S rfl (fun w => y_move S rfl) ?_; clear S a; intro a S
      refine k_pure 10 S rfl (fun w => y_extract S rfl rfl) ?_; clear S a; intro a S
      refine k_pure 11 S rfl (fun w => y_extract S rfl rfl) ?_; clear S a; intro a S
      refine k_one 13 rfl (by kernel_rfl) ?_
      refine st_storeAll (sz := 273) S M 0 rfl (by kernel_rfl) rfl rfl (by with_reducible first | exact St.len hok _ | exact St.len hok2 _ | exact St.len zSt_ok _ | exact shC_len hl | exact St.len (stX_ok _ _ _ _ hl) _ | exact len1S _) (by with_reducible first | exact St.one hok _ rfl | exact St.one hok2 _ rfl | exact St.one zSt_ok _ rfl | exact St.one (stX_ok _ _ _ _ hl) _ rfl) rfl (by with_reducible first | exact St.len hok _ | exact St.len hok2 _ | exact St.len zSt_ok _ | exact shC_len hl | exact St.len (stX_ok _ _ _ _ hl) _ | exact len1S _) ?_; clear M; intro w7 M
      simp only [List.set_cons_zero, List.set_cons_succ] at M
      refine wpList_nil ?_; refine then_normal ?_; refine ⟨fun h => absurd h (by decide), ?_⟩
      refine k_pure 14 S rfl (fun w => y_assign S rfl) ?_; clear S a; intro a S
      refine k_end (by kernel_rfl) ?_
      refine then_normal ?_
      skip
      replace M := M.ord [2, 2, 2] (by simp only [ordO, oG, oS, oE, oZ, oB] <;> rfl)
      exact ⟨_, da2, dc2, lo2, hi2, cs2, es2, E2, hE2, hBk2, S.sub _ rfl, M⟩
  clear S a M; intro a wc
  rintro ⟨bZ, da2, dc2, lo2, hi2, cs2, es2, E2, hE2, hBk2, S, M⟩
  refine wp_seq ?_
  refine nxD ?_
  refine st_go [1, 1] S rfl (by kernel_rfl) ?_; clear S a; intro a S
  refine nxC ?_
  refine st_if (t := 18) S rfl ?_ ?_
  · clear S; intro h18 S
    exact absurd rfl h18
  clear S; intro h18 S
  refine st_condF S rfl ?_
  refine wp_skip ?_
  refine nxE ?_
  refine st_go [1] S rfl (by kernel_rfl) ?_; clear S a; intro a S
  refine st_y S rfl rfl rfl (y_loadAgg (k := 273) (cs := _) S (by kernel_rfl) rfl (by with_reducible first | exact St.len hok _ | exact St.len hok2 _ | exact St.len zSt_ok _ | exact shC_len hl | exact St.len (stX_ok _ _ _ _ hl) _ | exact len1S _) (M.cellsAt 0 rfl cutL_all)) ?_; clear S a; intro a S
  refine st_go [1, 2] S rfl (by kernel_rfl) ?_; clear S a; intro a S
  refine st_store (o := 1) (sz := 273) (us := s.save.st.cellsL (.slice da2 s.ps.length dc2)) S M 1 rfl (by kernel_rfl) rfl rfl rfl (St.len hok2 _) (St.one hok2 _ rfl) rfl (by rw [shC_len hl, St.len hok2]; exact Nat.le_refl _) ?_; clear M; intro wz M
  simp only [List.set_cons_zero, List.set_cons_succ] at M
  rw [shC_put hl hl2] at M
  refine nxA ?_
  refine st_go [1] S rfl (by kernel_rfl) ?_; clear S a; intro a S
  refine nxC ?_
  refine wp_ret ?_
  refine end_one S rfl (res_tmp rfl) ?_
  exact ⟨rfl, da2, dc2, lo2, hi2, cs2, es2, E2, hE2, hBk2, M.sub (.cons _ (.cons_cons _ (.cons_cons _ (List.sublist_append_left _ _))))⟩
end Go.Proofs.YtndabhdepjnbcaaGreat

namespace Go.Proofs.YtndabhdepjnbcaaGreat
open Go.RowKit Go.Sort
def Sh.app (s : Sh) (r : Rc) (x : List Wr) : Sh := ⟨{ s.x with owned := ownP s.x.owned s.ps r }, s.a, s.n, onF s.h (stepO s.ps r x).2, IntKind.i64.wrap (s.k + 1), (stepO s.ps r x).1⟩
set_option maxHeartbeats 1000000 in
set_option maxRecDepth 10000 in
theorem keepS_any {wc w : World} {A : List Ent} {b bd : Nat} {s : Sh} {S0 : DS} {N : Int} (r : Rc) (va : Option Addr) (vc : Nat) (x : List Wr) (fl : Bool) (hM : ShM wc w A b bd s S0) (hI : ShI S0 s N) (hs : r.shards ≤ 9223372036854775807) (hW : ∀ W, Mem wc W A → Ws 0 W.heap.size W (.slice va x.length vc) x) (hx : x.length ≤ 1000000)
    (htk : takes r x = true) (hm : r.may x = true) (hroom : s.n + (nOf (r.enc x).length : Nat) ≤ s.a + 24) :
    Calls Tryz.prog 33 #[pB b, .agg (r.cells (.slice va x.length vc)), .bool fl] w fun e w' => e = .returned (.int .i64 0) ∧ ShM wc w' A b bd (s.keep r x) (s.keepD S0 r x fl) := by
  obtain ⟨da, dc, lo, hi, cs, es, E, hE, hBk, M⟩ := hM
  obtain ⟨hup, hca, hl, hmq, hmay, hlg, hnx, hgen, hfew, hw8, hrm⟩ := hI
  have hps : s.ps.length ≤ 8 := by omega
  have hok := stX_ok s.x s.a s.n s.k hl
  have hlA : (s.app r x).h.length = 32 := by show (onF _ _).length = 32; rw [onF_length]; exact hl
  have hokA : (s.app r x).st.ok := stX_ok _ _ _ _ hlA
  have hlK : (s.keep r x).h.length = 32 := hlA
  have hokK : (s.keep r x).st.ok := stX_ok _ _ _ _ hlK
  have hlg' := hlg
  unfold mayL at hlg'
  have hinc : 0 ≤ s.x.inc ∧ s.x.inc ≤ 1048576 := ⟨hmay.2.2.2.2.2.2.2.1, hmay.2.2.2.2.2.2.2.2.1⟩
  have hel := enc_len hm
  have hsl := stepP_len s.ps r x
  have hA : ∀ W H9, Mem wc W (H9 ++ (es ++ (A ++ E))) → Ws 0 W.heap.size W (.slice va x.length vc) x := fun W H9 M9 => hW W (M9.sub (((List.sublist_append_left A E).trans (List.sublist_append_right es _)).trans (List.sublist_append_right H9 _)))
  refine calls_enter Tryz.func33 rfl 67 rfl rfl ?_; intro a S
  refine wp_seq ?_
  skip
  refine wp_region_lit ?_
  refine st_box S M rfl rfl rfl #[_, _, _, _, _, _, _, _, _, _, _, _] rfl ?_; clear S M a; intro a w1 bRr S M hB
  refine st_go [1] S rfl (by kernel_rfl) ?_; clear S a; intro a S
  refine nxA ?_
  refine st_y S rfl rfl rfl (y_loadAgg (cs := [_, _, _, _, _, _, _, _, _, _, _, _]) S (by kernel_rfl) rfl rfl (M.cellsAt (k := 12) 0 rfl rfl)) ?_; clear S a; intro a S
  refine st_call (xs := [(Operand.tmp 11)]) S (enters_of Tryz.func54 (by decide) rfl) rfl rfl rfl (bytesR_any r va x.length vc x _ hs (hA _ [_, _, _] M)) ?_
  rintro _ w2 ⟨v1, rfl, hK, hF, -⟩; refine ⟨_, rfl, ?_⟩; clear S a; intro a S
  have hF := hF hm
  rw [if_pos hm] at S
  obtain ⟨lo3, hi3, -, M1⟩ := M.pushFresh hF; clear M; have M := M1; clear M1
  refine st_go [1, 1, 1, 1, 1] S rfl (by kernel_rfl) ?_; clear S a; intro a S
  refine nxC ?_
  refine wp_seq ?_
  refine nxD ?_
  refine st_go [1, 1] S rfl (by kernel_rfl) ?_; clear S a; intro a S
  refine nxC ?_
  refine st_if (t := 16) S rfl ?_ ?_
  · clear S; intro h16 S
    exact absurd rfl h16
  clear S; intro h16 S
  refine st_condF S rfl ?_
  refine wp_skip ?_
  refine then_normal ?_
  refine wp_cut (fun a w' => ∃ (bZ bRr : Nat) (da2 : Option Addr) (dc2 lo2 hi2 : Nat) (cs2 : List Value) (es2 : List Ent), PrBk cs2 (s.app r x).ps es2 ∧ Sees 67 a [(0, pB b), (2, .bool fl), (7, v1), (9, pB bZ), (8, .int .i64 0)] ∧ Mem wc w' (.blk bZ ((s.app r x).st.cellsL (.slice da2 (s.app r x).ps.length dc2)).toArray 57 :: rowE lo3 hi3 5 1 v1 (r.enc x).length (bcells (r.enc x)) :: .blk bRr (r.cells (.slice va x.length vc)) 30 :: shE b bd s (.slice da s.ps.length dc) :: rowE lo hi 75 6 (.slice da s.ps.length dc) s.ps.length cs :: rowE lo2 hi2 75 6 (.slice da2 (s.app r x).ps.length dc2) (s.app r x).ps.length cs2 :: (es2 ++ (es ++ (A ++ E))))) ?_ ?_
  · skip
    refine wp_regionK [10] #[false, false, false, false, false, false, false, false, false, false, false, false] rfl M (by kernel_rfl) ?_; clear M; intro w3 M
    refine k_pure 0 S rfl (fun w => y_move S rfl) ?_; clear S a; intro a S
    refine k_pure 1 S rfl (fun w => y_nilCheck S rfl) ?_; clear S a; intro a S
    refine k_pure 2 S rfl (fun w => y_fieldAddr (k := 1) S (by kernel_rfl) rfl) ?_; clear S a; intro a S
    refine k_read 3 S rfl (fun w hW => have M := M.grow hW; y_loadAgg (k := 273) S (by kernel_rfl) rfl (by with_reducible first | exact St.len hok _ | exact St.len hokA _ | exact St.len hokK _ | exact St.len zSt_ok _ | exact shC_len hl | exact len1S _) (M.cellsMid 2 rfl (by with_reducible first | exact St.len hok _ | exact St.len hokA _ | exact St.len hokK _ | exact St.len zSt_ok _ | exact shC_len hl | exact len1S _))) ?_; clear S a; intro a S
    refine k_read 4 S rfl (fun w hW => have M := M.grow hW; y_loadAgg (cs := [_, _, _, _, _, _, _, _, _, _, _, _]) S (by kernel_rfl) rfl rfl (M.cellsAt (k := 12) 1 rfl rfl)) ?_; clear S a; intro a S
    refine k_two 5 9 rfl rfl (by kernel_rfl) ?_ ?_
    · skip
      refine st_call (xs := [(Operand.tmp 22), (Operand.tmp 23)]) S (enters_of Tryz.func41 (by decide) rfl) rfl rfl rfl (apply_any s.st hok (.slice da s.ps.length dc) cs s.ps _ (DoubtRd (A := A) (E := E) (pre := _ :: _ :: _ ::  []) hBk (by omega) M) (by omega) hBk.short r va vc x (hA _ (_ :: _ :: _ ::  [_]) M) hx hs) ?_
      rintro _ w4 hAp; obtain ⟨s2, ps2, c2, da2, dc2, lo2, hi2, cs2, es2, rfl, hs2, M2, hBk2, hc2⟩ := apply_form hAp (by omega); refine ⟨_, rfl, ?_⟩; clear S a hAp; intro a S; have hK := M2.below
      obtain ⟨rfl, rfl, rfl⟩ : c2 = 0 ∧ s2 = (s.app r x).st ∧ ps2 = (s.app r x).ps := by
        rcases hc2 with ⟨-, h1, h2, h3⟩ | ⟨h1, -⟩
        · exact ⟨h1, h2, h3⟩
        · rw [htk] at h1; cases h1
      have M1 := (M.join M2).perm (perm_preS (P := _ :: _ :: _ ::  [_]))
      clear M; have M := M1; clear M1 M2
      simp only [List.cons_append, List.nil_append] at M
      refine wpList_nil ?_; refine then_normal ?_; refine ⟨fun _ => hK, ?_⟩
      refine k_pure 6 S rfl (fun w => y_move S rfl) ?_; clear S a; intro a S
      refine k_pure 7 S rfl (fun w => y_extract S rfl rfl) ?_; clear S a; intro a S
      refine k_pure 8 S rfl (fun w => y_extract S rfl rfl) ?_; clear S a; intro a S
      refine k_one 9 rfl (by kernel_rfl) ?_
      refine st_alloc S M rfl rfl (zSt.cellsL (.slice none 0 0)).toArray (by kernel_rfl) ?_; clear S M a; intro a w5 bZ S M hB
      refine wpList_nil ?_; refine then_normal ?_; refine ⟨fun _ => hB, ?_⟩
      refine k_one 10 rfl (by kernel_rfl) ?_
      refine st_storeAll (sz := 273) S M 0 rfl (by kernel_rfl) rfl rfl (by with_reducible first | exact St.len hok _ | exact St.len hokA _ | exact St.len hokK _ | exact St.len zSt_ok _ | exact shC_len hl | exact len1S _) (by with_reducible first | exact St.one hok _ rfl | exact St.one hokA _ rfl | exact St.one hokK _ rfl | exact St.one zSt_ok _ rfl) rfl (by with_reducible first | exact St.len hok _ | exact St.len hokA _ | exact St.len hokK _ | exact St.len zSt_ok _ | exact shC_len hl | exact len1S _) ?_; clear M; intro w6 M
      simp only [List.set_cons_zero, List.set_cons_succ] at M
      refine wpList_nil ?_; refine then_normal ?_; refine ⟨fun h => absurd h (by decide), ?_⟩
      refine k_pure 11 S rfl (fun w => y_assign S rfl) ?_; clear S a; intro a S
      refine k_end (by kernel_rfl) ?_
      replace S := S.sub [(0, _), (1, _), (2, _), (4, _), (6, _), (7, _), (16, _), (9, _), (8, _)] rfl
      refine then_normal ?_
      skip
      replace M := M.ord [4, 4, 4, 4, 4] (by simp only [ordO, oG, oS, oE, oZ, oB] <;> rfl)
      exact ⟨_, _, da2, dc2, lo2, hi2, cs2, es2, hBk2, S.sub _ rfl, M⟩
    · skip
      refine st_alloc S M rfl rfl (zSt.cellsL (.slice none 0 0)).toArray (by kernel_rfl) ?_; clear S M a; intro a w7 bZ S M hB
      refine wpList_nil ?_; refine then_normal ?_; refine ⟨fun _ => hB, ?_⟩
      refine k_one 5 rfl (by kernel_rfl) ?_
      refine st_call (xs := [(Operand.tmp 22), (Operand.tmp 23)]) S (enters_of Tryz.func41 (by decide) rfl) rfl rfl rfl (apply_any s.st hok (.slice da s.ps.length dc) cs s.ps _ (DoubtRd (A := A) (E := E) (pre := _ :: _ :: _ :: _ ::  []) hBk (by omega) M) (by omega) hBk.short r va vc x (hA _ (_ :: _ :: _ :: _ ::  [_]) M) hx hs) ?_
      rintro _ w8 hAp; obtain ⟨s2, ps2, c2, da2, dc2, lo2, hi2, cs2, es2, rfl, hs2, M2, hBk2, hc2⟩ := apply_form hAp (by omega); refine ⟨_, rfl, ?_⟩; clear S a hAp; intro a S; have hK := M2.below
      obtain ⟨rfl, rfl, rfl⟩ : c2 = 0 ∧ s2 = (s.app r x).st ∧ ps2 = (s.app r x).ps := by
        rcases hc2 with ⟨-, h1, h2, h3⟩ | ⟨h1, -⟩
        · exact ⟨h1, h2, h3⟩
        · rw [htk] at h1; cases h1
      have M1 := (M.join M2).perm (perm_preS (P := _ :: _ :: _ :: _ ::  [_]))
      clear M; have M := M1; clear M1 M2
      simp only [List.cons_append, List.nil_append] at M
      refine wpList_nil ?_; refine then_normal ?_; refine ⟨fun _ => hK, ?_⟩
      refine k_pure 6 S rfl (fun w => y_move S rfl) ?_; clear S a; intro a S
      refine k_pure 7 S rfl (fun w => y_extract S rfl rfl) ?_; clear S a; intro a S
      refine k_pure 8 S rfl (fun w => y_extract S rfl rfl) ?_; clear S a; intro a S
      refine k_one 10 rfl (by kernel_rfl) ?_
      refine st_storeAll (sz := 273) S M 0 rfl (by kernel_rfl) rfl rfl (by with_reducible first | exact St.len hok _ | exact St.len hokA _ | exact St.len hokK _ | exact St.len zSt_ok _ | exact shC_len hl | exact len1S _) (by with_reducible first | exact St.one hok _ rfl | exact St.one hokA _ rfl | exact St.one hokK _ rfl | exact St.one zSt_ok _ rfl) rfl (by with_reducible first | exact St.len hok _ | exact St.len hokA _ | exact St.len hokK _ | exact St.len zSt_ok _ | exact shC_len hl | exact len1S _) ?_; clear M; intro w9 M
      simp only [List.set_cons_zero, List.set_cons_succ] at M
      refine wpList_nil ?_; refine then_normal ?_; refine ⟨fun h => absurd h (by decide), ?_⟩
      refine k_pure 11 S rfl (fun w => y_assign S rfl) ?_; clear S a; intro a S
      refine k_end (by kernel_rfl) ?_
      replace S := S.sub [(0, _), (1, _), (2, _), (4, _), (6, _), (7, _), (16, _), (9, _), (8, _)] rfl
      refine then_normal ?_
      skip
      replace M := M.ord [4, 4, 4, 4, 4] (by simp only [ordO, oG, oS, oE, oZ, oB] <;> rfl)
      exact ⟨_, _, da2, dc2, lo2, hi2, cs2, es2, hBk2, S.sub _ rfl, M⟩
  clear S a M; intro a wc
  rintro ⟨bZ, bRr, da2, dc2, lo2, hi2, cs2, es2, hBk2, S, M⟩
  refine wp_seq ?_
  refine nxD ?_
  refine st_go [1, 1] S rfl (by kernel_rfl) ?_; clear S a; intro a S
  refine nxC ?_
  refine st_if (t := 28) S rfl ?_ ?_
  · clear S; intro h28 S
    exact absurd rfl h28
  clear S; intro h28 S
  refine st_condF S rfl ?_
  refine wp_skip ?_
  refine then_normal ?_
  refine wp_seq ?_
  refine wp_seq ?_
  refine wp_regionK [16, 21] #[false, false, false, false, false, false, false, false, false, false, false, false, false, false, false, false, false, false, false, false, false, false, false] rfl M (by kernel_rfl) ?_; clear M; intro w10 M
  refine k_pure 0 S rfl (fun w => y_move S rfl) ?_; clear S a; intro a S
  refine k_pure 1 S rfl (fun w => y_nilCheck S rfl) ?_; clear S a; intro a S
  refine k_pure 2 S rfl (fun w => y_fieldAddr (k := 0) S (by kernel_rfl) rfl) ?_; clear S a; intro a S
  refine k_read 3 S rfl (fun w hW => have M := M.grow hW; y_load S (by kernel_rfl) rfl (M.cell 3 rfl (shC_d _ _ _))) ?_; clear S a; intro a S
  refine k_pure 4 S rfl (fun w => y_move S rfl) ?_; clear S a; intro a S
  refine k_pure 5 S rfl (fun w => y_nilCheck S rfl) ?_; clear S a; intro a S
  refine k_pure 6 S rfl (fun w => y_fieldAddr (k := 1) S (by kernel_rfl) rfl) ?_; clear S a; intro a S
  refine k_pure 7 S rfl (fun w => y_fieldAddr (k := 13) S (by kernel_rfl) rfl) ?_; clear S a; intro a S
  refine k_read 8 S rfl (fun w hW => have M := M.grow hW; y_loadAgg (cs := [_, _]) S (by kernel_rfl) rfl rfl (M.cellsAt (k := 2) 3 rfl (shC_log _ _ _))) ?_; clear S a; intro a S
  refine k_pure 9 S rfl (fun w => y_move S rfl) ?_; clear S a; intro a S
  refine k_pure 10 S rfl (fun w => y_nilCheck S rfl) ?_; clear S a; intro a S
  refine k_pure 11 S rfl (fun w => y_fieldAddr (k := 1) S (by kernel_rfl) rfl) ?_; clear S a; intro a S
  refine k_pure 12 S rfl (fun w => y_fieldAddr (k := 0) S (by kernel_rfl) rfl) ?_; clear S a; intro a S
  refine k_pure 13 S rfl (fun w => y_fieldAddr (k := 3) S (by kernel_rfl) rfl) ?_; clear S a; intro a S
  refine k_read 14 S rfl (fun w hW => have M := M.grow hW; y_load S (by kernel_rfl) rfl (M.cell 3 rfl (shC_inc _ _ _))) ?_; clear S a; intro a S
  refine k_pure 15 S rfl (fun w => y_move S rfl) ?_; clear S a; intro a S
  refine k_one 16 rfl (by kernel_rfl) ?_
  refine st_call (xs := [(Operand.tmp 34), (Operand.tmp 39), (Operand.tmp 45), (Operand.tmp 46)]) S (enters_of Tryz.func55 (by decide) rfl) rfl rfl rfl (append_any (A := _ :: _ :: _ :: _ :: _ ::  _ :: (es2 ++ (es ++ A))) s.a s.n s.x.inc v1 (r.enc x) hE (by simpa only [List.cons_append, List.append_assoc] using M) (fun W M9 => M9.readAll 1 rfl (by unfold maxLen; omega)) hup hlg (by omega) hinc (fun k => by have := hca k; omega)) ?_
  rintro _ w11 ⟨n', er, S2, rfl, hP, E2, hE2, M1⟩; refine ⟨_, rfl, ?_⟩; clear S M a; intro a S; have M := M1; clear M1
  obtain ⟨rfl, rfl, rfl⟩ : n' = s.n + (nOf (r.enc x).length : Nat) ∧ er = 0 ∧ S2 = putF S0 (cutF (r.enc x) s.n s.x.inc) := by
    rcases hP with ⟨-, h1, h2, h3⟩ | ⟨h1, -⟩
    · exact ⟨h1, h2, h3⟩
    · exact absurd ⟨fun e => by rw [e] at hel; simp at hel, hel.2, by omega⟩ h1
  simp only [List.cons_append, List.append_assoc] at M
  refine wpList_nil ?_; refine then_normal ?_; refine ⟨fun h => absurd h (by decide), ?_⟩
  refine k_pure 17 S rfl (fun w => y_move S rfl) ?_; clear S a; intro a S
  refine k_pure 18 S rfl (fun w => y_extract S rfl rfl) ?_; clear S a; intro a S
  refine k_pure 19 S rfl (fun w => y_extract S rfl rfl) ?_; clear S a; intro a S
  refine k_pure 20 S rfl (fun w => y_fieldAddr (k := 13) S (by kernel_rfl) rfl) ?_; clear S a; intro a S
  refine k_one 21 rfl (by kernel_rfl) ?_
  refine st_store (sz := 2) (us := [_, _]) S M 0 rfl (by kernel_rfl) rfl rfl rfl rfl rfl rfl (by rw [St.len hokA]; exact (by decide : 15 ≤ 273)) ?_; clear M; intro w12 M
  simp only [putL, List.set_cons_zero, List.set_cons_succ, Nat.reduceAdd] at M
  refine wpList_nil ?_; refine then_normal ?_; refine ⟨fun h => absurd h (by decide), ?_⟩
  refine k_pure 22 S rfl (fun w => y_assign S rfl) ?_; clear S a; intro a S
  refine k_end (by kernel_rfl) ?_
  replace S := S.sub [(0, _), (2, _), (7, _), (9, _), (28, _), (8, _)] rfl
  refine then_normal ?_
  refine wp_seq ?_
  rw [show ((((s.app r x).st.cellsL (.slice da2 (s.app r x).ps.length dc2)).set 13 (.int .i64 s.a)).set 14 (.int .i64 (s.n + (nOf (r.enc x).length : Nat)))) = (s.keep r x).st.cellsL (.slice da2 (s.keep r x).ps.length dc2) from rfl] at M
  refine wp_region_lit ?_
  refine st_go [1, 1] S rfl (by kernel_rfl) ?_; clear S a; intro a S
  refine nxC ?_
  refine st_if (t := 52) S rfl ?_ ?_
  · clear S; intro h52 S
    exact absurd rfl h52
  clear S; intro h52 S
  refine st_condF S rfl ?_
  refine wp_skip ?_
  refine then_normal ?_
  refine wp_seq ?_
  refine nxD ?_
  refine st_go [1] S rfl (by kernel_rfl) ?_; clear S a; intro a S
  refine nxC ?_
  refine st_tils (t := 54) S rfl ?_ ?_
  · clear S; intro h54 S
    refine st_condF S rfl ?_
    refine wp_skip ?_
    refine nxE ?_
    refine st_go [1] S rfl (by kernel_rfl) ?_; clear S a; intro a S
    refine st_y S rfl rfl rfl (y_loadAgg (k := 273) (cs := _) S (by kernel_rfl) rfl (by with_reducible first | exact St.len hok _ | exact St.len hokA _ | exact St.len hokK _ | exact St.len zSt_ok _ | exact shC_len hl | exact len1S _) (M.cellsAt 0 rfl cutL_all)) ?_; clear S a; intro a S
    refine st_go [1, 2] S rfl (by kernel_rfl) ?_; clear S a; intro a S
    refine st_store (o := 1) (sz := 273) (us := (s.keep r x).st.cellsL (.slice da2 (s.keep r x).ps.length dc2)) S M 3 rfl (by kernel_rfl) rfl rfl rfl (St.len hokK _) (St.one hokK _ rfl) rfl (by rw [shC_len hl, St.len hokK]; exact Nat.le_refl _) ?_; clear M; intro wz M
    simp only [List.set_cons_zero, List.set_cons_succ] at M
    rw [shC_put hl hlK] at M
    refine nxA ?_
    refine st_go [1] S rfl (by kernel_rfl) ?_; clear S a; intro a S
    refine nxC ?_
    refine wp_ret ?_
    refine end_one S rfl (res_tmp rfl) ?_
    skip
    replace M := M.drop 0
    simp only [List.eraseIdx_cons_succ, List.eraseIdx_cons_zero] at M
    replace M := M.drop 0
    simp only [List.eraseIdx_cons_succ, List.eraseIdx_cons_zero] at M
    replace M := M.drop 0
    simp only [List.eraseIdx_cons_succ, List.eraseIdx_cons_zero] at M
    replace M := M.drop 1
    simp only [List.eraseIdx_cons_succ, List.eraseIdx_cons_zero] at M
    first
      | (revert h54; refine fun h54 : fl = true => ?_
         exact ⟨rfl, da2, dc2, lo2, hi2, cs2, es2, E3, by unfold Sh.keepD; rw [if_pos h54]; exact hE3, hBk2, M.sub (.cons_cons _ (.cons_cons _ ((List.Sublist.refl es2).append (List.sublist_append_right es _))))⟩)
      | (revert h54; refine fun h54 : fl = false => ?_
         exact ⟨rfl, da2, dc2, lo2, hi2, cs2, es2, E2, by unfold Sh.keepD; rw [if_neg (by rw [h54]; decide)]; exact hE2, hBk2, M.sub (.cons_cons _ (.cons_cons _ ((List.Sublist.refl es2).append (List.sublist_append_right es _))))⟩)
  clear S; intro h54 S
  refine st_condT S rfl ?_
  refine nxD ?_
  refine st_go [1, 1, 1] S rfl (by kernel_rfl) ?_; clear S a; intro a S
  refine st_y S rfl rfl rfl (y_load S (by kernel_rfl) rfl (M.cell 3 rfl (shC_d _ _ _))) ?_; clear S a; intro a S
  refine st_call (xs := [(Operand.tmp 58)]) S (enters_of Tryz.func56 (by decide) rfl) rfl rfl rfl (jflush_any (A := _ :: _ :: _ :: _ :: _ ::  _ :: (es2 ++ (es ++ A))) hE2 (by simpa only [List.cons_append, List.append_assoc] using M) (by rw [putF_down]; exact hup) (fun k => by have h8 := putF_cache_le (S := S0) (m := 5000) (cutF (r.enc x) s.n s.x.inc) (fun k => by have := hca k; omega) k; rw [cutF_length] at h8; unfold nOf at h8; omega)) ?_
  rintro _ w13 ⟨rfl, E3, hE3, M1⟩; refine ⟨_, rfl, ?_⟩; clear S M a; intro a S; have M := M1; clear M1
  simp only [List.cons_append, List.append_assoc] at M
  refine st_go [1] S rfl (by kernel_rfl) ?_; clear S a; intro a S
  refine nxA ?_
  refine st_go [1, 1] S rfl (by kernel_rfl) ?_; clear S a; intro a S
  refine nxC ?_
  refine st_if (t := 61) S rfl ?_ ?_
  · clear S; intro h61 S
    exact absurd rfl h61
  clear S; intro h61 S
  refine st_condF S rfl ?_
  refine wp_skip ?_
  refine nxE ?_
  refine st_go [1] S rfl (by kernel_rfl) ?_; clear S a; intro a S
  refine st_y S rfl rfl rfl (y_loadAgg (k := 273) (cs := _) S (by kernel_rfl) rfl (by with_reducible first | exact St.len hok _ | exact St.len hokA _ | exact St.len hokK _ | exact St.len zSt_ok _ | exact shC_len hl | exact len1S _) (M.cellsAt 0 rfl cutL_all)) ?_; clear S a; intro a S
  refine st_go [1, 2] S rfl (by kernel_rfl) ?_; clear S a; intro a S
  refine st_store (o := 1) (sz := 273) (us := (s.keep r x).st.cellsL (.slice da2 (s.keep r x).ps.length dc2)) S M 3 rfl (by kernel_rfl) rfl rfl rfl (St.len hokK _) (St.one hokK _ rfl) rfl (by rw [shC_len hl, St.len hokK]; exact Nat.le_refl _) ?_; clear M; intro wz M
  simp only [List.set_cons_zero, List.set_cons_succ] at M
  rw [shC_put hl hlK] at M
  refine nxA ?_
  refine st_go [1] S rfl (by kernel_rfl) ?_; clear S a; intro a S
  refine nxC ?_
  refine wp_ret ?_
  refine end_one S rfl (res_tmp rfl) ?_
  skip
  replace M := M.drop 0
  simp only [List.eraseIdx_cons_succ, List.eraseIdx_cons_zero] at M
  replace M := M.drop 0
  simp only [List.eraseIdx_cons_succ, List.eraseIdx_cons_zero] at M
  replace M := M.drop 0
  simp only [List.eraseIdx_cons_succ, List.eraseIdx_cons_zero] at M
  replace M := M.drop 1
  simp only [List.eraseIdx_cons_succ, List.eraseIdx_cons_zero] at M
  first
    | (revert h54; refine fun h54 : fl = true => ?_
       exact ⟨rfl, da2, dc2, lo2, hi2, cs2, es2, E3, by unfold Sh.keepD; rw [if_pos h54]; exact hE3, hBk2, M.sub (.cons_cons _ (.cons_cons _ ((List.Sublist.refl es2).append (List.sublist_append_right es _))))⟩)
    | (revert h54; refine fun h54 : fl = false => ?_
       exact ⟨rfl, da2, dc2, lo2, hi2, cs2, es2, E2, by unfold Sh.keepD; rw [if_neg (by rw [h54]; decide)]; exact hE2, hBk2, M.sub (.cons_cons _ (.cons_cons _ ((List.Sublist.refl es2).append (List.sublist_append_right es _))))⟩)
end Go.Proofs.YtndabhdepjnbcaaGreat

namespace Go.Proofs.YtndabhdepjnbcaaGreat
open Go.RowKit Go.Sort
/-! ### what is owned stays a byte -/
theorem ofInt_byte {z : Int} (h : 0 ≤ z ∧ z ≤ 255) : ∃ k : Nat, k ≤ 255 ∧ z = (k : Int) ∧ BitVec.ofInt 64 z = BitVec.ofNat 64 k := by
  obtain ⟨k, rfl⟩ := Int.eq_ofNat_of_zero_le h.1
  exact ⟨k, by omega, rfl, by simp⟩
theorem wrap_byte {k : Nat} (h : k ≤ 255) : IntKind.i64.wrap (k : Int) = (k : Int) := by rw [IntKind.wrap_i64]; omega
theorem orV_byte {x y : Int} (hx : 0 ≤ x ∧ x ≤ 255) (hy : 0 ≤ y ∧ y ≤ 255) : 0 ≤ orV x y ∧ orV x y ≤ 255 := by
  obtain ⟨a, ha, rfl, ea⟩ := ofInt_byte hx
  obtain ⟨b, hb, rfl, eb⟩ := ofInt_byte hy
  have e : orV (a : Int) (b : Int) = IntKind.i64.wrap (((BitVec.ofInt 64 (a : Int) ||| BitVec.ofInt 64 (b : Int) : BitVec 64).toNat : Nat) : Int) := rfl
  have e2 : (BitVec.ofNat 64 a ||| BitVec.ofNat 64 b).toNat = a ||| b := by
    rw [BitVec.toNat_or, BitVec.toNat_ofNat, BitVec.toNat_ofNat, Nat.mod_eq_of_lt (by omega), Nat.mod_eq_of_lt (by omega)]
  have h8 : a ||| b < 2 ^ 8 := Nat.or_lt_two_pow (by omega) (by omega)
  rw [e, ea, eb, e2, wrap_byte (by omega)]
  omega
theorem andNotV_byte {x y : Int} (hx : 0 ≤ x ∧ x ≤ 255) : 0 ≤ andNotV x y ∧ andNotV x y ≤ 255 := by
  obtain ⟨a, ha, rfl, ea⟩ := ofInt_byte hx
  have e : andNotV (a : Int) y = IntKind.i64.wrap (((BitVec.ofInt 64 (a : Int) &&& ~~~BitVec.ofInt 64 y : BitVec 64).toNat : Nat) : Int) := rfl
  have h8 : (BitVec.ofNat 64 a &&& ~~~BitVec.ofInt 64 y).toNat ≤ a := by
    rw [BitVec.toNat_and, BitVec.toNat_ofNat, Nat.mod_eq_of_lt (by omega)]
    exact Nat.and_le_left
  rw [e, ea, wrap_byte (by omega)]
  omega
theorem mayQ_bits {q : Pr × List Wr} (h : mayQ q) : (0 ≤ q.1.give ∧ q.1.give ≤ 255) ∧ (0 ≤ q.1.take ∧ q.1.take ≤ 255) := by
  rcases may_cases h with ⟨a, -⟩ | ⟨-, -, -, -, h1, h2, -⟩ | ⟨a, -⟩ | ⟨a, -⟩ | ⟨a, -⟩ | ⟨a, -⟩ | ⟨a, -⟩
  all_goals first | (simp [prRc] at a; done) | skip
  have k1 : 0 ≤ q.1.give ∧ q.1.give < 256 := of_decide_eq_true h1
  have k2 : 0 ≤ q.1.take ∧ q.1.take < 256 := of_decide_eq_true h2
  omega
theorem ownP_byte {o : Int} {ps : Pl} (ho : 0 ≤ o ∧ o ≤ 255) (hm : ∀ q ∈ ps, mayQ q) (r : Rc) : 0 ≤ ownP o ps r ∧ ownP o ps r ≤ 255 := by
  unfold ownP
  split
  · split
    · split
      · rename_i q hq
        exact orV_byte (andNotV_byte ho) (mayQ_bits (hm q (List.mem_of_getElem? hq))).2
      · exact ho
    · exact ho
  · exact ho
/-! ### what a store may be stays so -/
theorem Sh.save_may {s : Sh} {S : DS} {N : Int} (h : ShI S s N) : (ckSu s.x s.n).may := by
  obtain ⟨h0, h1, h2, h3, h4, h5, h6, h7, h8, h9, h10⟩ := h.may
  have hlg := h.lg; unfold mayL at hlg
  have := h.nx; have := h.few; have := h.gen
  refine ⟨h0, ?_⟩
  simp only [ckSu]; omega
theorem ShI.save {s : Sh} {S : DS} {N : Int} (h : ShI S s N) (hN : N + 1 ≤ 1000) : ShI (s.saveD S) s.save (N + 1) := by
  have hlg := h.lg; unfold mayL at hlg
  have h1 := h.nx; have h2 := h.w8; have h3 := h.gen; have h4 := h.few
  have hc : (s.saveD S).cache = fun _ => [] := by
    unfold Sh.saveD
    rw [show 12 + s.ps.length = 11 + s.ps.length + 1 by omega, sv, sv1_fl (.inr (.inr (by omega)))]; rfl
  refine ⟨?_, fun k => by rw [hc]; show ((0 : Nat) : Int) ≤ _; omega, h.hl, h.mq, Sh.save_may h, ?_, ?_, ?_, hN, h2, ?_⟩
  · unfold Sh.saveD; rw [sv_down]; exact h.up
  · unfold mayL Sh.save; simp only; omega
  · unfold Sh.save; simp only; omega
  · show s.x.gen + 1 ≤ _; omega
  · show s.n + ((wtP s.ps : Nat) : Int) + ((wtP s.ps + s.ps.length : Nat) : Int) ≤ s.n + 24; omega
theorem ShI.mono {s : Sh} {S : DS} {N M : Int} (h : ShI S s N) (h1 : N ≤ M) (h2 : M ≤ 1000) : ShI S s M :=
  ⟨h.up, fun k => by have := h.cache k; omega, h.hl, h.mq, h.may, h.lg, by have := h.nx; omega, by have := h.gen; omega, h2, h.w8, h.room⟩
theorem ShI.keep {s : Sh} {S : DS} {N : Int} {r : Rc} {x : List Wr} {fl : Bool} (h : ShI S s N) (hN : N + 1 ≤ 1000) (hm : r.may x = true) (hmq : ∀ q ∈ (stepO s.ps r x).1, mayQ q) (hw : wtP (stepO s.ps r x).1 + (stepO s.ps r x).1.length ≤ 8) (hr : s.n + (nOf (r.enc x).length : Nat) + ((wtP (stepO s.ps r x).1 + (stepO s.ps r x).1.length : Nat) : Int) ≤ s.a + 24) : ShI (s.keepD S r x fl) (s.keep r x) (N + 1) := by
  have hlg := h.lg; unfold mayL at hlg
  have h1 := h.nx; have h2 := h.w8; have h3 := h.gen; have h4 := h.few
  have hel := enc_len hm
  have hno : nOf (r.enc x).length ≤ 2 := by unfold nOf; omega
  have hpc : ∀ k, (((putF S (cutF (r.enc x) s.n s.x.inc)).cache k).length : Int) ≤ 5 * (N + 1) := fun k => by
    have h8 := putF_cache_le (S := S) (m := (5 * N).toNat) (cutF (r.enc x) s.n s.x.inc) (fun k => by have := h.cache k; omega) k
    rw [cutF_length] at h8
    have := h.cache k
    omega
  refine ⟨?_, fun k => ?_, ?_, hmq, ?_, ?_, ?_, (show s.x.gen ≤ N + 1 by omega), hN, hw, hr⟩
  · unfold Sh.keepD; split
    · exact (putF_down _ _).trans h.up
    · exact (putF_down _ _).trans h.up
  · unfold Sh.keepD; split
    · show ((0 : Nat) : Int) ≤ _; omega
    · exact hpc k
  · show (onF _ _).length = 32; rw [onF_length]; exact h.hl
  · obtain ⟨g0, g1, g2, g3, g4, g5, g6, g7⟩ := h.may
    have := ownP_byte (o := s.x.owned) ⟨g5, g6⟩ h.mq r
    exact ⟨g0, g1, g2, g3, g4, this.1, this.2, g7⟩
  · unfold mayL Sh.keep; simp only; omega
  · unfold Sh.keep; simp only; omega
/-! ### memory -/
theorem perm_close {α : Type} {P es A E : List α} {X D : α} : (P ++ (X :: D :: (es ++ (A ++ E)))).Perm (X :: D :: (es ++ ((P ++ A) ++ E))) := by
  have e : X :: D :: (es ++ ((P ++ A) ++ E)) = ([X, D] ++ es) ++ (P ++ (A ++ E)) := by simp
  have e2 : P ++ (X :: D :: (es ++ (A ++ E))) = P ++ (([X, D] ++ es) ++ (A ++ E)) := by simp
  rw [e, e2, ← List.append_assoc P, ← List.append_assoc ([X, D] ++ es)]
  exact List.perm_append_comm.append_right (A ++ E)
theorem ShM.close {wc w : World} {P A E es : List Ent} {b bd lo hi dc : Nat} {s : Sh} {S : DS} {da : Option Addr} {cs : List Value} (hE : DkE bd S E) (hB : PrBk cs s.ps es)
    (M : Mem wc w (P ++ (shE b bd s (.slice da s.ps.length dc) :: rowE lo hi 75 6 (.slice da s.ps.length dc) s.ps.length cs :: (es ++ (A ++ E))))) : ShM wc w (P ++ A) b bd s S :=
  ⟨da, dc, lo, hi, cs, es, E, hE, hB, M.perm perm_close⟩
theorem ShM.open {wc w : World} {P A : List Ent} {b bd : Nat} {s : Sh} {S : DS} (h : ShM wc w (P ++ A) b bd s S) : ∃ (da : Option Addr) (dc lo hi : Nat) (cs : List Value) (es E : List Ent), DkE bd S E ∧ PrBk cs s.ps es ∧
    Mem wc w (P ++ (shE b bd s (.slice da s.ps.length dc) :: rowE lo hi 75 6 (.slice da s.ps.length dc) s.ps.length cs :: (es ++ (A ++ E)))) := by
  obtain ⟨da, dc, lo, hi, cs, es, E, hE, hB, M⟩ := h
  exact ⟨da, dc, lo, hi, cs, es, E, hE, hB, M.perm perm_close.symm⟩
theorem ShM.drop {wc w : World} {P A : List Ent} {b bd : Nat} {s : Sh} {S : DS} (h : ShM wc w (P ++ A) b bd s S) : ShM wc w A b bd s S := by
  obtain ⟨da, dc, lo, hi, cs, es, E, hE, hB, M⟩ := h
  exact ⟨da, dc, lo, hi, cs, es, E, hE, hB, M.sub (.cons_cons _ (.cons_cons _ ((List.Sublist.refl es).append ((List.sublist_append_right P A).append (List.Sublist.refl E)))))⟩
/-! ### scales -/
def wQ (ps : Pl) : Nat := wtP ps + ps.length
theorem wQ_take {ps : Pl} {k : Nat} {q : Pr × List Wr} (h : ps[k]? = some q) : wQ (ps.take (k + 1)) = wQ (ps.take k) + (secQ q + 1) := by
  have hl := (List.getElem?_eq_some_iff.1 h).1
  unfold wQ; rw [wtP_take h, List.length_take, List.length_take]; omega
theorem wQ_le (ps : Pl) (k : Nat) : wQ (ps.take k) ≤ wQ ps := by
  have h1 : wtP ps = wtP (ps.take k) + wtP (ps.drop k) := by rw [← wtP_append, List.take_append_drop]
  unfold wQ; rw [List.length_take]; omega
theorem scale1_any {wc w : World} {H : List Ent} {bA : Nat} (n : Int) (q : Pr × List Wr) (ad : Option Addr) (cp : Nat) (M : Mem wc w (.blk bA #[.int .i64 n] 3 :: H)) (hm : mayQ q) (hW2 : ∀ W pre, Mem wc W (pre ++ H) → Ws 0 W.heap.size W (.slice ad q.2.length cp) q.2) (hn : 0 ≤ n ∧ n ≤ 1000) :
    Calls Tryz.prog 51 #[.agg (q.1.cellsL (.slice ad q.2.length cp)).toArray, pB bA] w fun e w' => e = .returned (.int .i64 (n + (secQ q + 1 : Nat))) ∧ Mem wc w' (.blk bA #[.int .i64 (n + (secQ q + 1 : Nat))] 3 :: H) := by
  have hs := secQ_le hm
  refine calls_enter Tryz.func51 rfl 24 rfl rfl ?_; intro a S
  refine wp_seq ?_
  skip
  refine wp_region_lit ?_
  refine st_box S M rfl rfl rfl #[_, _, _, _, _, _] rfl ?_; clear S M a; intro a w1 bP S M hB
  refine st_go [1] S rfl (by kernel_rfl) ?_; clear S a; intro a S
  refine nxA ?_
  refine st_go [1] S rfl (by kernel_rfl) ?_; clear S a; intro a S
  refine st_y S rfl rfl rfl (y_loadAgg (cs := [_, _, _]) S (by kernel_rfl) rfl rfl (M.cellsAt (k := 3) 0 rfl rfl)) ?_; clear S a; intro a S
  refine st_run [4, 1, 5, 1, 6, 1] S M rfl (by kernel_rfl) ?_; clear S a; intro a S
  refine st_y S rfl rfl rfl (y_build (ps := [(0, (Operand.const (Value.int IntKind.i8 2))), (1, (Operand.tmp 8)), (3, (Operand.tmp 10)), (4, (Operand.tmp 12)), (5, (Operand.tmp 14))]) (pl := [(0, 1), (1, 3), (4, 1), (5, 1), (6, 1), (7, 1), (8, 1), (9, 2), (11, 1)]) (z := [.int .i8 0, .int .i64 0, .int .i64 0, .int .i64 0, .bool false, .slice none 0 0, .int .i64 0, .int .i64 0, .int .i64 0, .int .i64 0, .int .i64 0, .int .i64 0]) (cs := [_, _, _, _, _, _, _, _, _, _, _, _]) S (by kernel_rfl) rfl (rfl)) ?_; clear S a; intro a S
  refine st_call (xs := [(Operand.tmp 15)]) S (enters_of Tryz.func52 (by decide) rfl) rfl rfl rfl (sectorsR_any (prRc q.1) ad q.2.length cp q.2 _ (by show (0 : Int) ≤ _; omega) (hW2 _ [_, _] M)) ?_
  rintro _ w2 ⟨rfl, hK⟩; refine ⟨_, rfl, ?_⟩; clear S a; intro a S; replace M := M.grow hK
  rw [secsN_nOf hm, if_pos (show (prRc q.1).may q.2 = true from hm), show nOf ((prRc q.1).enc q.2).length = secQ q from rfl] at S
  refine st_go [1, 1, 1, 1, 1] S rfl (by kernel_rfl) ?_; clear S a; intro a S
  replace S := S.sub [(0, _), (1, _), (2, _), (3, _), (4, _)] rfl
  refine nxA ?_
  refine st_run [2, 1] S M rfl (by kernel_rfl) ?_; clear S a; intro a S
  (first | refine st_y S rfl rfl rfl (y_addN S rfl rfl (by omega)) ?_ | refine st_y S rfl rfl rfl (y_int S rfl rfl rfl) ?_); clear S a; intro a S
  (first | refine st_y S rfl rfl rfl (y_addN S rfl rfl (by omega)) ?_ | refine st_y S rfl rfl rfl (y_int S rfl rfl rfl) ?_); clear S a; intro a S
  refine st_store (sz := 1) (us := [_]) S M 1 rfl (by kernel_rfl) rfl rfl rfl rfl rfl rfl (by first | decide | (simp; done) | (simp; omega)) ?_; clear M; intro w3 M
  simp only [putL, List.set_cons_zero, List.set_cons_succ, Nat.reduceAdd] at M
  refine nxA ?_
  refine st_run [2, 1] S M rfl (by kernel_rfl) ?_; clear S a; intro a S
  refine nxC ?_
  refine wp_ret ?_
  refine end_one S rfl (res_tmp rfl) ?_
  rw [show n + (((secQ q : Nat) : Int) + 1) = n + ((secQ q + 1 : Nat) : Int) by omega] at *
  exact ⟨rfl, M.drop 0⟩
end Go.Proofs.YtndabhdepjnbcaaGreat

namespace Go.Proofs.YtndabhdepjnbcaaGreat
open Go.RowKit Go.Sort
set_option maxHeartbeats 1000000 in
set_option maxRecDepth 10000 in
theorem scales_any {wc w : World} {A es E : List Ent} {b bd lo hi : Nat} {s : Sh} {da : Option Addr} {dc : Nat} {cs : List Value} (hl : s.h.length = 32) (hB0 : PrBk cs s.ps es) (hmq : ∀ q ∈ s.ps, mayQ q) (hps : s.ps.length ≤ 8)
    (M : Mem wc w (shE b bd s (.slice da s.ps.length dc) :: rowE lo hi 75 6 (.slice da s.ps.length dc) s.ps.length cs :: (es ++ (A ++ E)))) :
    Calls Tryz.prog 31 #[pB b] w fun e w' => ∃ bA, e = .returned (.tuple #[.int .i64 (wQ s.ps : Nat), .func (.func 51) #[] #[pB bA]]) ∧ Mem wc w' (.blk bA #[.int .i64 (wQ s.ps : Nat)] 3 :: shE b bd s (.slice da s.ps.length dc) :: rowE lo hi 75 6 (.slice da s.ps.length dc) s.ps.length cs :: (es ++ (A ++ E))) := by
  have hw2 := wtP_le s.ps hmq
  refine calls_enter Tryz.func31 rfl 25 rfl rfl ?_; intro a S
  refine wp_seq ?_
  skip
  refine wp_region_lit ?_
  refine st_go [1, 1] S rfl (by kernel_rfl) ?_; clear S a; intro a S
  refine nxA ?_
  refine st_alloc S M rfl rfl #[.int .i64 0] (by kernel_rfl) ?_; clear S M a; intro a w1 bA S M hB
  refine st_store (sz := 1) (us := [_]) S M 0 rfl (by kernel_rfl) rfl rfl rfl rfl rfl rfl (by first | decide | (simp; done) | (simp; omega)) ?_; clear M; intro w2 M
  simp only [putL, List.set_cons_zero, List.set_cons_succ, Nat.reduceAdd] at M
  refine nxA ?_
  refine st_y S rfl rfl rfl (y_makeFunc (fs := []) (cs := [(Operand.tmp 4)]) S rfl rfl) ?_; clear S a; intro a S
  refine st_go [1] S rfl (by kernel_rfl) ?_; clear S a; intro a S
  refine nxC ?_
  refine wp_seq ?_
  refine nxD ?_
  refine st_go [1, 1, 2, 272] S rfl (by kernel_rfl) ?_; clear S a; intro a S
  refine st_y S rfl rfl rfl (y_load S (by kernel_rfl) rfl (M.cell 1 rfl (shC_doubt hl))) ?_; clear S a; intro a S
  refine st_y S rfl rfl rfl (y_lenR (E := 75) S rfl (M.readAll 2 rfl (by unfold maxLen; omega)) (by kernel_rfl)) ?_; clear S a; intro a S
  refine st_go [1] S rfl (by kernel_rfl) ?_; clear S a; intro a S
  refine nxC ?_
  refine wp_block ?_
  refine wp_loop_g (fun m a w' => ∃ (k : Nat), k ≤ s.ps.length ∧ m = s.ps.length - k ∧ Sees 25 a [(4, pB bA), (5, .func (.func 51) #[] #[pB bA]), (13, .slice da s.ps.length dc), (14, .int .i64 (s.ps.length : Int)), (15, .int .i64 (k : Int))] ∧ Mem wc w' (.blk bA #[.int .i64 (wQ (s.ps.take k) : Nat)] 3 :: shE b bd s (.slice da s.ps.length dc) :: rowE lo hi 75 6 (.slice da s.ps.length dc) s.ps.length cs :: (es ++ (A ++ E)))) (s.ps.length) ?_ ?_
  · skip
    exact ⟨0, Nat.zero_le _, rfl, S.sub _ rfl, M⟩
  clear S M a; intro m a wl
  rintro ⟨k, hk, rfl, S, M⟩
  have hwk := wQ_le s.ps k
  refine nxD ?_
  refine st_go [1] S rfl (by kernel_rfl) ?_; clear S a; intro a S
  refine nxC ?_
  refine wp_seq ?_
  refine st_fi (t := 16) S rfl ?_ ?_
  · clear S; intro h16 S
    refine st_condF S rfl ?_
    refine wp_exit ?_
    refine then_exit ?_
    refine then_exit ?_
    refine block_hit ?_
    refine nxE ?_
    refine st_run [1, 1, 1, 1] S M rfl (by kernel_rfl) ?_; clear S a; intro a S
    refine nxC ?_
    refine wp_ret ?_
    refine end_two S rfl (res_tmp rfl) (res_tmp rfl) ?_
    obtain rfl : k = s.ps.length := by omega
    rw [List.take_length] at *
    exact ⟨bA, rfl, M⟩
  clear S; intro h16 S
  refine st_condT S rfl ?_
  refine wp_skip ?_
  refine then_normal ?_
  refine wp_seq ?_
  refine wp_block ?_
  refine wp_seq ?_
  obtain ⟨q, hq⟩ : ∃ q, s.ps[k]? = some q := ⟨_, List.getElem?_eq_getElem (by omega)⟩
  obtain ⟨ad, cp, wlo, whi, hrow, hmem, hx⟩ := hB0.2.2 k q hq
  have hw9 : wQ s.ps ≤ 100 := by unfold wQ; omega
  refine wp_region_lit ?_
  refine st_y S rfl rfl rfl (y_indexR (e := 75) (sz := 6) S (by kernel_rfl) rfl ((M.readAll 2 rfl (by unfold maxLen; omega))) rfl (by first | omega | (simp; done) | (simp; omega))) ?_; clear S a; intro a S
  try simp only [Int.toNat_natCast, Nat.mul_one, Nat.zero_add] at S
  refine st_y S rfl rfl rfl (y_loadAgg S (by kernel_rfl) rfl rfl ((M.readAll 2 rfl (by unfold maxLen; omega)).at_.row (i := k) hrow rfl)) ?_; clear S a; intro a S
  refine st_alloc S M rfl rfl #[.int .i64 0, .int .i64 0, .int .i64 0, .slice none 0 0, .int .i64 0, .int .i64 0] (by kernel_rfl) ?_; clear S M a; intro a w3 bP S M hB
  refine st_store (sz := 6) (us := [_, _, _, _, _, _]) S M 0 rfl (by kernel_rfl) rfl rfl rfl rfl rfl rfl (by first | decide | (simp; done) | (simp; omega)) ?_; clear M; intro w4 M
  simp only [putL, List.set_cons_zero, List.set_cons_succ, Nat.reduceAdd] at M
  refine nxC ?_
  skip
  replace M := M.front 1 rfl
  simp only [List.eraseIdx_cons_succ, List.eraseIdx_cons_zero] at M
  refine wp_region_lit ?_
  refine st_go [1] S rfl (by kernel_rfl) ?_; clear S a; intro a S
  refine st_y S rfl rfl rfl (y_loadAgg (cs := [_, _, _, _, _, _]) S (by kernel_rfl) rfl rfl (M.cellsAt (k := 6) 1 rfl rfl)) ?_; clear S a; intro a S
  refine st_callB (xs := [(Operand.tmp 20)]) (fi := []) (ca := [_]) S (enters_of Tryz.func51 (by decide) rfl) rfl rfl (rfl) rfl (scale1_any (wQ (s.ps.take k) : Nat) q ad cp M (hmq q (List.mem_of_getElem? hq)) (fun W pre M9 => rowW M9 (List.mem_append_right _ (.tail _ (.tail _ (.tail _ (List.mem_append_left _ hmem))))) hx) (by omega)) ?_
  rintro _ w5 ⟨rfl, M1⟩; refine ⟨_, rfl, ?_⟩; clear S M a; intro a S; have M := M1; clear M1
  refine wpList_nil ?_
  refine block_normal ?_
  refine nxF ?_
  (first | refine st_y S rfl rfl rfl (y_addN S rfl rfl (by omega)) ?_ | refine st_y S rfl rfl rfl (y_int S rfl rfl rfl) ?_); clear S a; intro a S
  refine st_go [1] S rfl (by kernel_rfl) ?_; clear S a; intro a S
  refine nxC ?_
  skip
  replace M := M.drop 1
  simp only [List.eraseIdx_cons_succ, List.eraseIdx_cons_zero] at M
  refine ⟨s.ps.length - (k + 1), by omega, k + 1, by omega, rfl, S.sub _ rfl, ?_⟩
  rw [wQ_take hq, Int.natCast_add]; exact M
def ComeP (wc : World) (A : List Ent) (b bd : Nat) (s : Sh) (S0 : DS) (r : Rc) (x : List Wr) (all : Int) (w' : World) : Prop :=
  ∃ s1 S1, ((s1 = s ∧ S1 = S0) ∨ (s1 = s.save ∧ S1 = s.saveD S0)) ∧ (nOf (r.enc x).length : Nat) + all ≤ 24 - (s1.n - s1.a) ∧ ShM wc w' A b bd (s1.keep r x) (s1.keepD S1 r x true)
set_option maxHeartbeats 1000000 in
set_option maxRecDepth 10000 in
theorem come_any {w0 w : World} {A : List Ent} {b bd : Nat} {s : Sh} {S0 : DS} {N : Int} (r : Rc) (va : Option Addr) (vc : Nat) (x : List Wr) (all : Int) (hM : ShM w0 w A b bd s S0) (hI : ShI S0 s N) (hN : N + 2 ≤ 1000) (hs : r.shards ≤ 9223372036854775807) (hW : ∀ W, Mem w0 W A → Ws 0 W.heap.size W (.slice va x.length vc) x) (hx : x.length ≤ 1000000)
    (htk : takes r x = true) (hm : r.may x = true) (h0 : 0 ≤ all) (hall : (nOf (r.enc x).length : Nat) + all + (wtP s.ps : Nat) ≤ 24) :
    Calls Tryz.prog 32 #[pB b, .agg (r.cells (.slice va x.length vc)), .int .i64 all] w fun e w' => e = .returned (.int .i64 0) ∧ ComeP w0 A b bd s S0 r x all w' := by
  obtain ⟨da, dc, lo, hi, cs, es, E, hE, hBk, M⟩ := hM
  have hl := hI.hl
  have hlg := hI.lg
  have hI2 := hI.save (by omega)
  have hlg' := hlg
  unfold mayL at hlg'
  have hnx := hI.nx
  have hfew := hI.few
  have hno : 1 ≤ nOf (r.enc x).length ∧ nOf (r.enc x).length ≤ 2 := by have := enc_len hm; unfold nOf; omega
  have hA : ∀ W H9, Mem w0 W (H9 ++ (es ++ (A ++ E))) → Ws 0 W.heap.size W (.slice va x.length vc) x := fun W H9 M9 => hW W (M9.sub (((List.sublist_append_left A E).trans (List.sublist_append_right es _)).trans (List.sublist_append_right H9 _)))
  refine calls_enter Tryz.func32 rfl 37 rfl rfl ?_; intro a S
  refine wp_seq ?_
  skip
  refine wp_region_lit ?_
  refine st_box S M rfl rfl rfl #[_, _, _, _, _, _, _, _, _, _, _, _] rfl ?_; clear S M a; intro a w1 bRr S M hB
  refine st_go [1] S rfl (by kernel_rfl) ?_; clear S a; intro a S
  refine nxC ?_
  refine wp_scope_all 1000 (fun l m a w' => (l = 0 ∧ (fun m a w' => m = 2 ∧ Sees 37 a [(0, pB b), (2, .int .i64 all), (4, pB bRr), (7, .int .i64 (nOf (r.enc x).length : Nat)), (9, .bool false)] ∧ Mem w0 w' (.blk bRr (r.cells (.slice va x.length vc)) 30 :: shE b bd s (.slice da s.ps.length dc) :: rowE lo hi 75 6 (.slice da s.ps.length dc) s.ps.length cs :: (es ++ (A ++ E)))) m a w') ∨ (l = 1 ∧ (fun m a w' => m = 1 ∧ ∃ (da : Option Addr) (dc lo hi : Nat) (cs : List Value) (es E : List Ent), DkE bd (s.saveD S0) E ∧ PrBk cs s.ps es ∧ Sees 37 a [(0, pB b), (2, .int .i64 all), (4, pB bRr), (7, .int .i64 (nOf (r.enc x).length : Nat)), (9, .bool true)] ∧ Mem w0 w' (.blk bRr (r.cells (.slice va x.length vc)) 30 :: shE b bd s.save (.slice da s.ps.length dc) :: rowE lo hi 75 6 (.slice da s.ps.length dc) s.ps.length cs :: (es ++ (A ++ E)))) m a w')) ?_ ?_
  · skip
    refine nxD ?_
    refine st_y S rfl rfl rfl (y_loadAgg (cs := [_, _, _, _, _, _, _, _, _, _, _, _]) S (by kernel_rfl) rfl rfl (M.cellsAt (k := 12) 0 rfl rfl)) ?_; clear S a; intro a S
    refine st_call (xs := [(Operand.tmp 11)]) S (enters_of Tryz.func52 (by decide) rfl) rfl rfl rfl (sectorsR_any r va x.length vc x _ hs (hA _ [_, _, _] M)) ?_
    rintro _ w2 ⟨rfl, hK⟩; refine ⟨_, rfl, ?_⟩; clear S a; intro a S; replace M := M.grow hK
    rw [secsN_nOf hm, if_pos hm] at S
    refine st_go [1, 1, 1, 1, 1] S rfl (by kernel_rfl) ?_; clear S a; intro a S
    refine nxC ?_
    refine wp_seq ?_
    refine nxD ?_
    refine st_go [1, 1] S rfl (by kernel_rfl) ?_; clear S a; intro a S
    refine nxC ?_
    refine st_if (t := 16) S rfl ?_ ?_
    · clear S; intro h16 S
      exact absurd rfl h16
    clear S; intro h16 S
    refine st_condF S rfl ?_
    refine wp_skip ?_
    refine nxE ?_
    refine st_go [1] S rfl (by kernel_rfl) ?_; clear S a; intro a S
    refine nxC ?_
    refine wp_seq ?_
    refine wp_label ?_
    refine then_normal ?_
    refine wp_seq ?_
    refine nxD ?_
    refine st_go [1, 1] S rfl (by kernel_rfl) ?_; clear S a; intro a S
    (first | refine st_y S rfl rfl rfl (y_addN S rfl rfl (by omega)) ?_ | refine st_y S rfl rfl rfl (y_int S rfl rfl rfl) ?_); clear S a; intro a S
    refine st_go [1, 1, 2, 14] S rfl (by kernel_rfl) ?_; clear S a; intro a S
    refine st_y S rfl rfl rfl (y_loadAgg (cs := [_, _]) S (by kernel_rfl) rfl rfl (M.cellsAt (k := 2) 1 rfl (shC_log _ _ _))) ?_; clear S a; intro a S
    refine st_call (xs := [(Operand.tmp 25)]) S (enters_of Tryz.func53 (by decide) rfl) rfl rfl rfl (FreeJ _ _ _ (by first | exact hlg | exact hI2.lg)) ?_
    rintro _ w3 ⟨rfl, hK⟩; refine ⟨_, rfl, ?_⟩; clear S a; intro a S; replace M := M.grow hK
    refine st_go [1] S rfl (by kernel_rfl) ?_; clear S a; intro a S
    replace S := S.sub [(0, _), (1, _), (2, _), (4, _), (6, _), (7, _), (8, _), (16, _), (9, _), (27, _)] rfl
    refine nxC ?_
    refine st_if (t := 27) S rfl ?_ ?_
    · clear S; intro h27 S
      refine st_condT S rfl ?_
      refine wp_goto ?_
      refine then_goto ?_
      refine sg_goto ?_
      first
        | exact ⟨2, by omega, .inl ⟨rfl, rfl, S.sub _ rfl, M⟩⟩
        | (exfalso; simp only [Sh.save] at *; omega)
    clear S; intro h27 S
    refine st_condF S rfl ?_
    refine wp_skip ?_
    refine then_normal ?_
    refine wp_seq ?_
    refine wp_seq ?_
    obtain ⟨s9, S9, hs9, hM9, hI9, hrm9⟩ : ∃ s9 S9, ((s9 = s ∧ S9 = S0) ∨ (s9 = s.save ∧ S9 = s.saveD S0)) ∧ ShM w0 w3 ([.blk bRr (r.cells (.slice va x.length vc)) 30] ++ A) b bd s9 S9 ∧ ShI S9 s9 (N + 1) ∧ ((nOf (r.enc x).length : Nat) : Int) + all ≤ 24 - (s9.n - s9.a) := by
      first
        | exact ⟨s, S0, .inl ⟨rfl, rfl⟩, ShM.close (s := s) (P := [_]) hE hBk M, hI.mono (by omega) (by omega), by omega⟩
        | exact ⟨s.save, s.saveD S0, .inr ⟨rfl, rfl⟩, ShM.close (s := s.save) (P := [_]) hE hBk M, hI2, by simp only [Sh.save] at *; omega⟩
    refine wp_region_lit ?_
    refine st_go [1] S rfl (by kernel_rfl) ?_; clear S a; intro a S
    refine st_y S rfl rfl rfl (y_loadAgg (cs := [_, _, _, _, _, _, _, _, _, _, _, _]) S (by kernel_rfl) rfl rfl (M.cellsAt (k := 12) 0 rfl rfl)) ?_; clear S a; intro a S
    refine st_call (xs := [(Operand.tmp 28), (Operand.tmp 29), (Operand.const (Value.bool true))]) S (enters_of Tryz.func33 (by decide) rfl) rfl rfl rfl (keepS_any (A := [_] ++ A) (N := N + 1) r va vc x true hM9 hI9 hs (fun W M9 => hW W (M9.sub (List.sublist_append_right _ _))) hx htk hm (by omega)) ?_
    rintro _ w4 ⟨rfl, hM2⟩; refine ⟨_, rfl, ?_⟩; clear S M a; intro a S
    have M := Mem.start w4
    refine st_go [1] S rfl (by kernel_rfl) ?_; clear S a; intro a S
    refine nxC ?_
    refine wp_ret ?_
    refine then_ret ?_
    refine sg_ret ?_
    refine end_one S rfl (res_tmp rfl) ?_
    exact ⟨rfl, s9, S9, hs9, hrm9, hM2.drop⟩
  clear S a M; intro l m a wc hJ; rcases hJ with ⟨rfl, hJ⟩ | ⟨rfl, hJ⟩
  · refine ⟨_, rfl, ?_⟩
    obtain ⟨rfl, S, M⟩ := hJ
    refine wp_seq ?_
    refine wp_skip ?_
    refine then_normal ?_
    refine wp_seq ?_
    refine nxD ?_
    refine st_go [1] S rfl (by kernel_rfl) ?_; clear S a; intro a S
    refine nxC ?_
    refine st_if (t := 31) S rfl ?_ ?_
    · clear S; intro h31 S
      cases h31
    clear S; intro h31 S
    refine st_condF S rfl ?_
    refine wp_skip ?_
    refine nxE ?_
    refine st_go [1] S rfl (by kernel_rfl) ?_; clear S a; intro a S
    refine nxC ?_
    refine wp_seq ?_
    refine nxD ?_
    refine st_go [1] S rfl (by kernel_rfl) ?_; clear S a; intro a S
    refine st_call (xs := [(Operand.tmp 32)]) S (enters_of Tryz.func35 (by decide) rfl) rfl rfl rfl (saveS_any (A := [_] ++ A) (ShM.close (P := [_]) hE hBk M) hI) ?_
    rintro _ w5 ⟨rfl, hM2⟩; refine ⟨_, rfl, ?_⟩; clear S M a; intro a S
    obtain ⟨da2, dc2, lo2, hi2, cs2, es2, E2, hE2, hBk2, M⟩ := ShM.open hM2
    simp only [List.cons_append, List.nil_append] at M
    refine st_go [1] S rfl (by kernel_rfl) ?_; clear S a; intro a S
    refine nxA ?_
    refine st_go [1, 1] S rfl (by kernel_rfl) ?_; clear S a; intro a S
    refine nxC ?_
    refine st_if (t := 35) S rfl ?_ ?_
    · clear S; intro h35 S
      exact absurd rfl h35
    clear S; intro h35 S
    refine st_condF S rfl ?_
    refine wp_skip ?_
    refine then_normal ?_
    refine wp_goto ?_
    refine sg_goto ?_
    exact ⟨1, by omega, .inr ⟨rfl, rfl, da2, dc2, lo2, hi2, cs2, es2, E2, hE2, hBk2, S.sub _ rfl, M⟩⟩
  · refine ⟨_, rfl, ?_⟩
    obtain ⟨rfl, da, dc, lo, hi, cs, es, E, hE, hBk, S, M⟩ := hJ
    refine wp_seq ?_
    refine wp_skip ?_
    refine then_normal ?_
    refine wp_seq ?_
    refine nxD ?_
    refine st_go [1, 1] S rfl (by kernel_rfl) ?_; clear S a; intro a S
    (first | refine st_y S rfl rfl rfl (y_addN S rfl rfl (by omega)) ?_ | refine st_y S rfl rfl rfl (y_int S rfl rfl rfl) ?_); clear S a; intro a S
    refine st_go [1, 1, 2, 14] S rfl (by kernel_rfl) ?_; clear S a; intro a S
    refine st_y S rfl rfl rfl (y_loadAgg (cs := [_, _]) S (by kernel_rfl) rfl rfl (M.cellsAt (k := 2) 1 rfl (shC_log _ _ _))) ?_; clear S a; intro a S
    refine st_call (xs := [(Operand.tmp 25)]) S (enters_of Tryz.func53 (by decide) rfl) rfl rfl rfl (FreeJ _ _ _ (by first | exact hlg | exact hI2.lg)) ?_
    rintro _ w6 ⟨rfl, hK⟩; refine ⟨_, rfl, ?_⟩; clear S a; intro a S; replace M := M.grow hK
    refine st_go [1] S rfl (by kernel_rfl) ?_; clear S a; intro a S
    refine nxC ?_
    refine st_if (t := 27) S rfl ?_ ?_
    · clear S; intro h27 S
      refine st_condT S rfl ?_
      refine wp_goto ?_
      refine then_goto ?_
      refine sg_goto ?_
      first
        | exact ⟨2, by omega, .inl ⟨rfl, rfl, S.sub _ rfl, M⟩⟩
        | (exfalso; simp only [Sh.save] at *; omega)
    clear S; intro h27 S
    refine st_condF S rfl ?_
    refine wp_skip ?_
    refine then_normal ?_
    refine wp_seq ?_
    refine wp_seq ?_
    obtain ⟨s9, S9, hs9, hM9, hI9, hrm9⟩ : ∃ s9 S9, ((s9 = s ∧ S9 = S0) ∨ (s9 = s.save ∧ S9 = s.saveD S0)) ∧ ShM w0 w6 ([.blk bRr (r.cells (.slice va x.length vc)) 30] ++ A) b bd s9 S9 ∧ ShI S9 s9 (N + 1) ∧ ((nOf (r.enc x).length : Nat) : Int) + all ≤ 24 - (s9.n - s9.a) := by
      first
        | exact ⟨s, S0, .inl ⟨rfl, rfl⟩, ShM.close (s := s) (P := [_]) hE hBk M, hI.mono (by omega) (by omega), by omega⟩
        | exact ⟨s.save, s.saveD S0, .inr ⟨rfl, rfl⟩, ShM.close (s := s.save) (P := [_]) hE hBk M, hI2, by simp only [Sh.save] at *; omega⟩
    refine wp_region_lit ?_
    refine st_go [1] S rfl (by kernel_rfl) ?_; clear S a; intro a S
    refine st_y S rfl rfl rfl (y_loadAgg (cs := [_, _, _, _, _, _, _, _, _, _, _, _]) S (by kernel_rfl) rfl rfl (M.cellsAt (k := 12) 0 rfl rfl)) ?_; clear S a; intro a S
    refine st_call (xs := [(Operand.tmp 28), (Operand.tmp 29), (Operand.const (Value.bool true))]) S (enters_of Tryz.func33 (by decide) rfl) rfl rfl rfl (keepS_any (A := [_] ++ A) (N := N + 1) r va vc x true hM9 hI9 hs (fun W M9 => hW W (M9.sub (List.sublist_append_right _ _))) hx htk hm (by omega)) ?_
    rintro _ w7 ⟨rfl, hM2⟩; refine ⟨_, rfl, ?_⟩; clear S M a; intro a S
    have M := Mem.start w7
    refine st_go [1] S rfl (by kernel_rfl) ?_; clear S a; intro a S
    refine nxC ?_
    refine wp_ret ?_
    refine then_ret ?_
    refine sg_ret ?_
    refine end_one S rfl (res_tmp rfl) ?_
    exact ⟨rfl, s9, S9, hs9, hrm9, hM2.drop⟩
end Go.Proofs.YtndabhdepjnbcaaGreat

namespace Go.Proofs.YtndabhdepjnbcaaGreat
open Go.RowKit Go.Sort
abbrev r3 (nm : Nm) (y : Bool) : Rc := { Rc.zero with kind := 3, name := nm, yes := y }
theorem r3_may {nm : Nm} (y : Bool) (h : nm.named = true) : (r3 nm y).may [] = true := by
  simp [Rc.may, Rc.ok, Rc.rest, Rc.zero, Rc.same, h, Nm.eqb, eqWs]
theorem prRc_prOf {r : Rc} {x : List Wr} (hm : r.may x = true) (hk : r.kind = 2) : prRc (prOf r) = r := by
  rcases may_cases hm with ⟨a, -⟩ | ⟨-, e, -⟩ | ⟨a, -⟩ | ⟨a, -⟩ | ⟨a, -⟩ | ⟨a, -⟩ | ⟨a, -⟩
  all_goals first | omega | skip
  rw [e]; rfl
theorem mayQ_name {q : Pr × List Wr} (h : mayQ q) : q.1.name.named = true := by
  rcases may_cases h with ⟨a, -⟩ | ⟨-, -, h1, -⟩ | ⟨a, -⟩ | ⟨a, -⟩ | ⟨a, -⟩ | ⟨a, -⟩ | ⟨a, -⟩
  all_goals first | (simp [prRc] at a; done) | skip
  exact h1
theorem may_x {r : Rc} {x : List Wr} (h : r.may x = true) : x.length ≤ 8 := by
  have hw : ∀ {y : List Wr}, writtenB y = true → y.length ≤ 8 := fun {y} h => by unfold writtenB at h; simp at h; omega
  rcases may_cases h with ⟨-, -, -, h1⟩ | ⟨-, -, -, h1, -⟩ | ⟨-, -, e, -⟩ | ⟨-, -, e, -⟩ | ⟨-, -, e, -⟩ | ⟨-, -, e, -⟩ | ⟨-, -, e, -⟩
  · exact hw h1
  · exact hw h1
  all_goals (rw [e]; exact Nat.zero_le _)
def LocalOk (s : Sh) (r : Rc) (x : List Wr) : Prop := r.may x = true ∧ r.kind = 1 ∧ findP r.name s.ps = none
theorem scale1r_any {wc w : World} {H : List Ent} {bA : Nat} (n : Int) (r : Rc) (x : List Wr) (ad : Option Addr) (cp : Nat) (M : Mem wc w (.blk bA #[.int .i64 n] 3 :: H)) (hm : mayQ (prOf r, x)) (hW2 : ∀ W pre, Mem wc W (pre ++ H) → Ws 0 W.heap.size W (.slice ad x.length cp) x) (hn : 0 ≤ n ∧ n ≤ 1000) :
    Calls Tryz.prog 51 #[.agg #[.int .i64 r.name.stamp, .int .i64 r.name.inc, .int .i64 r.name.try_, .slice ad x.length cp, .int .i64 r.give, .int .i64 r.take], pB bA] w fun e w' => e = .returned (.int .i64 (n + (secQ (prOf r, x) + 1 : Nat))) ∧ Mem wc w' (.blk bA #[.int .i64 (n + (secQ (prOf r, x) + 1 : Nat))] 3 :: H) :=
  scale1_any n (prOf r, x) ad cp M hm hW2 hn
def PrepOk (s : Sh) (r : Rc) (x : List Wr) : Prop := r.may x = true ∧ r.kind = 2 ∧ findP r.name s.ps = none
set_option maxHeartbeats 1000000 in
set_option maxRecDepth 10000 in
theorem prepare11_any {wc w : World} {A : List Ent} {b bd : Nat} {s : Sh} {S0 : DS} {N : Int} (r : Rc) (va : Option Addr) (vc : Nat) (x : List Wr) (hM : ShM wc w A b bd s S0) (hI : ShI S0 s N) (hN : N + 2 ≤ 1000) (hinc : 1 ≤ s.x.inc) (hs : r.shards ≤ 9223372036854775807) (hW : ∀ W, Mem wc W A → Ws 0 W.heap.size W (.slice va x.length vc) x) :
    Calls Tryz.prog 13 #[pB b, .agg (r.cells (.slice va x.length vc))] w fun e w' => ∃ er, e = .returned (.int .i64 er) ∧ ((er = 0 ∧ PrepOk s r x ∧ wQ s.ps + (nOf (r.enc x).length + 1) ≤ 8 ∧ ComeP wc A b bd s S0 r x (wQ s.ps + (nOf (r.enc x).length + 1) : Nat) w') ∨ (er ≠ 0 ∧ (PrepOk s r x → er = 50 ∧ 8 < wQ s.ps + (nOf (r.enc x).length + 1)) ∧ ShM wc w' A b bd s S0)) := by
  obtain ⟨da, dc, lo, hi, cs, es, E, hE, hBk, M⟩ := hM
  have hl := hI.hl
  have hw8 := hI.w8
  have hok := stX_ok s.x s.a s.n s.k hl
  have hA : ∀ W H9, Mem wc W (H9 ++ (es ++ (A ++ E))) → Ws 0 W.heap.size W (.slice va x.length vc) x := fun W H9 M9 => hW W (M9.sub (((List.sublist_append_left A E).trans (List.sublist_append_right es _)).trans (List.sublist_append_right H9 _)))
  refine calls_enter Tryz.func13 rfl 62 rfl rfl ?_; intro a S
  refine wp_seq ?_
  skip
  refine wp_region_lit ?_
  refine st_box S M rfl rfl rfl #[_, _, _, _, _, _, _, _, _, _, _, _] rfl ?_; clear S M a; intro a w1 bRr S M hB
  refine st_go [1] S rfl (by kernel_rfl) ?_; clear S a; intro a S
  refine nxC ?_
  refine wp_seq ?_
  refine nxD ?_
  refine st_go [1] S rfl (by kernel_rfl) ?_; clear S a; intro a S
  refine st_y S rfl rfl rfl (y_eqlPS (by kernel_rfl) S rfl) ?_; clear S a; intro a S
  refine nxC ?_
  refine st_condF S rfl ?_
  refine wp_skip ?_
  refine then_normal ?_
  refine wp_seq ?_
  refine nxD ?_
  refine st_go [1, 1, 2, 1, 4] S rfl (by kernel_rfl) ?_; clear S a; intro a S
  refine st_y S rfl rfl rfl (y_load S (by kernel_rfl) rfl (M.cell 1 rfl (shC_inc _ _ _))) ?_; clear S a; intro a S
  refine st_go [1, 1] S rfl (by kernel_rfl) ?_; clear S a; intro a S
  refine st_if (t := 19) S rfl ?_ ?_
  · clear S; intro h19 S
    refine st_go [0, 0, 0, 1, 1, 0, 0, 0, 1] S rfl (by kernel_rfl) ?_; clear S a; intro a S
    replace S := S.sub [(0, _), (1, _), (3, _), (4, _), (11, _), (28, _)] rfl
    refine nxC ?_
    refine st_condT S rfl ?_
    refine nxD ?_
    refine st_go [1] S rfl (by kernel_rfl) ?_; clear S a; intro a S
    refine nxC ?_
    refine wp_ret ?_
    refine then_ret ?_
    refine end_one S rfl (res_tmp rfl) ?_
    exact ⟨2, rfl, .inr ⟨by decide, (fun h9 => by obtain ⟨k1, k2, -⟩ := h9; simp_all), ShM.close (P := []) hE hBk (M.drop 0)⟩⟩
  clear S; intro h19 S
  refine st_run [1, 1, 1, 1, 1] S M rfl (by kernel_rfl) ?_; clear S a; intro a S
  refine st_if (t := 24) S rfl ?_ ?_
  · clear S; intro h24 S
    refine st_go [0, 0, 0, 1] S rfl (by kernel_rfl) ?_; clear S a; intro a S
    replace S := S.sub [(0, _), (1, _), (3, _), (4, _), (11, _), (28, _)] rfl
    refine nxC ?_
    refine st_condT S rfl ?_
    refine nxD ?_
    refine st_go [1] S rfl (by kernel_rfl) ?_; clear S a; intro a S
    refine nxC ?_
    refine wp_ret ?_
    refine then_ret ?_
    refine end_one S rfl (res_tmp rfl) ?_
    exact ⟨2, rfl, .inr ⟨by decide, (fun h9 => by obtain ⟨k1, k2, -⟩ := h9; simp_all), ShM.close (P := []) hE hBk (M.drop 0)⟩⟩
  clear S; intro h24 S
  refine st_y S rfl rfl rfl (y_loadAgg (cs := [_, _, _, _, _, _, _, _, _, _, _, _]) S (by kernel_rfl) rfl rfl (M.cellsAt (k := 12) 0 rfl rfl)) ?_; clear S a; intro a S
  refine st_call (xs := [(Operand.tmp 25)]) S (enters_of Tryz.func29 (by decide) rfl) rfl rfl rfl (may_any r va x.length vc x _ hs (hA _ [_, _, _] M)) ?_
  rintro _ w2 ⟨rfl, hK⟩; refine ⟨_, rfl, ?_⟩; clear S a; intro a S; replace M := M.grow hK
  refine st_go [1, 1] S rfl (by kernel_rfl) ?_; clear S a; intro a S
  replace S := S.sub [(0, _), (1, _), (3, _), (4, _), (11, _), (28, _)] rfl
  refine nxC ?_
  refine st_if (t := 28) S rfl ?_ ?_
  · clear S; intro h28 S
    refine st_condT S rfl ?_
    refine nxD ?_
    refine st_go [1] S rfl (by kernel_rfl) ?_; clear S a; intro a S
    refine nxC ?_
    refine wp_ret ?_
    refine then_ret ?_
    refine end_one S rfl (res_tmp rfl) ?_
    exact ⟨2, rfl, .inr ⟨by decide, (fun h9 => by obtain ⟨k1, k2, -⟩ := h9; simp_all), ShM.close (P := []) hE hBk (M.drop 0)⟩⟩
  clear S; intro h28 S
  refine st_condF S rfl ?_
  refine wp_skip ?_
  refine then_normal ?_
  refine wp_seq ?_
  refine wp_seq ?_
  refine wp_regionK [] #[false, false, false, false, false, false, false, false, false, false, false, false] rfl M (by kernel_rfl) ?_; clear M; intro w3 M
  refine k_pure 0 S rfl (fun w => y_move S rfl) ?_; clear S a; intro a S
  refine k_pure 1 S rfl (fun w => y_nilCheck S rfl) ?_; clear S a; intro a S
  refine k_pure 2 S rfl (fun w => y_fieldAddr (k := 1) S (by kernel_rfl) rfl) ?_; clear S a; intro a S
  refine k_read 3 S rfl (fun w hW => have M := M.grow hW; y_loadAgg (k := 273) S (by kernel_rfl) rfl (by with_reducible first | exact St.len hok _ | exact shC_len hl | exact len1S _) (M.cellsMid 1 rfl (by with_reducible first | exact St.len hok _ | exact shC_len hl | exact len1S _))) ?_; clear S a; intro a S
  refine k_pure 4 S rfl (fun w => y_fieldAddr (k := 1) S (by kernel_rfl) rfl) ?_; clear S a; intro a S
  refine k_read 5 S rfl (fun w hW => have M := M.grow hW; y_loadAgg (cs := [_, _, _]) S (by kernel_rfl) rfl rfl (M.cellsAt (k := 3) 0 rfl rfl)) ?_; clear S a; intro a S
  refine k_one 6 rfl (by kernel_rfl) ?_
  refine st_call (xs := [(Operand.tmp 33), (Operand.tmp 35)]) S (enters_of Tryz.func30 (by decide) rfl) rfl rfl rfl (find_any s.st hok (.slice da s.ps.length dc) cs s.ps r.name _ (DoubtRd (A := A) (E := E) (pre := [_, _]) hBk (by omega) M)) ?_
  rintro _ w4 ⟨kk, yy, rfl, hK, hy⟩; refine ⟨_, rfl, ?_⟩; clear S a; intro a S; replace M := M.grow hK
  refine wpList_nil ?_; refine then_normal ?_; refine ⟨fun _ => hK, ?_⟩
  refine k_pure 7 S rfl (fun w => y_move S rfl) ?_; clear S a; intro a S
  refine k_pure 8 S rfl (fun w => y_extract S rfl rfl) ?_; clear S a; intro a S
  refine k_pure 9 S rfl (fun w => y_extract S rfl rfl) ?_; clear S a; intro a S
  refine k_pure 10 S rfl (fun w => y_assign S rfl) ?_; clear S a; intro a S
  refine k_pure 11 S rfl (fun w => y_assign S rfl) ?_; clear S a; intro a S
  refine k_end (by kernel_rfl) ?_
  refine nxE ?_
  refine st_go [1] S rfl (by kernel_rfl) ?_; clear S a; intro a S
  refine nxC ?_
  refine st_if (t := 39) S rfl ?_ ?_
  · clear S; intro h39 S
    refine st_condT S rfl ?_
    refine nxD ?_
    refine st_go [1] S rfl (by kernel_rfl) ?_; clear S a; intro a S
    refine nxC ?_
    refine wp_ret ?_
    refine then_ret ?_
    refine end_one S rfl (res_tmp rfl) ?_
    exact ⟨111, rfl, .inr ⟨by decide, (fun h9 => by obtain ⟨-, -, k3⟩ := h9; rw [k3] at hy; simp_all), ShM.close (P := []) hE hBk (M.drop 0)⟩⟩
  clear S; intro h39 S
  refine st_condF S rfl ?_
  refine wp_skip ?_
  refine then_normal ?_
  refine wp_seq ?_
  skip
  obtain ⟨hm, h2⟩ : r.may x = true ∧ r.kind = 2 := by simp_all
  have hf : findP r.name s.ps = none := by
    rcases hy with ⟨h9, -⟩ | ⟨-, -, h9⟩
    · simp_all
    · exact h9
  have hx8 := may_x hm
  have hpr : prRc (prOf r) = r := prRc_prOf hm h2
  have hmq : mayQ (prOf r, x) := by unfold mayQ; rw [hpr]; exact hm
  have hsq : secQ (prOf r, x) = nOf (r.enc x).length := by unfold secQ encQ; rw [hpr]
  have hno : nOf (r.enc x).length ≤ 2 := by have := enc_len hm; unfold nOf; omega
  replace M := M.perm (perm_close (P := [_]))
  refine wp_region_lit ?_
  refine st_go [1] S rfl (by kernel_rfl) ?_; clear S a; intro a S
  refine st_call (xs := [(Operand.tmp 41)]) S (enters_of Tryz.func31 (by decide) rfl) rfl rfl rfl (scales_any (A := [_] ++ A) hl hBk hI.mq (by omega) M) ?_
  rintro _ w5 ⟨bA, rfl, M1⟩; refine ⟨_, rfl, ?_⟩; clear S M a; intro a S
  have M := M1.perm (List.Perm.cons _ (perm_close (P := [_])).symm)
  clear M1
  simp only [List.cons_append, List.nil_append] at M
  refine st_go [1, 1, 1, 1, 1] S rfl (by kernel_rfl) ?_; clear S a; intro a S
  replace S := S.sub [(0, _), (1, _), (3, _), (4, _), (11, _), (28, _), (6, _), (39, _), (8, _)] rfl
  refine nxA ?_
  refine st_go [1, 2] S rfl (by kernel_rfl) ?_; clear S a; intro a S
  refine st_y S rfl rfl rfl (y_loadAgg (cs := [_, _, _]) S (by kernel_rfl) rfl rfl (M.cellsAt (k := 3) 1 rfl rfl)) ?_; clear S a; intro a S
  refine st_run [6, 2, 7, 2, 8, 2] S M rfl (by kernel_rfl) ?_; clear S a; intro a S
  refine st_y S rfl rfl rfl (y_build (ps := [(0, (Operand.tmp 47)), (1, (Operand.tmp 49)), (2, (Operand.tmp 51)), (3, (Operand.tmp 53))]) (pl := [(0, 3), (3, 1), (4, 1), (5, 1)]) (z := [.int .i64 0, .int .i64 0, .int .i64 0, .slice none 0 0, .int .i64 0, .int .i64 0]) (cs := [_, _, _, _, _, _]) S (by kernel_rfl) rfl (rfl)) ?_; clear S a; intro a S
  refine st_callB (xs := [(Operand.tmp 54)]) (fi := []) (ca := [pB bA]) S (enters_of Tryz.func51 (by decide) rfl) rfl rfl (rfl) rfl (scale1r_any (wQ s.ps : Nat) r x va vc M hmq (fun W pre M9 => hA W (pre ++ [_, _, _]) (by simpa only [List.append_assoc, List.cons_append, List.nil_append] using M9)) (by unfold wQ; omega)) ?_
  rintro _ w6 ⟨rfl, M1⟩; refine ⟨_, rfl, ?_⟩; clear S M a; intro a S
  rw [hsq, ← Int.natCast_add] at M1 S
  have M := M1
  clear M1
  refine st_go [1] S rfl (by kernel_rfl) ?_; clear S a; intro a S
  refine nxC ?_
  refine wp_seq ?_
  refine nxD ?_
  refine st_go [1, 1] S rfl (by kernel_rfl) ?_; clear S a; intro a S
  refine nxC ?_
  refine st_if (t := 57) S rfl ?_ ?_
  · clear S; intro h57 S
    refine st_condT S rfl ?_
    refine nxD ?_
    refine st_go [1] S rfl (by kernel_rfl) ?_; clear S a; intro a S
    refine nxC ?_
    refine wp_ret ?_
    refine then_ret ?_
    refine end_one S rfl (res_tmp rfl) ?_
    exact ⟨50, rfl, .inr ⟨by decide, (fun _ => ⟨rfl, by omega⟩), ShM.close (P := []) hE hBk ((M.drop 0).drop 0)⟩⟩
  clear S; intro h57 S
  refine st_condF S rfl ?_
  refine wp_skip ?_
  refine nxE ?_
  refine st_go [1] S rfl (by kernel_rfl) ?_; clear S a; intro a S
  refine st_y S rfl rfl rfl (y_loadAgg (cs := [_, _, _, _, _, _, _, _, _, _, _, _]) S (by kernel_rfl) rfl rfl (M.cellsAt (k := 12) 1 rfl rfl)) ?_; clear S a; intro a S
  refine st_go [1] S rfl (by kernel_rfl) ?_; clear S a; intro a S
  refine st_call (xs := [(Operand.tmp 58), (Operand.tmp 59), (Operand.tmp 60)]) S (enters_of Tryz.func32 (by decide) rfl) rfl rfl rfl (come_any (A := [_, _] ++ A) r va vc x (wQ s.ps + (nOf (r.enc x).length + 1) : Nat) (ShM.close (P := [_, _]) hE hBk M) hI hN hs (fun W M9 => hW W (M9.sub (List.sublist_append_right _ _))) (by omega) (by unfold takes; rw [hm, decide_eq_true (by omega)]; rfl) hm (by omega) (by unfold wQ at *; omega)) ?_
  rintro _ w7 ⟨rfl, hC⟩; refine ⟨_, rfl, ?_⟩; clear S M a; intro a S
  have M := Mem.start w7
  refine st_go [1] S rfl (by kernel_rfl) ?_; clear S a; intro a S
  replace S := S.sub [(0, _), (1, _), (3, _), (11, _), (28, _), (6, _), (39, _), (8, _), (9, _), (57, _), (4, _)] rfl
  refine nxC ?_
  refine wp_ret ?_
  refine end_one S rfl (res_tmp rfl) ?_
  obtain ⟨s1, S1, hs1, hr1, hM1⟩ := hC
  exact ⟨0, rfl, .inl ⟨rfl, ⟨hm, h2, hf⟩, by omega, s1, S1, hs1, hr1, hM1.drop⟩⟩
theorem findP_name {nm : Nm} {ps : Pl} {k : Nat} (h : findP nm ps = some k) : ∃ q, ps[k]? = some q ∧ q.1.name = nm := by
  induction ps generalizing k with
  | nil => simp [findP] at h
  | cons p ps ih =>
    rw [findP] at h
    split at h
    · rename_i hp
      obtain rfl : 0 = k := by simpa using h
      exact ⟨p, rfl, Nm.eqb_iff.1 hp⟩
    · cases hf : findP nm ps with
      | none => rw [hf] at h; simp at h
      | some j =>
        rw [hf] at h
        obtain rfl : j + 1 = k := by simpa using h
        obtain ⟨q, hq, hn⟩ := ih hf
        exact ⟨q, by simpa using hq, hn⟩
set_option maxHeartbeats 1000000 in
set_option maxRecDepth 10000 in
theorem outcome11_any {wc w : World} {A : List Ent} {b bd : Nat} {s : Sh} {S0 : DS} {N : Int} (nm : Nm) (y : Bool) (hM : ShM wc w A b bd s S0) (hI : ShI S0 s N) (hinc : 1 ≤ s.x.inc) :
    Calls Tryz.prog 14 #[pB b, .agg nm.cells, .bool y] w fun e w' => ∃ er, e = .returned (.int .i64 er) ∧ ((er = 0 ∧ (∃ k, findP nm s.ps = some k) ∧ ShM wc w' A b bd (s.keep (r3 nm y) []) (s.keepD S0 (r3 nm y) [] y)) ∨ (er ≠ 0 ∧ er = 110 ∧ findP nm s.ps = none ∧ ShM wc w' A b bd s S0)) := by
  obtain ⟨da, dc, lo, hi, cs, es, E, hE, hBk, M⟩ := hM
  have hl := hI.hl
  have hw8 := hI.w8
  have hok := stX_ok s.x s.a s.n s.k hl
  refine calls_enter Tryz.func14 rfl 35 rfl rfl ?_; intro a S
  refine wp_seq ?_
  skip
  refine wp_region_lit ?_
  refine st_box S M rfl rfl rfl #[_, _, _] rfl ?_; clear S M a; intro a w1 bRr S M hB
  refine st_go [1] S rfl (by kernel_rfl) ?_; clear S a; intro a S
  refine nxC ?_
  refine wp_seq ?_
  refine nxD ?_
  refine st_go [1] S rfl (by kernel_rfl) ?_; clear S a; intro a S
  refine st_y S rfl rfl rfl (y_eqlPS (by kernel_rfl) S rfl) ?_; clear S a; intro a S
  refine nxC ?_
  refine st_condF S rfl ?_
  refine wp_skip ?_
  refine then_normal ?_
  refine wp_seq ?_
  refine nxD ?_
  refine st_go [1, 1, 2, 1, 4] S rfl (by kernel_rfl) ?_; clear S a; intro a S
  refine st_y S rfl rfl rfl (y_load S (by kernel_rfl) rfl (M.cell 1 rfl (shC_inc _ _ _))) ?_; clear S a; intro a S
  refine st_go [1] S rfl (by kernel_rfl) ?_; clear S a; intro a S
  refine nxC ?_
  refine st_if (t := 17) S rfl ?_ ?_
  · clear S; intro h17 S
    exfalso; omega
  clear S; intro h17 S
  refine st_condF S rfl ?_
  refine wp_skip ?_
  refine then_normal ?_
  refine wp_seq ?_
  refine wp_seq ?_
  refine wp_regionK [] #[false, false, false, false, false, false, false, false, false, false, false] rfl M (by kernel_rfl) ?_; clear M; intro w2 M
  refine k_pure 0 S rfl (fun w => y_move S rfl) ?_; clear S a; intro a S
  refine k_pure 1 S rfl (fun w => y_nilCheck S rfl) ?_; clear S a; intro a S
  refine k_pure 2 S rfl (fun w => y_fieldAddr (k := 1) S (by kernel_rfl) rfl) ?_; clear S a; intro a S
  refine k_read 3 S rfl (fun w hW => have M := M.grow hW; y_loadAgg (k := 273) S (by kernel_rfl) rfl (by with_reducible first | exact St.len hok _ | exact shC_len hl | exact len1S _) (M.cellsMid 1 rfl (by with_reducible first | exact St.len hok _ | exact shC_len hl | exact len1S _))) ?_; clear S a; intro a S
  refine k_read 4 S rfl (fun w hW => have M := M.grow hW; y_loadAgg (cs := [_, _, _]) S (by kernel_rfl) rfl rfl (M.cellsAt (k := 3) 0 rfl rfl)) ?_; clear S a; intro a S
  refine k_one 5 rfl (by kernel_rfl) ?_
  refine st_call (xs := [(Operand.tmp 22), (Operand.tmp 23)]) S (enters_of Tryz.func30 (by decide) rfl) rfl rfl rfl (find_any s.st hok (.slice da s.ps.length dc) cs s.ps nm _ (DoubtRd (A := A) (E := E) (pre := [_, _]) hBk (by omega) M)) ?_
  rintro _ w3 ⟨kk, yy, rfl, hK, hy⟩; refine ⟨_, rfl, ?_⟩; clear S a; intro a S; replace M := M.grow hK
  refine wpList_nil ?_; refine then_normal ?_; refine ⟨fun _ => hK, ?_⟩
  refine k_pure 6 S rfl (fun w => y_move S rfl) ?_; clear S a; intro a S
  refine k_pure 7 S rfl (fun w => y_extract S rfl rfl) ?_; clear S a; intro a S
  refine k_pure 8 S rfl (fun w => y_extract S rfl rfl) ?_; clear S a; intro a S
  refine k_pure 9 S rfl (fun w => y_assign S rfl) ?_; clear S a; intro a S
  refine k_pure 10 S rfl (fun w => y_assign S rfl) ?_; clear S a; intro a S
  refine k_end (by kernel_rfl) ?_
  replace S := S.sub [(0, _), (1, _), (2, _), (4, _), (6, _), (10, _), (17, _), (8, _)] rfl
  refine nxE ?_
  refine st_go [1, 1] S rfl (by kernel_rfl) ?_; clear S a; intro a S
  refine nxC ?_
  refine st_if (t := 28) S rfl ?_ ?_
  · clear S; intro h28 S
    refine st_condT S rfl ?_
    refine nxD ?_
    refine st_go [1] S rfl (by kernel_rfl) ?_; clear S a; intro a S
    refine nxC ?_
    refine wp_ret ?_
    refine then_ret ?_
    refine end_one S rfl (res_tmp rfl) ?_
    exact ⟨110, rfl, .inr ⟨by decide, rfl, (hy.elim (fun h9 => by simp_all) (fun h9 => h9.2.2)), ShM.close (P := []) hE hBk (M.drop 0)⟩⟩
  clear S; intro h28 S
  refine st_condF S rfl ?_
  refine wp_skip ?_
  refine then_normal ?_
  refine wp_seq ?_
  have hf : findP nm s.ps = some kk := by
    rcases hy with ⟨-, h9⟩ | ⟨h9, -, -⟩
    · exact h9
    · simp_all
  obtain ⟨q, hq, hqn⟩ := findP_name hf
  have hmq := hI.mq q (List.mem_of_getElem? hq)
  have hm : (r3 nm y).may [] = true := r3_may y (by rw [← hqn]; exact mayQ_name hmq)
  have hno : nOf ((r3 nm y).enc []).length ≤ 2 := by have := enc_len hm; unfold nOf; omega
  have hrm := hI.room
  have hpl := (List.getElem?_eq_some_iff.1 hq).1
  have hsq := secQ_le hmq
  have hw1 : secQ q ≤ wtP s.ps := by
    have h1 := wtP_take hq
    have h2 : wtP s.ps = wtP (s.ps.take (kk + 1)) + wtP (s.ps.drop (kk + 1)) := by rw [← wtP_append, List.take_append_drop]
    omega
  refine wp_region_lit ?_
  refine st_go [1] S rfl (by kernel_rfl) ?_; clear S a; intro a S
  refine st_y S rfl rfl rfl (y_loadAgg (cs := [_, _, _]) S (by kernel_rfl) rfl rfl (M.cellsAt (k := 3) 0 rfl rfl)) ?_; clear S a; intro a S
  refine st_go [1] S rfl (by kernel_rfl) ?_; clear S a; intro a S
  refine st_y S rfl rfl rfl (y_build (ps := [(0, (Operand.const (Value.int IntKind.i8 3))), (1, (Operand.tmp 30)), (2, (Operand.tmp 31))]) (pl := [(0, 1), (1, 3), (4, 1), (5, 1), (6, 1), (7, 1), (8, 1), (9, 2), (11, 1)]) (z := [.int .i8 0, .int .i64 0, .int .i64 0, .int .i64 0, .bool false, .slice none 0 0, .int .i64 0, .int .i64 0, .int .i64 0, .int .i64 0, .int .i64 0, .int .i64 0]) (cs := [_, _, _, _, _, _, _, _, _, _, _, _]) S (by kernel_rfl) rfl (rfl)) ?_; clear S a; intro a S
  refine st_go [1] S rfl (by kernel_rfl) ?_; clear S a; intro a S
  refine st_call (xs := [(Operand.tmp 29), (Operand.tmp 32), (Operand.tmp 33)]) S (enters_of Tryz.func33 (by decide) rfl) rfl rfl rfl (keepS_any (A := [_] ++ A) (N := N) (r3 nm y) none 0 [] y (ShM.close (P := [_]) hE hBk M) hI (by show (0 : Int) ≤ _; omega) (fun W M9 => Rd.nil 0 _ _ 9) (by decide) (by unfold takes; rw [hm]; rfl) hm (by omega)) ?_
  rintro _ w4 ⟨rfl, hC⟩; refine ⟨_, rfl, ?_⟩; clear S M a; intro a S
  have M := Mem.start w4
  refine st_go [1] S rfl (by kernel_rfl) ?_; clear S a; intro a S
  refine nxC ?_
  refine wp_ret ?_
  refine end_one S rfl (res_tmp rfl) ?_
  exact ⟨0, rfl, .inl ⟨rfl, ⟨kk, hf⟩, hC.drop⟩⟩
end Go.Proofs.YtndabhdepjnbcaaGreat

