/-
  Package journal: write, Append.
-/
import Derived.Test.YtafejnbfgkkjkaaJa
import Derived.Test.YtafejnbfgkkjkaaDkf
import Derived.Test.YtafejnbfgkkjkaaL4D
import Derived.Test.YtafejnbfgkkjkaaBack
namespace Go.Proofs.Ytafejnbfgkkjkaa
open Go.RowKit Go.Sort

theorem seatOf (s : Int) : 0 ≤ 2 + s % 24 ∧ 2 + s % 24 < 34 := by omega
set_option maxHeartbeats 1000000 in
theorem write1_any {wc w : World} {A E : List Ent} {b : Nat} {S0 : DS} (f : Fr) (ad : Option Addr) (c : Nat) (ld : List UInt8) (hE : DkE b S0 E) (M : Mem wc w (A ++ E)) (hv : RdH wc A (.slice ad ld.length c) ld) (hup : S0.down = false) (hm : f.may ld.length = true) (hw : ∀ k, (S0.cache k).length ≤ 1000000) :
    Calls Try.prog 22 #[.pointer (some ⟨b, 0, none⟩), .agg (f.cells (.slice ad ld.length c)).toArray] w fun e w' => e = .returned (.int .i64 0) ∧ ∃ E', DkE b (S0.write (2 + f.seq % 24) (bytesF f ld)) E' ∧ Mem wc w' (A ++ E') := by
  have hm2 := hm
  simp only [Fr.may, decide_eq_true_eq] at hm2
  have hA : ∀ W, Mem wc W (A ++ E) → Bs 0 W.heap.size W (.slice ad ld.length c) ld := fun W M => hv _ (M.sub (List.sublist_append_left _ _))
  have hpe : plE f.seq = 0 := by unfold plE; rw [if_pos hm2.1]
  have hpv : plV f.seq = 2 + f.seq % 24 := by unfold plV; rw [if_pos hm2.1]
  have h64 := bytesF_length hm
  refine calls_enter Try.func22 rfl 29 rfl rfl ?_; intro a S
  refine nxD ?_
  refine st_box S M rfl rfl rfl #[_, _, _, _, _, _] rfl ?_; clear S M a; intro a w1 bB S M hB
  refine st_go [1] S rfl (by kernel_rfl) ?_; clear S a; intro a S
  refine nxA ?_
  refine st_run [1, 1] S M rfl (by kernel_rfl) ?_; clear S a; intro a S
  refine st_call (xs := [(Operand.tmp 10)]) S (enters_of Try.func35 (by decide) rfl) rfl rfl rfl (PlaceJ f.seq _) ?_
  rintro _ w2 ⟨rfl, hK⟩; refine ⟨_, rfl, ?_⟩; clear S a; intro a S; replace M := M.grow hK
  refine st_go [1, 1, 1, 1, 1] S rfl (by kernel_rfl) ?_; clear S a; intro a S
  refine nxC ?_
  refine wp_seq ?_
  refine wp_seq ?_
  rw [hpe, hpv] at S
  refine wp_region_lit ?_
  refine st_go [1, 1] S rfl (by kernel_rfl) ?_; clear S a; intro a S
  refine nxC ?_
  refine st_if (t := 15) S rfl ?_ ?_
  · clear S; intro h15 S
    exact absurd rfl h15
  clear S; intro h15 S
  refine st_condF S rfl ?_
  refine wp_skip ?_
  refine nxE ?_
  refine st_y S rfl rfl rfl (y_loadAgg (cs := [_, _, _, _, _, _]) S (by kernel_rfl) rfl rfl (M.cellsAt (k := 6) 0 rfl rfl)) ?_; clear S a; intro a S
  refine st_call (xs := [(Operand.tmp 18)]) S (enters_of Try.func36 (by decide) rfl) rfl rfl rfl (bytes_any f (.slice ad ld.length c) ld _ (hA _ (M.drop 0))) ?_
  rintro _ w3 hP; obtain ⟨vb, lo, hi, rfl, hK, M2⟩ := bytes_uni M hP; refine ⟨_, rfl, ?_⟩; clear S M a; intro a S; have M := M2; clear M2
  rw [if_pos hm] at S
  rw [ifL_pos hm] at M
  refine st_go [1, 1, 1, 1, 1] S rfl (by kernel_rfl) ?_; clear S a; intro a S
  refine nxC ?_
  refine wp_seq ?_
  refine nxD ?_
  refine st_go [1, 1] S rfl (by kernel_rfl) ?_; clear S a; intro a S
  replace S := S.sub [(0, _), (1, _), (3, _), (4, _), (5, _), (15, _), (7, _), (6, _), (23, _)] rfl
  refine nxC ?_
  refine st_if (t := 23) S rfl ?_ ?_
  · clear S; intro h23 S
    exact absurd rfl h23
  clear S; intro h23 S
  refine st_condF S rfl ?_
  refine wp_skip ?_
  refine nxE ?_
  refine st_go [1, 1, 1] S rfl (by kernel_rfl) ?_; clear S a; intro a S
  refine st_call (xs := [(Operand.tmp 25), (Operand.tmp 26), (Operand.tmp 27)]) S (enters_of Try.func37 (by decide) rfl) rfl rfl rfl (write_any (A := _ :: _ :: A) (k := 2 + f.seq % 24) (bs := bytesF f ld) hE M (fun W M => M.readAll 0 rfl (by unfold maxLen; omega)) hup (seatOf _) (by omega) (hw _)) ?_
  rintro _ w4 ⟨rfl, E', hE', M2⟩; refine ⟨_, rfl, ?_⟩; clear S M a; intro a S; have M := M2; clear M2
  rw [pad64_eq h64] at hE'
  refine st_go [1] S rfl (by kernel_rfl) ?_; clear S a; intro a S
  refine nxC ?_
  refine wp_ret ?_
  refine end_one S rfl (res_tmp rfl) ?_
  exact ⟨rfl, E', hE', (M.drop 0).drop 0⟩
def putF (S : DS) (fs : List (Fr × List UInt8)) : DS := fs.foldl (fun S x => S.write (2 + x.1.seq % 24) (bytesF x.1 x.2)) S
def appOk (t n : Int) (bs : List UInt8) : Prop := bs ≠ [] ∧ bs.length ≤ 90 ∧ (nOf bs.length : Int) ≤ 24 - (n - t)
instance (t n : Int) (bs : List UInt8) : Decidable (appOk t n bs) := by unfold appOk; infer_instance
def AppP (t n inc : Int) (bs : List UInt8) (S0 : DS) (n' er : Int) (S1 : DS) : Prop := (appOk t n bs ∧ n' = n + (nOf bs.length : Nat) ∧ er = 0 ∧ S1 = putF S0 (cutF bs n inc)) ∨ (¬ appOk t n bs ∧ n' = n ∧ er ≠ 0 ∧ S1 = S0)
theorem write_cache_le {S : DS} {k : Int} {bs : List UInt8} {m : Nat} (h : ∀ j, (S.cache j).length ≤ m) (j : Int) : ((S.write k bs).cache j).length ≤ m + 1 := by
  unfold DS.write
  simp only
  split
  · rw [List.length_append]; have := h k; simp; omega
  · have := h j; omega
theorem putF_cache_le (fs : List (Fr × List UInt8)) : ∀ {S : DS} {m : Nat}, (∀ j, (S.cache j).length ≤ m) → ∀ j, ((putF S fs).cache j).length ≤ m + fs.length := by
  induction fs with
  | nil => intro S m h j; exact h j
  | cons x fs ih =>
    intro S m h j
    have := ih (write_cache_le (k := 2 + x.1.seq % 24) (bs := bytesF x.1 x.2) h) j
    rw [List.length_cons]
    unfold putF at this ⊢
    rw [List.foldl_cons]; omega
theorem putF_down (fs : List (Fr × List UInt8)) : ∀ (S : DS), (putF S fs).down = S.down := by
  induction fs with
  | nil => intro S; rfl
  | cons x fs ih => intro S; exact ih _
theorem putF_snoc (S : DS) (fs : List (Fr × List UInt8)) (x : Fr × List UInt8) : putF S (fs ++ [x]) = (putF S fs).write (2 + x.1.seq % 24) (bytesF x.1 x.2) := by unfold putF; rw [List.foldl_append]; rfl
theorem nOf_le {n : Nat} (h : n ≤ 90) : nOf n ≤ 2 := by unfold nOf; omega
set_option maxHeartbeats 2000000 in
theorem append_any {wc w : World} {A E : List Ent} {b : Nat} {S0 : DS} (t n inc : Int) (v : Value) (bs : List UInt8) (hE : DkE b S0 E) (M : Mem wc w (A ++ E)) (hv : RdH wc A v bs) (hup : S0.down = false) (hl : mayL t n) (hn : n ≤ 2147483648) (hi : 0 ≤ inc ∧ inc ≤ 1048576) (hw : ∀ k, (S0.cache k).length ≤ 100000) :
    Calls Try.prog 9 #[.pointer (some ⟨b, 0, none⟩), .agg #[.int .i64 t, .int .i64 n], .int .i64 inc, v] w fun e w' => ∃ n' er S1, e = .returned (.tuple #[.agg #[.int .i64 t, .int .i64 n'], .int .i64 er]) ∧ AppP t n inc bs S0 n' er S1 ∧ ∃ E', DkE b S1 E' ∧ Mem wc w' (A ++ E') := by
  have hA : ∀ W, Mem wc W (A ++ E) → Bs 0 W.heap.size W v bs := fun W M => hv _ (M.sub (List.sublist_append_left _ _))
  have hl' := hl
  refine calls_enter Try.func9 rfl 63 rfl rfl ?_; intro a S
  refine nxD ?_
  refine st_box S M rfl rfl rfl #[_, _] rfl ?_; clear S M a; intro a w1 bL S M hB
  refine st_alloc S M rfl rfl #[.int .i64 0, .int .i64 0] (by kernel_rfl) ?_; clear S M a; intro a w2 bR S M hB
  refine st_go [1] S rfl (by kernel_rfl) ?_; clear S a; intro a S
  refine nxC ?_
  refine wp_seq ?_
  refine nxD ?_
  refine st_go [1] S rfl (by kernel_rfl) ?_; clear S a; intro a S
  refine st_y S rfl rfl rfl (y_eqlPS (by kernel_rfl) S rfl) ?_; clear S a; intro a S
  refine nxC ?_
  refine st_condF S rfl ?_
  refine wp_skip ?_
  refine then_normal ?_
  refine wp_seq ?_
  refine nxD ?_
  refine st_y S rfl rfl rfl (y_loadAgg (cs := [_, _]) S (by kernel_rfl) rfl rfl (M.cellsAt (k := 2) 1 rfl rfl)) ?_; clear S a; intro a S
  refine st_call (xs := [(Operand.tmp 20)]) S (enters_of Try.func19 (by decide) rfl) rfl rfl rfl (MayJ t n _) ?_
  rintro _ w3 ⟨rfl, hK⟩; refine ⟨_, rfl, ?_⟩; clear S a; intro a S; replace M := M.grow hK
  refine st_go [1] S rfl (by kernel_rfl) ?_; clear S a; intro a S
  refine nxC ?_
  refine st_if (t := 22) S rfl ?_ ?_
  · clear S; intro h22 S
    exfalso; omega
  clear S; intro h22 S
  refine st_condF S rfl ?_
  refine wp_skip ?_
  refine nxE ?_
  refine st_run [1, 2, 2, 1] S M rfl (by kernel_rfl) ?_; clear S a; intro a S
  refine st_call (xs := [(Operand.tmp 25), (Operand.tmp 27), (Operand.tmp 28)]) S (enters_of Try.func20 (by decide) rfl) rfl rfl rfl (cut_any v bs n inc _ (hA _ ((M.drop 0).drop 0)) (by omega)) ?_
  rintro _ w4 ⟨vc, rfl, hK, cs, hF⟩; refine ⟨_, rfl, ?_⟩; clear S a; intro a S
  obtain ⟨lo, hi2, hlo, M2⟩ := M.pushFrs hK hF; clear M; have M := M2; clear M2
  refine st_go [1, 1, 1, 1, 1] S rfl (by kernel_rfl) ?_; clear S a; intro a S
  refine nxC ?_
  refine wp_seq ?_
  refine nxD ?_
  refine st_go [1, 1] S rfl (by kernel_rfl) ?_; clear S a; intro a S
  refine nxC ?_
  refine st_split (t := 33) S rfl ?_ ?_
  · clear S; intro h33 S
    refine st_condT S rfl ?_
    refine nxD ?_
    refine st_y S rfl rfl rfl (y_loadAgg (cs := [_, _]) S (by kernel_rfl) rfl rfl (M.cellsAt (k := 2) 2 rfl rfl)) ?_; clear S a; intro a S
    refine st_go [1] S rfl (by kernel_rfl) ?_; clear S a; intro a S
    refine st_store (sz := 2) (us := [_, _]) S M 1 rfl (by kernel_rfl) rfl rfl rfl rfl rfl rfl (by first | decide | (simp; done) | (simp; omega)) ?_; clear M; intro w5 M
    simp only [putL, List.set_cons_zero, List.set_cons_succ, Nat.reduceAdd] at M
    refine st_go [1] S rfl (by kernel_rfl) ?_; clear S a; intro a S
    replace S := S.sub [(0, _), (1, _), (2, _), (3, _), (5, _), (8, _), (18, _), (22, _), (10, _), (11, _), (33, _), (9, _)] rfl
    refine nxC ?_
    refine wp_ret ?_
    refine then_ret ?_
    refine end_two S rfl (res_agg (cs := [_, _]) (by kernel_rfl) rfl rfl (M.cellsAt (k := 2) 1 rfl rfl)) (res_tmp rfl) ?_
    refine ⟨n, _, S0, rfl, .inr ⟨?_, rfl, ?_, rfl⟩, E, hE, ((M.drop 0).drop 0).drop 0⟩
    · intro hok
      have hc : cutOk bs n inc := ⟨hok.1, by omega, hi, hok.2.1, by have := nOf_le hok.2.1; omega⟩
      rw [cutE_zero.2 hc] at h33; simp at h33
    · intro h0; rw [h0] at h33; simp at h33
  clear S; intro h33 S
  refine st_condF S rfl ?_
  refine wp_skip ?_
  refine then_normal ?_
  refine wp_seq ?_
  have hc : cutOk bs n inc := by
    rw [← cutE_zero]; simpa using h33
  have hcl : (cutF bs n inc).length = nOf bs.length := by unfold cutF; simp
  have hcR : cutR bs n inc = cutF bs n inc := by unfold cutR; rw [if_pos hc]
  rw [hcR] at M
  have hn2 := nOf_le hc.2.2.2.1
  have hF0 := (M.own 0 rfl)
  obtain ⟨va, vcp, rfl, -, -⟩ := (hF0.1).form
  rw [hcl] at S M
  refine wp_region_lit ?_
  refine st_y S rfl rfl rfl (y_loadAgg (cs := [_, _]) S (by kernel_rfl) rfl rfl (M.cellsAt (k := 2) 2 rfl rfl)) ?_; clear S a; intro a S
  refine st_go [1] S rfl (by kernel_rfl) ?_; clear S a; intro a S
  refine st_y S rfl rfl rfl (y_lenS (E := 59) S rfl (by kernel_rfl)) ?_; clear S a; intro a S
  refine st_call (xs := [(Operand.tmp 37), (Operand.tmp 39)]) S (enters_of Try.func21 (by decide) rfl) rfl rfl rfl (TakeJ t n (nOf bs.length) _ hl (by omega)) ?_
  rintro _ w6 ⟨er, x, y, tv, rfl, hK2, hT⟩; refine ⟨_, rfl, ?_⟩; clear S a; intro a S; replace M := M.grow hK2
  refine st_go [1, 1, 1, 1] S rfl (by kernel_rfl) ?_; clear S a; intro a S
  refine st_alloc S M rfl rfl #[.int .i64 0, .int .i64 0] (by kernel_rfl) ?_; clear S M a; intro a w7 bT S M hB
  refine st_store (sz := 2) (us := [_, _]) S M 0 rfl (by kernel_rfl) rfl rfl rfl rfl rfl rfl (by first | decide | (simp; done) | (simp; omega)) ?_; clear M; intro w8 M
  simp only [putL, List.set_cons_zero, List.set_cons_succ, Nat.reduceAdd] at M
  refine st_go [1, 1] S rfl (by kernel_rfl) ?_; clear S a; intro a S
  replace S := S.sub [(0, _), (1, _), (2, _), (3, _), (5, _), (8, _), (9, _), (18, _), (22, _), (10, _), (33, _), (12, _), (11, _)] rfl
  refine nxC ?_
  refine wp_seq ?_
  refine nxD ?_
  refine st_go [1, 1] S rfl (by kernel_rfl) ?_; clear S a; intro a S
  refine nxC ?_
  refine st_if (t := 45) S rfl ?_ ?_
  · clear S; intro h45 S
    refine st_condT S rfl ?_
    refine nxD ?_
    refine st_y S rfl rfl rfl (y_loadAgg (cs := [_, _]) S (by kernel_rfl) rfl rfl (M.cellsAt (k := 2) 3 rfl rfl)) ?_; clear S a; intro a S
    refine st_go [1] S rfl (by kernel_rfl) ?_; clear S a; intro a S
    refine st_store (sz := 2) (us := [_, _]) S M 2 rfl (by kernel_rfl) rfl rfl rfl rfl rfl rfl (by first | decide | (simp; done) | (simp; omega)) ?_; clear M; intro w9 M
    simp only [putL, List.set_cons_zero, List.set_cons_succ, Nat.reduceAdd] at M
    refine st_go [1] S rfl (by kernel_rfl) ?_; clear S a; intro a S
    refine nxC ?_
    refine wp_ret ?_
    refine then_ret ?_
    refine end_two S rfl (res_agg (cs := [_, _]) (by kernel_rfl) rfl rfl (M.cellsAt (k := 2) 2 rfl rfl)) (res_tmp rfl) ?_
    refine ⟨n, _, S0, rfl, .inr ⟨?_, rfl, ?_, rfl⟩, E, hE, (((M.drop 0).drop 0).drop 0).drop 0⟩
    · intro hok
      rcases hT with ⟨rfl, -⟩ | ⟨-, hno⟩
      · omega
      · exact hno ⟨hok.2.2, by omega⟩
    · intro h0; omega
  clear S; intro h45 S
  refine st_condF S rfl ?_
  refine wp_skip ?_
  refine then_normal ?_
  refine wp_seq ?_
  refine wp_seq ?_
  obtain ⟨rfl, hfit, rfl, rfl⟩ : er = 0 ∧ fitsL t n (nOf bs.length : Nat) ∧ t = x ∧ n + (nOf bs.length : Nat) = y := by
    rcases hT with h | ⟨h, -⟩
    · exact h
    · omega
  refine wp_region_lit ?_
  refine st_go [1] S rfl (by kernel_rfl) ?_; clear S a; intro a S
  refine st_y S rfl rfl rfl (y_lenS (E := 59) S rfl (by kernel_rfl)) ?_; clear S a; intro a S
  refine st_go [1] S rfl (by kernel_rfl) ?_; clear S a; intro a S
  refine nxC ?_
  refine wp_block ?_
  refine wp_loop_g (fun m a w' => ∃ (i : Nat) (E1 : List Ent), i ≤ nOf bs.length ∧ m = nOf bs.length - i ∧ DkE b (putF S0 ((cutF bs n inc).take i)) E1 ∧ Sees 63 a [(0, .pointer (some ⟨b, 0, none⟩)), (5, .pointer (some ⟨bL, 0, none⟩)), (8, .pointer (some ⟨bR, 0, none⟩)), (12, .pointer (some ⟨bT, 0, none⟩)), (48, .slice va (nOf bs.length) vcp), (49, .int .i64 (nOf bs.length : Int)), (50, .int .i64 (i : Int))] ∧ Mem wc w' ([.blk bT #[.int .i64 t, .int .i64 (n + (nOf bs.length : Nat))] 27, .own lo hi2 (fun w => FrsC cs lo hi2 w (.slice va (nOf bs.length) vcp) (cutF bs n inc)), .blk bR #[.int .i64 0, .int .i64 0] 27, .blk bL #[.int .i64 t, .int .i64 n] 27] ++ A ++ E1)) (nOf bs.length) ?_ ?_
  · skip
    exact ⟨0, E, Nat.zero_le _, rfl, hE, S.sub _ rfl, M⟩
  clear S M a; intro m a wl
  rintro ⟨i, E1, hi', rfl, hE1, S, M⟩
  replace M := M
  simp only [List.cons_append, List.nil_append] at M
  refine nxD ?_
  refine st_go [1] S rfl (by kernel_rfl) ?_; clear S a; intro a S
  refine nxC ?_
  refine wp_seq ?_
  refine st_fi (t := 51) S rfl ?_ ?_
  · clear S; intro h51 S
    refine st_condF S rfl ?_
    refine wp_exit ?_
    refine then_exit ?_
    refine then_exit ?_
    refine block_hit ?_
    refine nxE ?_
    refine st_y S rfl rfl rfl (y_loadAgg (cs := [_, _]) S (by kernel_rfl) rfl rfl (M.cellsAt (k := 2) 0 rfl rfl)) ?_; clear S a; intro a S
    refine st_store (sz := 2) (us := [_, _]) S M 2 rfl (by kernel_rfl) rfl rfl rfl rfl rfl rfl (by first | decide | (simp; done) | (simp; omega)) ?_; clear M; intro w13 M
    simp only [putL, List.set_cons_zero, List.set_cons_succ, Nat.reduceAdd] at M
    refine st_go [1] S rfl (by kernel_rfl) ?_; clear S a; intro a S
    refine nxC ?_
    refine wp_ret ?_
    refine end_two S rfl (res_agg (cs := [_, _]) (by kernel_rfl) rfl rfl (M.cellsAt (k := 2) 2 rfl rfl)) (res_tmp rfl) ?_
    obtain rfl : i = nOf bs.length := by omega
    rw [List.take_of_length_le (by omega)] at hE1
    exact ⟨_, 0, _, rfl, .inl ⟨⟨hc.1, hc.2.2.2.1, hfit.1⟩, rfl, rfl, rfl⟩, E1, hE1, (((M.drop 0).drop 0).drop 0).drop 0⟩
  clear S; intro h51 S
  refine st_condT S rfl ?_
  refine wp_skip ?_
  refine then_normal ?_
  refine wp_seq ?_
  refine wp_block ?_
  refine wp_seq ?_
  have hlt : i < nOf bs.length := by omega
  have hF1 := M.own 1 rfl
  obtain ⟨f, ld, hfi⟩ : ∃ f ld, (cutF bs n inc)[i]? = some (f, ld) := ⟨_, _, List.getElem?_eq_getElem (by omega)⟩
  obtain ⟨lv, hrow, hlv0⟩ := hF1.2 i f ld hfi
  have hmay : f.may ld.length = true := by
    have e := cutR_get hc hlt
    rw [hcR, hfi] at e
    have := frOf_may hc hlt
    rw [← Option.some.inj e] at this; exact this
  obtain ⟨la, lc, rfl, -, -⟩ := hlv0.form
  refine wp_region_lit ?_
  refine st_y S rfl rfl rfl (y_indexR (e := 59) (sz := 6) S (by kernel_rfl) rfl ((by have h := (M.own 1 rfl).1.wide (Nat.zero_le _) (M.fits _ (List.mem_of_getElem? (show _[1]? = _ from rfl))).2; rw [hcl] at h; exact h)) rfl (by first | omega | (simp; done) | (simp; omega))) ?_; clear S a; intro a S
  try simp only [Int.toNat_natCast, Nat.mul_one, Nat.zero_add] at S
  refine st_y S rfl rfl rfl (y_loadAgg S (by kernel_rfl) rfl rfl (((M.own 1 rfl).row hfi hrow).1)) ?_; clear S a; intro a S
  refine st_alloc S M rfl rfl #[.int .i64 0, .int .i64 0, .int .i64 0, .int .i64 0, .int .u32 0, .slice none 0 0] (by kernel_rfl) ?_; clear S M a; intro a w10 bX S M hB
  refine st_store (sz := 6) (us := [_, _, _, _, _, _]) S M 0 rfl (by kernel_rfl) rfl rfl rfl rfl rfl rfl (by first | decide | (simp; done) | (simp; omega)) ?_; clear M; intro w11 M
  simp only [putL, List.set_cons_zero, List.set_cons_succ, Nat.reduceAdd] at M
  refine nxA ?_
  refine st_go [1] S rfl (by kernel_rfl) ?_; clear S a; intro a S
  refine st_y S rfl rfl rfl (y_loadAgg (cs := [_, _, _, _, _, _]) S (by kernel_rfl) rfl rfl (M.cellsAt (k := 6) 0 rfl rfl)) ?_; clear S a; intro a S
  refine st_call (xs := [(Operand.tmp 54), (Operand.tmp 55)]) S (enters_of Try.func22 (by decide) rfl) rfl rfl rfl (write1_any (A := _ :: _ :: _ :: _ :: _ :: A) f la lc ld hE1 M (fun W M => (((M.own 2 rfl).row hfi hrow).2).wide (Nat.zero_le _) (M.fits _ (List.mem_of_getElem? (show _[2]? = _ from rfl))).2) (by rw [putF_down]; exact hup) hmay (fun k => by have := putF_cache_le ((cutF bs n inc).take i) hw k; rw [List.length_take] at this; omega)) ?_
  rintro _ w12 ⟨rfl, E2, hE2, M2⟩; refine ⟨_, rfl, ?_⟩; clear S M a; intro a S; have M := M2; clear M2
  simp only [List.cons_append, List.nil_append] at M
  refine st_go [1] S rfl (by kernel_rfl) ?_; clear S a; intro a S
  refine nxA ?_
  refine st_go [1, 1] S rfl (by kernel_rfl) ?_; clear S a; intro a S
  refine nxC ?_
  refine st_if (t := 58) S rfl ?_ ?_
  · clear S; intro h58 S
    exact absurd rfl h58
  clear S; intro h58 S
  refine st_condF S rfl ?_
  refine wp_skip ?_
  refine block_normal ?_
  refine nxF ?_
  (first | refine st_y S rfl rfl rfl (y_addN S rfl rfl (by omega)) ?_ | refine st_y S rfl rfl rfl (y_int S rfl rfl rfl) ?_); clear S a; intro a S
  refine st_go [1] S rfl (by kernel_rfl) ?_; clear S a; intro a S
  refine nxC ?_
  skip
  replace M := M.drop 0
  simp only [List.eraseIdx_cons_succ, List.eraseIdx_cons_zero] at M
  refine ⟨nOf bs.length - (i + 1), by omega, i + 1, E2, by omega, rfl, ?_, S.sub _ rfl, M⟩
  obtain ⟨hlt2, he⟩ := List.getElem?_eq_some_iff.1 hfi
  rw [List.take_succ_eq_append_getElem hlt2, he, putF_snoc]
  exact hE2
end Go.Proofs.Ytafejnbfgkkjkaa
