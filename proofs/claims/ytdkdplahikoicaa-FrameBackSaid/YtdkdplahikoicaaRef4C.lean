/-
  The document's frames: Read.
-/
import Derived.Test.YtdkdplahikoicaaRef4B
namespace Go.Proofs.Ytdkdplahikoicaa
open Go.RowKit Go.Sort

theorem getN_take {X : List UInt8} {i k : Nat} (hk : 1 ≤ k ∧ k ≤ 6) (h : i + k ≤ X.length) : getN X (i : Int) (k : Int) = (leN ((X.drop i).take k) : Int) := by
  unfold getN; rw [if_pos (by omega)]; rfl
theorem getN_one {X : List UInt8} {i : Nat} {x : UInt8} (h : X[i]? = some x) : getN X (i : Int) 1 = (x.toNat : Int) := by
  obtain ⟨hlt, he⟩ := List.getElem?_eq_some_iff.1 h
  rw [show (1 : Int) = ((1 : Nat) : Int) from rfl, getN_take (by omega) (by omega), List.drop_eq_getElem_cons hlt, he]
  simp [leN]
theorem Mem.cutW {w0 w : World} {H : List Ent} (M : Mem w0 w H) {k lo hi : Nat} {t : TypeId} {v : Value} {X : List UInt8} (h : H[k]? = some (rowE lo hi t 1 v X.length (bcells X))) (hm : X.length ≤ maxLen) (i j : Nat) (h1 : i ≤ j) (h2 : j ≤ X.length) :
    Bs 0 w.heap.size w (cutV v i j (capV v) 1) ((X.drop i).take (j - i)) :=
  (M.wide h hm).cutB h1 h2 (by have := (M.readRow k h hm).cap; omega) (Nat.le_refl _)

set_option maxHeartbeats 2000000 in
theorem refRead_any (v : Value) (bs : List UInt8) (w : World) (hv : Bs 0 w.heap.size w v bs) (hb : bs.length ≤ 1000) : Calls Try.prog 16 #[v] w (ReadPost bs w) := by
  have M := Mem.start w
  refine calls_enter Try.func16 rfl 77 rfl rfl ?_; intro a S
  refine wp_seq ?_
  -- region 0 ref.go:53
  refine wp_region_lit ?_
  refine st_alloc S M rfl rfl #[.int .i64 0, .int .i64 0, .int .i64 0, .int .i64 0, .int .u32 0, .slice none 0 0] (by kernel_rfl) ?_; clear S M a; intro a w1 b1 S M hB
  refine st_y S rfl rfl rfl (y_assign S rfl) ?_; clear S a; intro a S
  refine wpList_nil ?_
  replace S := S.sub [(0, _), (2, _), (3, _)] rfl
  refine then_normal ?_
  refine wp_seq ?_
  -- region 1 ref.go:54
  refine wp_region_lit ?_
  refine st_y S rfl rfl rfl (y_move S rfl) ?_; clear S a; intro a S
  refine st_call (xs := [(Operand.tmp 11)]) S (enters_of Try.func32 (by decide) rfl) rfl rfl rfl (refOpen_any v bs _ (M.argW hv) (by omega)) ?_
  rintro _ w2 ⟨v4, rfl, hK, hO, hN⟩; refine ⟨_, rfl, ?_⟩; clear S a; intro a S
  obtain ⟨loI, hiI, -, M⟩ := M.pushFresh (fresh_if hK hO hN)
  refine st_y S rfl rfl rfl (y_move S rfl) ?_; clear S a; intro a S
  refine st_y S rfl rfl rfl (y_extract S rfl rfl) ?_; clear S a; intro a S
  refine st_y S rfl rfl rfl (y_extract S rfl rfl) ?_; clear S a; intro a S
  refine st_y S rfl rfl rfl (y_assign S rfl) ?_; clear S a; intro a S
  refine st_y S rfl rfl rfl (y_assign S rfl) ?_; clear S a; intro a S
  refine wpList_nil ?_
  replace S := S.sub [(0, _), (2, _), (3, _), (4, _), (5, _)] rfl
  refine then_normal ?_
  refine wp_seq ?_
  refine wp_seq ?_
  -- region 2 ref.go:55
  refine wp_region_lit ?_
  refine st_y S rfl rfl rfl (y_move S rfl) ?_; clear S a; intro a S
  refine st_y S rfl rfl rfl (y_not S rfl) ?_; clear S a; intro a S
  refine st_y S rfl rfl rfl (y_move S rfl) ?_; clear S a; intro a S
  refine st_split (t := 17) S rfl ?_ ?_
  · clear S; intro h17 S
    refine st_no S rfl rfl rfl ?_; clear S a; intro a S
    refine st_no S rfl rfl rfl ?_; clear S a; intro a S
    refine st_no S rfl rfl rfl ?_; clear S a; intro a S
    refine st_y S rfl rfl rfl (y_pickT S rfl rfl) ?_; clear S a; intro a S
    refine wpList_nil ?_
    replace S := S.sub [(0, _), (2, _), (3, _), (4, _), (5, _), (21, _)] rfl
    refine then_normal ?_
    refine st_condT S rfl ?_
    refine wp_seq ?_
    -- region 3 ref.go:56
    refine wp_region_lit ?_
    refine st_y S rfl rfl rfl (y_build (ps := []) (pl := [(0, 1), (1, 1), (2, 1), (3, 1), (4, 1), (5, 1)]) (z := [.int .i64 0, .int .i64 0, .int .i64 0, .int .i64 0, .int .u32 0, .slice none 0 0]) (cs := [_, _, _, _, _, _]) S (by kernel_rfl) rfl rfl) ?_; clear S a; intro a S
    refine st_store (sz := 6) (us := [_, _, _, _, _, _]) S M 1 rfl (by kernel_rfl) rfl rfl rfl rfl rfl rfl (by first | decide | (simp; done) | (simp; omega)) ?_; clear M; intro w3 M
    simp only [putL, List.set_cons_zero, List.set_cons_succ, Nat.reduceAdd] at M
    refine st_y S rfl rfl rfl (y_assign S rfl) ?_; clear S a; intro a S
    refine wpList_nil ?_
    replace S := S.sub [(0, _), (2, _), (4, _), (5, _), (21, _), (3, _)] rfl
    refine then_normal ?_
    refine wp_ret ?_
    refine then_ret ?_
    refine end_two S rfl (res_agg (cs := [_, _, _, _, _, _]) (by kernel_rfl) rfl rfl (M.cellsAt (k := 6) 1 rfl rfl)) (res_tmp rfl) ?_
    exact readPost_no M (by
      unfold readF; rw [if_neg]; rintro ⟨hl, h, _⟩
      first
        | (rw [openB_true h] at h17; simp at h17; done)
        | omega)
  · clear S; intro h17 S
    refine st_y S rfl rfl rfl (y_move S rfl) ?_; clear S a; intro a S
    refine st_y S rfl rfl rfl (y_lenR (E := 5) S rfl (M.arg hv) (by kernel_rfl)) ?_; clear S a; intro a S
    refine st_y S rfl rfl rfl (y_int S rfl rfl rfl) ?_; clear S a; intro a S
    refine st_y S rfl rfl rfl (y_pickF S rfl rfl) ?_; clear S a; intro a S
    refine wpList_nil ?_
    replace S := S.sub [(0, _), (2, _), (3, _), (4, _), (5, _), (21, _)] rfl
    refine then_normal ?_
    refine st_split (t := 21) S rfl ?_ ?_
    · clear S; intro h21 S
      first | replace h21 := nrmA h21 | replace h21 := nrmB h21 | skip
      first | replace h21 := nrm1 h21 | replace h21 := nrm2 h21 | replace h21 := nrm3 h21 | replace h21 := nrm4 h21 | replace h21 := nrm5 h21 | replace h21 := nrm6 h21 | replace h21 := of_decide_eq_true h21 | replace h21 := of_decide_eq_false h21 | skip
      refine st_condT S rfl ?_
      refine wp_seq ?_
      -- region 3 ref.go:56
      refine wp_region_lit ?_
      refine st_y S rfl rfl rfl (y_build (ps := []) (pl := [(0, 1), (1, 1), (2, 1), (3, 1), (4, 1), (5, 1)]) (z := [.int .i64 0, .int .i64 0, .int .i64 0, .int .i64 0, .int .u32 0, .slice none 0 0]) (cs := [_, _, _, _, _, _]) S (by kernel_rfl) rfl rfl) ?_; clear S a; intro a S
      refine st_store (sz := 6) (us := [_, _, _, _, _, _]) S M 1 rfl (by kernel_rfl) rfl rfl rfl rfl rfl rfl (by first | decide | (simp; done) | (simp; omega)) ?_; clear M; intro w4 M
      simp only [putL, List.set_cons_zero, List.set_cons_succ, Nat.reduceAdd] at M
      refine st_y S rfl rfl rfl (y_assign S rfl) ?_; clear S a; intro a S
      refine wpList_nil ?_
      replace S := S.sub [(0, _), (2, _), (4, _), (5, _), (21, _), (3, _)] rfl
      refine then_normal ?_
      refine wp_ret ?_
      refine then_ret ?_
      refine end_two S rfl (res_agg (cs := [_, _, _, _, _, _]) (by kernel_rfl) rfl rfl (M.cellsAt (k := 6) 1 rfl rfl)) (res_tmp rfl) ?_
      exact readPost_no M (by
        unfold readF; rw [if_neg]; rintro ⟨hl, h, _⟩
        first
          | (rw [openB_true h] at h17; simp at h17; done)
          | omega)
    · clear S; intro h21 S
      first | replace h21 := nrmA h21 | replace h21 := nrmB h21 | skip
      first | replace h21 := nrm1 h21 | replace h21 := nrm2 h21 | replace h21 := nrm3 h21 | replace h21 := nrm4 h21 | replace h21 := nrm5 h21 | replace h21 := nrm6 h21 | replace h21 := of_decide_eq_true h21 | replace h21 := of_decide_eq_false h21 | skip
      refine st_condF S rfl ?_
      refine wp_skip ?_
      refine then_normal ?_
      refine wp_seq ?_
      -- region 4 ref.go:58
      refine wp_region_lit ?_
      have hok : openOk bs := by
        by_cases h : openOk bs
        · exact h
        · rw [openB_false h] at h17; simp at h17
      have h64 : bs.length = 64 := by omega
      rw [ifL_pos hok, show bs.length - 4 = 60 by omega] at M
      have hx60 : (bs.take 60).length = 60 := by rw [List.length_take]; omega
      generalize hX : bs.take 60 = X at *
      have hm60 : X.length ≤ maxLen := by rw [hx60]; unfold maxLen; omega
      obtain ⟨x9, hx9⟩ : ∃ x, X[9]? = some x := ⟨_, List.getElem?_eq_getElem (by omega)⟩
      obtain ⟨x10, hx10⟩ : ∃ x, X[10]? = some x := ⟨_, List.getElem?_eq_getElem (by omega)⟩
      have hg9 : getN X 9 1 = (x9.toNat : Int) := getN_one hx9
      have hg10 : getN X 10 1 = (x10.toNat : Int) := getN_one hx10
      have hq9 : x9.toNat < 256 := UInt8.toNat_lt x9
      have hq10 : x10.toNat < 256 := UInt8.toNat_lt x10
      have hn0 : getN X 0 6 = (leN ((X.drop 0).take 6) : Int) := getN_take (i := 0) (k := 6) (by omega) (by omega)
      have hn6 : getN X 6 3 = (leN ((X.drop 6).take 3) : Int) := getN_take (i := 6) (k := 3) (by omega) (by omega)
      have hn11 : getN X 11 4 = (leN ((X.drop 11).take 4) : Int) := getN_take (i := 11) (k := 4) (by omega) (by omega)
      have hd0 : (leN ((X.drop 0).take (6 - 0)) : Int) ≤ 281474976710655 := by have := getN_bd X 0 6 (by omega); rw [hn0] at this; exact this.2
      have hd6 : (leN ((X.drop 6).take (9 - 6)) : Int) ≤ 281474976710655 := by have := getN_bd X 6 3 (by omega); rw [hn6] at this; exact this.2
      have hl10 : (ldIn X).length = x10.toNat ∨ 45 < x10.toNat := by
        rcases Nat.lt_or_ge 45 x10.toNat with h | h
        · exact .inr h
        · left; simp only [ldIn, List.length_take, List.length_drop]; omega
      refine st_y S rfl rfl rfl (y_move S rfl) ?_; clear S a; intro a S
      refine st_y S rfl rfl rfl (y_indexR (e := 5) (sz := 1) S (by kernel_rfl) rfl ((M.readRow 0 rfl hm60)) rfl (by first | omega | (simp; done) | (simp; omega))) ?_; clear S a; intro a S
      refine st_y S rfl rfl rfl (y_load S (by kernel_rfl) rfl ((M.readRow 0 rfl hm60).byte hx10)) ?_; clear S a; intro a S
      (first | refine st_y S rfl rfl rfl (y_to64 S rfl (by kernel_rfl) (by kernel_rfl) (by omega)) ?_ | refine st_y S rfl rfl rfl (y_conv S rfl (by kernel_rfl) (by kernel_rfl)) ?_); clear S a; intro a S
      refine st_y S rfl rfl rfl (y_assign S rfl) ?_; clear S a; intro a S
      refine wpList_nil ?_
      replace S := S.sub [(0, _), (2, _), (3, _), (4, _), (5, _), (21, _), (6, _)] rfl
      refine then_normal ?_
      refine wp_seq ?_
      refine wp_seq ?_
      -- region 5 ref.go:59
      refine wp_region_lit ?_
      refine st_y S rfl rfl rfl (y_move S rfl) ?_; clear S a; intro a S
      refine st_y S rfl rfl rfl (y_int S rfl rfl rfl) ?_; clear S a; intro a S
      refine wpList_nil ?_
      replace S := S.sub [(0, _), (2, _), (3, _), (4, _), (5, _), (21, _), (6, _), (28, _)] rfl
      refine then_normal ?_
      refine st_split (t := 28) S rfl ?_ ?_
      · clear S; intro h28 S
        first | replace h28 := nrmA h28 | replace h28 := nrmB h28 | skip
        first | replace h28 := nrm1 h28 | replace h28 := nrm2 h28 | replace h28 := nrm3 h28 | replace h28 := nrm4 h28 | replace h28 := nrm5 h28 | replace h28 := nrm6 h28 | replace h28 := of_decide_eq_true h28 | replace h28 := of_decide_eq_false h28 | skip
        refine st_condT S rfl ?_
        refine wp_seq ?_
        -- region 6 ref.go:60
        refine wp_region_lit ?_
        refine st_y S rfl rfl rfl (y_build (ps := []) (pl := [(0, 1), (1, 1), (2, 1), (3, 1), (4, 1), (5, 1)]) (z := [.int .i64 0, .int .i64 0, .int .i64 0, .int .i64 0, .int .u32 0, .slice none 0 0]) (cs := [_, _, _, _, _, _]) S (by kernel_rfl) rfl rfl) ?_; clear S a; intro a S
        refine st_store (sz := 6) (us := [_, _, _, _, _, _]) S M 1 rfl (by kernel_rfl) rfl rfl rfl rfl rfl rfl (by first | decide | (simp; done) | (simp; omega)) ?_; clear M; intro w5 M
        simp only [putL, List.set_cons_zero, List.set_cons_succ, Nat.reduceAdd] at M
        refine st_y S rfl rfl rfl (y_assign S rfl) ?_; clear S a; intro a S
        refine wpList_nil ?_
        replace S := S.sub [(0, _), (2, _), (4, _), (5, _), (21, _), (6, _), (28, _), (3, _)] rfl
        refine then_normal ?_
        refine wp_ret ?_
        refine then_ret ?_
        refine end_two S rfl (res_agg (cs := [_, _, _, _, _, _]) (by kernel_rfl) rfl rfl (M.cellsAt (k := 6) 1 rfl rfl)) (res_tmp rfl) ?_
        exact readPost_no M (by unfold readF; rw [if_neg]; rintro ⟨_, _, h, _⟩; rw [hX] at h; omega)
      · clear S; intro h28 S
        first | replace h28 := nrmA h28 | replace h28 := nrmB h28 | skip
        first | replace h28 := nrm1 h28 | replace h28 := nrm2 h28 | replace h28 := nrm3 h28 | replace h28 := nrm4 h28 | replace h28 := nrm5 h28 | replace h28 := nrm6 h28 | replace h28 := of_decide_eq_true h28 | replace h28 := of_decide_eq_false h28 | skip
        refine st_condF S rfl ?_
        refine wp_skip ?_
        refine then_normal ?_
        refine wp_cut (fun a w' => ∃ (b8 lo hi : Nat), Sees 77 a [(0, v), (2, .pointer (some ⟨b1, 0, none⟩)), (4, v4), (6, .int .i64 (x10.toNat : Int)), (7, .pointer (some ⟨b8, 0, none⟩))] ∧ Mem w w' [.blk b8 ((frIn X).cells (.slice none 0 0)).toArray 33, rowE lo hi 5 1 v4 X.length (bcells X), .blk b1 (zeroFr.cells (.slice none 0 0)).toArray 33]) ?_ ?_
        · skip
          -- region 7 ref.go:62
          refine wp_regionK [24] #[false, false, false, false, false, false, false, false, false, false, false, false, false, false, false, false, false, false, false, false, false, false, false, false, false] rfl M (by kernel_rfl) ?_; clear M; intro w6 M
          refine k_read (listed' := #[true, false, false, false, false, false, false, false, false, false, false, false, false, false, false, false, false, false, false, false, false, false, false, false, false]) 0 S rfl rfl rfl rfl (by kernel_rfl) rfl (fun _ d _ _ _ h => by cases d <;> exact h) (fun w hW => have M := M.grow hW; y_move S rfl) ?_; clear S a; intro a S
          refine k_read (listed' := #[true, true, false, false, false, false, false, false, false, false, false, false, false, false, false, false, false, false, false, false, false, false, false, false, false]) 1 S rfl rfl rfl rfl (by kernel_rfl) rfl (fun _ d _ _ _ h => by cases d <;> exact h) (fun w hW => have M := M.grow hW; y_slice2R (e := 5) (sz := 1) S (by kernel_rfl) rfl ((M.readRow 0 rfl hm60)) rfl rfl (by first | omega | (simp; done) | (simp; omega))) ?_; clear S a; intro a S
          refine k_read (listed' := #[true, true, false, false, true, false, false, false, false, false, false, false, false, false, false, false, false, false, false, false, false, false, false, false, false]) 4 S rfl rfl rfl rfl (by kernel_rfl) rfl (fun _ d _ _ _ h => by cases d <;> exact h) (fun w hW => have M := M.grow hW; y_move S rfl) ?_; clear S a; intro a S
          refine k_read (listed' := #[true, true, false, false, true, true, false, false, false, false, false, false, false, false, false, false, false, false, false, false, false, false, false, false, false]) 5 S rfl rfl rfl rfl (by kernel_rfl) rfl (fun _ d _ _ _ h => by cases d <;> exact h) (fun w hW => have M := M.grow hW; y_slice2R (e := 5) (sz := 1) S (by kernel_rfl) rfl ((M.readRow 0 rfl hm60)) rfl rfl (by first | omega | (simp; done) | (simp; omega))) ?_; clear S a; intro a S
          refine k_read (listed' := #[true, true, false, false, true, true, false, false, true, false, false, false, false, false, false, false, false, false, false, false, false, false, false, false, false]) 8 S rfl rfl rfl rfl (by kernel_rfl) rfl (fun _ d _ _ _ h => by cases d <;> exact h) (fun w hW => have M := M.grow hW; y_move S rfl) ?_; clear S a; intro a S
          refine k_read (listed' := #[true, true, false, false, true, true, false, false, true, true, false, false, false, false, false, false, false, false, false, false, false, false, false, false, false]) 9 S rfl rfl rfl rfl (by kernel_rfl) rfl (fun _ d _ _ _ h => by cases d <;> exact h) (fun w hW => have M := M.grow hW; y_indexR (e := 5) (sz := 1) S (by kernel_rfl) rfl ((M.readRow 0 rfl hm60)) rfl (by first | omega | (simp; done) | (simp; omega))) ?_; clear S a; intro a S
          refine k_read (listed' := #[true, true, false, false, true, true, false, false, true, true, true, false, false, false, false, false, false, false, false, false, false, false, false, false, false]) 10 S rfl rfl rfl rfl (by kernel_rfl) rfl (fun _ d _ _ _ h => by cases d <;> exact h) (fun w hW => have M := M.grow hW; y_load S (by kernel_rfl) rfl ((M.readRow 0 rfl hm60).byte hx9)) ?_; clear S a; intro a S
          refine k_read (listed' := #[true, true, false, false, true, true, false, false, true, true, true, true, false, false, false, false, false, false, false, false, false, false, false, false, false]) 11 S rfl rfl rfl rfl (by kernel_rfl) rfl (fun _ d _ _ _ h => by cases d <;> exact h) (fun w hW => have M := M.grow hW; y_quo8 S rfl rfl (by omega)) ?_; clear S a; intro a S
          (first | refine k_read (listed' := #[true, true, false, false, true, true, false, false, true, true, true, true, true, false, false, false, false, false, false, false, false, false, false, false, false]) 12 S rfl rfl rfl rfl (by kernel_rfl) rfl (fun _ d _ _ _ h => by cases d <;> exact h) (fun w hW => have M := M.grow hW; y_to64 S rfl (by kernel_rfl) (by kernel_rfl) (by omega)) ?_ | refine k_read (listed' := #[true, true, false, false, true, true, false, false, true, true, true, true, true, false, false, false, false, false, false, false, false, false, false, false, false]) 12 S rfl rfl rfl rfl (by kernel_rfl) rfl (fun _ d _ _ _ h => by cases d <;> exact h) (fun w hW => have M := M.grow hW; y_conv S rfl (by kernel_rfl) (by kernel_rfl)) ?_); clear S a; intro a S
          refine k_read (listed' := #[true, true, false, false, true, true, false, false, true, true, true, true, true, true, false, false, false, false, false, false, false, false, false, false, false]) 13 S rfl rfl rfl rfl (by kernel_rfl) rfl (fun _ d _ _ _ h => by cases d <;> exact h) (fun w hW => have M := M.grow hW; y_move S rfl) ?_; clear S a; intro a S
          refine k_read (listed' := #[true, true, false, false, true, true, false, false, true, true, true, true, true, true, true, false, false, false, false, false, false, false, false, false, false]) 14 S rfl rfl rfl rfl (by kernel_rfl) rfl (fun _ d _ _ _ h => by cases d <;> exact h) (fun w hW => have M := M.grow hW; y_indexR (e := 5) (sz := 1) S (by kernel_rfl) rfl ((M.readRow 0 rfl hm60)) rfl (by first | omega | (simp; done) | (simp; omega))) ?_; clear S a; intro a S
          refine k_read (listed' := #[true, true, false, false, true, true, false, false, true, true, true, true, true, true, true, true, false, false, false, false, false, false, false, false, false]) 15 S rfl rfl rfl rfl (by kernel_rfl) rfl (fun _ d _ _ _ h => by cases d <;> exact h) (fun w hW => have M := M.grow hW; y_load S (by kernel_rfl) rfl ((M.readRow 0 rfl hm60).byte hx9)) ?_; clear S a; intro a S
          refine k_read (listed' := #[true, true, false, false, true, true, false, false, true, true, true, true, true, true, true, true, true, false, false, false, false, false, false, false, false]) 16 S rfl rfl rfl rfl (by kernel_rfl) rfl (fun _ d _ _ _ h => by cases d <;> exact h) (fun w hW => have M := M.grow hW; y_rem8 S rfl rfl (by omega)) ?_; clear S a; intro a S
          (first | refine k_read (listed' := #[true, true, false, false, true, true, false, false, true, true, true, true, true, true, true, true, true, true, false, false, false, false, false, false, false]) 17 S rfl rfl rfl rfl (by kernel_rfl) rfl (fun _ d _ _ _ h => by cases d <;> exact h) (fun w hW => have M := M.grow hW; y_to64 S rfl (by kernel_rfl) (by kernel_rfl) (by omega)) ?_ | refine k_read (listed' := #[true, true, false, false, true, true, false, false, true, true, true, true, true, true, true, true, true, true, false, false, false, false, false, false, false]) 17 S rfl rfl rfl rfl (by kernel_rfl) rfl (fun _ d _ _ _ h => by cases d <;> exact h) (fun w hW => have M := M.grow hW; y_conv S rfl (by kernel_rfl) (by kernel_rfl)) ?_); clear S a; intro a S
          refine k_read (listed' := #[true, true, false, false, true, true, false, false, true, true, true, true, true, true, true, true, true, true, true, false, false, false, false, false, false]) 18 S rfl rfl rfl rfl (by kernel_rfl) rfl (fun _ d _ _ _ h => by cases d <;> exact h) (fun w hW => have M := M.grow hW; y_move S rfl) ?_; clear S a; intro a S
          refine k_read (listed' := #[true, true, false, false, true, true, false, false, true, true, true, true, true, true, true, true, true, true, true, true, false, false, false, false, false]) 19 S rfl rfl rfl rfl (by kernel_rfl) rfl (fun _ d _ _ _ h => by cases d <;> exact h) (fun w hW => have M := M.grow hW; y_slice2R (e := 5) (sz := 1) S (by kernel_rfl) rfl ((M.readRow 0 rfl hm60)) rfl rfl (by first | omega | (simp; done) | (simp; omega))) ?_; clear S a; intro a S
          refine k_two (l1 := #[true, true, true, false, true, true, false, false, true, true, true, true, true, true, true, true, true, true, true, true, false, false, false, false, false]) (l2 := #[true, true, false, false, true, true, false, false, true, true, true, true, true, true, true, true, true, true, true, true, false, false, false, true, false]) 2 23 rfl rfl (by kernel_rfl) rfl rfl ?_ ?_
          · skip
            refine st_call (xs := [(Operand.tmp 31)]) S (enters_of Try.func33 (by decide) rfl) rfl rfl rfl (refNumber_any _ _ _ (M.cutW (k := 0) rfl hm60 0 6 (by omega) (by omega)) (by rw [List.length_take]; omega)) ?_
            rintro _ w7 ⟨rfl, hK⟩; refine ⟨_, rfl, ?_⟩; clear S a; intro a S; replace M := M.grow hK
            refine wpList_nil ?_; refine then_normal ?_; refine ⟨fun _ => hK, ?_⟩
            (first | refine k_read (listed' := #[true, true, true, true, true, true, false, false, true, true, true, true, true, true, true, true, true, true, true, true, false, false, false, false, false]) 3 S rfl rfl rfl rfl (by kernel_rfl) rfl (fun _ d _ _ _ h => by cases d <;> exact h) (fun w hW => have M := M.grow hW; y_to64 S rfl (by kernel_rfl) (by kernel_rfl) (by omega)) ?_ | refine k_read (listed' := #[true, true, true, true, true, true, false, false, true, true, true, true, true, true, true, true, true, true, true, true, false, false, false, false, false]) 3 S rfl rfl rfl rfl (by kernel_rfl) rfl (fun _ d _ _ _ h => by cases d <;> exact h) (fun w hW => have M := M.grow hW; y_conv S rfl (by kernel_rfl) (by kernel_rfl)) ?_); clear S a; intro a S
            refine k_two (l1 := #[true, true, true, true, true, true, true, false, true, true, true, true, true, true, true, true, true, true, true, true, false, false, false, false, false]) (l2 := #[true, true, true, true, true, true, false, false, true, true, true, true, true, true, true, true, true, true, true, true, false, false, false, true, false]) 6 23 rfl rfl (by kernel_rfl) rfl rfl ?_ ?_
            · skip
              refine st_call (xs := [(Operand.tmp 35)]) S (enters_of Try.func33 (by decide) rfl) rfl rfl rfl (refNumber_any _ _ _ (M.cutW (k := 0) rfl hm60 6 9 (by omega) (by omega)) (by rw [List.length_take]; omega)) ?_
              rintro _ w8 ⟨rfl, hK⟩; refine ⟨_, rfl, ?_⟩; clear S a; intro a S; replace M := M.grow hK
              refine wpList_nil ?_; refine then_normal ?_; refine ⟨fun _ => hK, ?_⟩
              (first | refine k_read (listed' := #[true, true, true, true, true, true, true, true, true, true, true, true, true, true, true, true, true, true, true, true, false, false, false, false, false]) 7 S rfl rfl rfl rfl (by kernel_rfl) rfl (fun _ d _ _ _ h => by cases d <;> exact h) (fun w hW => have M := M.grow hW; y_to64 S rfl (by kernel_rfl) (by kernel_rfl) (by omega)) ?_ | refine k_read (listed' := #[true, true, true, true, true, true, true, true, true, true, true, true, true, true, true, true, true, true, true, true, false, false, false, false, false]) 7 S rfl rfl rfl rfl (by kernel_rfl) rfl (fun _ d _ _ _ h => by cases d <;> exact h) (fun w hW => have M := M.grow hW; y_conv S rfl (by kernel_rfl) (by kernel_rfl)) ?_); clear S a; intro a S
              refine k_two (l1 := #[true, true, true, true, true, true, true, true, true, true, true, true, true, true, true, true, true, true, true, true, true, false, false, false, false]) (l2 := #[true, true, true, true, true, true, true, true, true, true, true, true, true, true, true, true, true, true, true, true, false, false, false, true, false]) 20 23 rfl rfl (by kernel_rfl) rfl rfl ?_ ?_
              · skip
                refine st_call (xs := [(Operand.tmp 49)]) S (enters_of Try.func33 (by decide) rfl) rfl rfl rfl (refNumber_any _ _ _ (M.cutW (k := 0) rfl hm60 11 15 (by omega) (by omega)) (by rw [List.length_take]; omega)) ?_
                rintro _ w9 ⟨rfl, hK⟩; refine ⟨_, rfl, ?_⟩; clear S a; intro a S; replace M := M.grow hK
                refine wpList_nil ?_; refine then_normal ?_; refine ⟨fun _ => hK, ?_⟩
                refine k_read (listed' := #[true, true, true, true, true, true, true, true, true, true, true, true, true, true, true, true, true, true, true, true, true, true, false, false, false]) 21 S rfl rfl rfl rfl (by kernel_rfl) rfl (fun _ d _ _ _ h => by cases d <;> exact h) (fun w hW => have M := M.grow hW; y_to32 S rfl (by kernel_rfl) (by kernel_rfl)) ?_; clear S a; intro a S
                refine k_read (listed' := #[true, true, true, true, true, true, true, true, true, true, true, true, true, true, true, true, true, true, true, true, true, true, true, false, false]) 22 S rfl rfl rfl rfl (by kernel_rfl) rfl (fun _ d _ _ _ h => by cases d <;> exact h) (fun w hW => have M := M.grow hW; y_build (ps := [(0, (Operand.tmp 33)), (1, (Operand.tmp 37)), (2, (Operand.tmp 42)), (3, (Operand.tmp 47)), (4, (Operand.tmp 51))]) (pl := [(0, 1), (1, 1), (2, 1), (3, 1), (4, 1), (5, 1)]) (z := [.int .i64 0, .int .i64 0, .int .i64 0, .int .i64 0, .int .u32 0, .slice none 0 0]) (cs := [_, _, _, _, _, _]) S (by kernel_rfl) rfl rfl) ?_; clear S a; intro a S
                refine k_one (listed' := #[true, true, true, true, true, true, true, true, true, true, true, true, true, true, true, true, true, true, true, true, true, true, true, true, false]) 23 rfl (by kernel_rfl) rfl ?_
                refine st_alloc S M rfl rfl #[.int .i64 0, .int .i64 0, .int .i64 0, .int .i64 0, .int .u32 0, .slice none 0 0] (by kernel_rfl) ?_; clear S M a; intro a w10 bF S M hB
                refine wpList_nil ?_; refine then_normal ?_; refine ⟨fun _ => hB, ?_⟩
                refine k_one (listed' := #[true, true, true, true, true, true, true, true, true, true, true, true, true, true, true, true, true, true, true, true, true, true, true, true, true]) 24 rfl (by kernel_rfl) rfl ?_
                refine st_store (sz := 6) (us := [_, _, _, _, _, _]) S M 0 rfl (by kernel_rfl) rfl rfl rfl rfl rfl rfl (by first | decide | (simp; done) | (simp; omega)) ?_; clear M; intro w11 M
                simp only [putL, List.set_cons_zero, List.set_cons_succ, Nat.reduceAdd] at M
                refine wpList_nil ?_; refine then_normal ?_; refine ⟨fun h => absurd h (by decide), ?_⟩
                refine k_end (by kernel_rfl) ?_
                replace S := S.sub [(0, _), (2, _), (3, _), (4, _), (5, _), (21, _), (6, _), (28, _), (7, _)] rfl
                refine then_normal ?_
                replace M := M.front 2 rfl
                simp only [List.eraseIdx_cons_succ, List.eraseIdx_cons_zero] at M
                replace M := M.front 2 rfl
                simp only [List.eraseIdx_cons_succ, List.eraseIdx_cons_zero] at M
                replace M := M.front 2 rfl
                simp only [List.eraseIdx_cons_succ, List.eraseIdx_cons_zero] at M
                refine ⟨_, loI, hiI, S.sub _ rfl, ?_⟩
                unfold frIn; rw [hn0, hn6, hg9, hn11]
                exact M
              · skip
                refine st_alloc S M rfl rfl #[.int .i64 0, .int .i64 0, .int .i64 0, .int .i64 0, .int .u32 0, .slice none 0 0] (by kernel_rfl) ?_; clear S M a; intro a w12 bF S M hB
                refine wpList_nil ?_; refine then_normal ?_; refine ⟨fun _ => hB, ?_⟩
                refine k_one (listed' := #[true, true, true, true, true, true, true, true, true, true, true, true, true, true, true, true, true, true, true, true, true, false, false, true, false]) 20 rfl (by kernel_rfl) rfl ?_
                refine st_call (xs := [(Operand.tmp 49)]) S (enters_of Try.func33 (by decide) rfl) rfl rfl rfl (refNumber_any _ _ _ (M.cutW (k := 1) rfl hm60 11 15 (by omega) (by omega)) (by rw [List.length_take]; omega)) ?_
                rintro _ w13 ⟨rfl, hK⟩; refine ⟨_, rfl, ?_⟩; clear S a; intro a S; replace M := M.grow hK
                refine wpList_nil ?_; refine then_normal ?_; refine ⟨fun _ => hK, ?_⟩
                refine k_read (listed' := #[true, true, true, true, true, true, true, true, true, true, true, true, true, true, true, true, true, true, true, true, true, true, false, true, false]) 21 S rfl rfl rfl rfl (by kernel_rfl) rfl (fun _ d _ _ _ h => by cases d <;> exact h) (fun w hW => have M := M.grow hW; y_to32 S rfl (by kernel_rfl) (by kernel_rfl)) ?_; clear S a; intro a S
                refine k_read (listed' := #[true, true, true, true, true, true, true, true, true, true, true, true, true, true, true, true, true, true, true, true, true, true, true, true, false]) 22 S rfl rfl rfl rfl (by kernel_rfl) rfl (fun _ d _ _ _ h => by cases d <;> exact h) (fun w hW => have M := M.grow hW; y_build (ps := [(0, (Operand.tmp 33)), (1, (Operand.tmp 37)), (2, (Operand.tmp 42)), (3, (Operand.tmp 47)), (4, (Operand.tmp 51))]) (pl := [(0, 1), (1, 1), (2, 1), (3, 1), (4, 1), (5, 1)]) (z := [.int .i64 0, .int .i64 0, .int .i64 0, .int .i64 0, .int .u32 0, .slice none 0 0]) (cs := [_, _, _, _, _, _]) S (by kernel_rfl) rfl rfl) ?_; clear S a; intro a S
                refine k_one (listed' := #[true, true, true, true, true, true, true, true, true, true, true, true, true, true, true, true, true, true, true, true, true, true, true, true, true]) 24 rfl (by kernel_rfl) rfl ?_
                refine st_store (sz := 6) (us := [_, _, _, _, _, _]) S M 0 rfl (by kernel_rfl) rfl rfl rfl rfl rfl rfl (by first | decide | (simp; done) | (simp; omega)) ?_; clear M; intro w14 M
                simp only [putL, List.set_cons_zero, List.set_cons_succ, Nat.reduceAdd] at M
                refine wpList_nil ?_; refine then_normal ?_; refine ⟨fun h => absurd h (by decide), ?_⟩
                refine k_end (by kernel_rfl) ?_
                replace S := S.sub [(0, _), (2, _), (3, _), (4, _), (5, _), (21, _), (6, _), (28, _), (7, _)] rfl
                refine then_normal ?_
                replace M := M.front 2 rfl
                simp only [List.eraseIdx_cons_succ, List.eraseIdx_cons_zero] at M
                replace M := M.front 2 rfl
                simp only [List.eraseIdx_cons_succ, List.eraseIdx_cons_zero] at M
                replace M := M.front 2 rfl
                simp only [List.eraseIdx_cons_succ, List.eraseIdx_cons_zero] at M
                refine ⟨_, loI, hiI, S.sub _ rfl, ?_⟩
                unfold frIn; rw [hn0, hn6, hg9, hn11]
                exact M
            · skip
              refine st_alloc S M rfl rfl #[.int .i64 0, .int .i64 0, .int .i64 0, .int .i64 0, .int .u32 0, .slice none 0 0] (by kernel_rfl) ?_; clear S M a; intro a w15 bF S M hB
              refine wpList_nil ?_; refine then_normal ?_; refine ⟨fun _ => hB, ?_⟩
              refine k_one (listed' := #[true, true, true, true, true, true, true, false, true, true, true, true, true, true, true, true, true, true, true, true, false, false, false, true, false]) 6 rfl (by kernel_rfl) rfl ?_
              refine st_call (xs := [(Operand.tmp 35)]) S (enters_of Try.func33 (by decide) rfl) rfl rfl rfl (refNumber_any _ _ _ (M.cutW (k := 1) rfl hm60 6 9 (by omega) (by omega)) (by rw [List.length_take]; omega)) ?_
              rintro _ w16 ⟨rfl, hK⟩; refine ⟨_, rfl, ?_⟩; clear S a; intro a S; replace M := M.grow hK
              refine wpList_nil ?_; refine then_normal ?_; refine ⟨fun _ => hK, ?_⟩
              (first | refine k_read (listed' := #[true, true, true, true, true, true, true, true, true, true, true, true, true, true, true, true, true, true, true, true, false, false, false, true, false]) 7 S rfl rfl rfl rfl (by kernel_rfl) rfl (fun _ d _ _ _ h => by cases d <;> exact h) (fun w hW => have M := M.grow hW; y_to64 S rfl (by kernel_rfl) (by kernel_rfl) (by omega)) ?_ | refine k_read (listed' := #[true, true, true, true, true, true, true, true, true, true, true, true, true, true, true, true, true, true, true, true, false, false, false, true, false]) 7 S rfl rfl rfl rfl (by kernel_rfl) rfl (fun _ d _ _ _ h => by cases d <;> exact h) (fun w hW => have M := M.grow hW; y_conv S rfl (by kernel_rfl) (by kernel_rfl)) ?_); clear S a; intro a S
              refine k_one (listed' := #[true, true, true, true, true, true, true, true, true, true, true, true, true, true, true, true, true, true, true, true, true, false, false, true, false]) 20 rfl (by kernel_rfl) rfl ?_
              refine st_call (xs := [(Operand.tmp 49)]) S (enters_of Try.func33 (by decide) rfl) rfl rfl rfl (refNumber_any _ _ _ (M.cutW (k := 1) rfl hm60 11 15 (by omega) (by omega)) (by rw [List.length_take]; omega)) ?_
              rintro _ w17 ⟨rfl, hK⟩; refine ⟨_, rfl, ?_⟩; clear S a; intro a S; replace M := M.grow hK
              refine wpList_nil ?_; refine then_normal ?_; refine ⟨fun _ => hK, ?_⟩
              refine k_read (listed' := #[true, true, true, true, true, true, true, true, true, true, true, true, true, true, true, true, true, true, true, true, true, true, false, true, false]) 21 S rfl rfl rfl rfl (by kernel_rfl) rfl (fun _ d _ _ _ h => by cases d <;> exact h) (fun w hW => have M := M.grow hW; y_to32 S rfl (by kernel_rfl) (by kernel_rfl)) ?_; clear S a; intro a S
              refine k_read (listed' := #[true, true, true, true, true, true, true, true, true, true, true, true, true, true, true, true, true, true, true, true, true, true, true, true, false]) 22 S rfl rfl rfl rfl (by kernel_rfl) rfl (fun _ d _ _ _ h => by cases d <;> exact h) (fun w hW => have M := M.grow hW; y_build (ps := [(0, (Operand.tmp 33)), (1, (Operand.tmp 37)), (2, (Operand.tmp 42)), (3, (Operand.tmp 47)), (4, (Operand.tmp 51))]) (pl := [(0, 1), (1, 1), (2, 1), (3, 1), (4, 1), (5, 1)]) (z := [.int .i64 0, .int .i64 0, .int .i64 0, .int .i64 0, .int .u32 0, .slice none 0 0]) (cs := [_, _, _, _, _, _]) S (by kernel_rfl) rfl rfl) ?_; clear S a; intro a S
              refine k_one (listed' := #[true, true, true, true, true, true, true, true, true, true, true, true, true, true, true, true, true, true, true, true, true, true, true, true, true]) 24 rfl (by kernel_rfl) rfl ?_
              refine st_store (sz := 6) (us := [_, _, _, _, _, _]) S M 0 rfl (by kernel_rfl) rfl rfl rfl rfl rfl rfl (by first | decide | (simp; done) | (simp; omega)) ?_; clear M; intro w18 M
              simp only [putL, List.set_cons_zero, List.set_cons_succ, Nat.reduceAdd] at M
              refine wpList_nil ?_; refine then_normal ?_; refine ⟨fun h => absurd h (by decide), ?_⟩
              refine k_end (by kernel_rfl) ?_
              replace S := S.sub [(0, _), (2, _), (3, _), (4, _), (5, _), (21, _), (6, _), (28, _), (7, _)] rfl
              refine then_normal ?_
              replace M := M.front 2 rfl
              simp only [List.eraseIdx_cons_succ, List.eraseIdx_cons_zero] at M
              replace M := M.front 2 rfl
              simp only [List.eraseIdx_cons_succ, List.eraseIdx_cons_zero] at M
              replace M := M.front 2 rfl
              simp only [List.eraseIdx_cons_succ, List.eraseIdx_cons_zero] at M
              refine ⟨_, loI, hiI, S.sub _ rfl, ?_⟩
              unfold frIn; rw [hn0, hn6, hg9, hn11]
              exact M
          · skip
            refine st_alloc S M rfl rfl #[.int .i64 0, .int .i64 0, .int .i64 0, .int .i64 0, .int .u32 0, .slice none 0 0] (by kernel_rfl) ?_; clear S M a; intro a w19 bF S M hB
            refine wpList_nil ?_; refine then_normal ?_; refine ⟨fun _ => hB, ?_⟩
            refine k_one (listed' := #[true, true, true, false, true, true, false, false, true, true, true, true, true, true, true, true, true, true, true, true, false, false, false, true, false]) 2 rfl (by kernel_rfl) rfl ?_
            refine st_call (xs := [(Operand.tmp 31)]) S (enters_of Try.func33 (by decide) rfl) rfl rfl rfl (refNumber_any _ _ _ (M.cutW (k := 1) rfl hm60 0 6 (by omega) (by omega)) (by rw [List.length_take]; omega)) ?_
            rintro _ w20 ⟨rfl, hK⟩; refine ⟨_, rfl, ?_⟩; clear S a; intro a S; replace M := M.grow hK
            refine wpList_nil ?_; refine then_normal ?_; refine ⟨fun _ => hK, ?_⟩
            (first | refine k_read (listed' := #[true, true, true, true, true, true, false, false, true, true, true, true, true, true, true, true, true, true, true, true, false, false, false, true, false]) 3 S rfl rfl rfl rfl (by kernel_rfl) rfl (fun _ d _ _ _ h => by cases d <;> exact h) (fun w hW => have M := M.grow hW; y_to64 S rfl (by kernel_rfl) (by kernel_rfl) (by omega)) ?_ | refine k_read (listed' := #[true, true, true, true, true, true, false, false, true, true, true, true, true, true, true, true, true, true, true, true, false, false, false, true, false]) 3 S rfl rfl rfl rfl (by kernel_rfl) rfl (fun _ d _ _ _ h => by cases d <;> exact h) (fun w hW => have M := M.grow hW; y_conv S rfl (by kernel_rfl) (by kernel_rfl)) ?_); clear S a; intro a S
            refine k_one (listed' := #[true, true, true, true, true, true, true, false, true, true, true, true, true, true, true, true, true, true, true, true, false, false, false, true, false]) 6 rfl (by kernel_rfl) rfl ?_
            refine st_call (xs := [(Operand.tmp 35)]) S (enters_of Try.func33 (by decide) rfl) rfl rfl rfl (refNumber_any _ _ _ (M.cutW (k := 1) rfl hm60 6 9 (by omega) (by omega)) (by rw [List.length_take]; omega)) ?_
            rintro _ w21 ⟨rfl, hK⟩; refine ⟨_, rfl, ?_⟩; clear S a; intro a S; replace M := M.grow hK
            refine wpList_nil ?_; refine then_normal ?_; refine ⟨fun _ => hK, ?_⟩
            (first | refine k_read (listed' := #[true, true, true, true, true, true, true, true, true, true, true, true, true, true, true, true, true, true, true, true, false, false, false, true, false]) 7 S rfl rfl rfl rfl (by kernel_rfl) rfl (fun _ d _ _ _ h => by cases d <;> exact h) (fun w hW => have M := M.grow hW; y_to64 S rfl (by kernel_rfl) (by kernel_rfl) (by omega)) ?_ | refine k_read (listed' := #[true, true, true, true, true, true, true, true, true, true, true, true, true, true, true, true, true, true, true, true, false, false, false, true, false]) 7 S rfl rfl rfl rfl (by kernel_rfl) rfl (fun _ d _ _ _ h => by cases d <;> exact h) (fun w hW => have M := M.grow hW; y_conv S rfl (by kernel_rfl) (by kernel_rfl)) ?_); clear S a; intro a S
            refine k_one (listed' := #[true, true, true, true, true, true, true, true, true, true, true, true, true, true, true, true, true, true, true, true, true, false, false, true, false]) 20 rfl (by kernel_rfl) rfl ?_
            refine st_call (xs := [(Operand.tmp 49)]) S (enters_of Try.func33 (by decide) rfl) rfl rfl rfl (refNumber_any _ _ _ (M.cutW (k := 1) rfl hm60 11 15 (by omega) (by omega)) (by rw [List.length_take]; omega)) ?_
            rintro _ w22 ⟨rfl, hK⟩; refine ⟨_, rfl, ?_⟩; clear S a; intro a S; replace M := M.grow hK
            refine wpList_nil ?_; refine then_normal ?_; refine ⟨fun _ => hK, ?_⟩
            refine k_read (listed' := #[true, true, true, true, true, true, true, true, true, true, true, true, true, true, true, true, true, true, true, true, true, true, false, true, false]) 21 S rfl rfl rfl rfl (by kernel_rfl) rfl (fun _ d _ _ _ h => by cases d <;> exact h) (fun w hW => have M := M.grow hW; y_to32 S rfl (by kernel_rfl) (by kernel_rfl)) ?_; clear S a; intro a S
            refine k_read (listed' := #[true, true, true, true, true, true, true, true, true, true, true, true, true, true, true, true, true, true, true, true, true, true, true, true, false]) 22 S rfl rfl rfl rfl (by kernel_rfl) rfl (fun _ d _ _ _ h => by cases d <;> exact h) (fun w hW => have M := M.grow hW; y_build (ps := [(0, (Operand.tmp 33)), (1, (Operand.tmp 37)), (2, (Operand.tmp 42)), (3, (Operand.tmp 47)), (4, (Operand.tmp 51))]) (pl := [(0, 1), (1, 1), (2, 1), (3, 1), (4, 1), (5, 1)]) (z := [.int .i64 0, .int .i64 0, .int .i64 0, .int .i64 0, .int .u32 0, .slice none 0 0]) (cs := [_, _, _, _, _, _]) S (by kernel_rfl) rfl rfl) ?_; clear S a; intro a S
            refine k_one (listed' := #[true, true, true, true, true, true, true, true, true, true, true, true, true, true, true, true, true, true, true, true, true, true, true, true, true]) 24 rfl (by kernel_rfl) rfl ?_
            refine st_store (sz := 6) (us := [_, _, _, _, _, _]) S M 0 rfl (by kernel_rfl) rfl rfl rfl rfl rfl rfl (by first | decide | (simp; done) | (simp; omega)) ?_; clear M; intro w23 M
            simp only [putL, List.set_cons_zero, List.set_cons_succ, Nat.reduceAdd] at M
            refine wpList_nil ?_; refine then_normal ?_; refine ⟨fun h => absurd h (by decide), ?_⟩
            refine k_end (by kernel_rfl) ?_
            replace S := S.sub [(0, _), (2, _), (3, _), (4, _), (5, _), (21, _), (6, _), (28, _), (7, _)] rfl
            refine then_normal ?_
            replace M := M.front 2 rfl
            simp only [List.eraseIdx_cons_succ, List.eraseIdx_cons_zero] at M
            replace M := M.front 2 rfl
            simp only [List.eraseIdx_cons_succ, List.eraseIdx_cons_zero] at M
            replace M := M.front 2 rfl
            simp only [List.eraseIdx_cons_succ, List.eraseIdx_cons_zero] at M
            refine ⟨_, loI, hiI, S.sub _ rfl, ?_⟩
            unfold frIn; rw [hn0, hn6, hg9, hn11]
            exact M
        · clear S a M; intro a wc
          rintro ⟨bF, lo, hi, S, M⟩
          refine wp_seq ?_
          -- region 8 ref.go:63
          refine wp_regionK [6, 8] #[false, false, false, false, false, false, false, false, false] rfl M (by kernel_rfl) ?_; clear M; intro w24 M
          refine k_read (listed' := #[true, false, false, false, false, false, false, false, false]) 0 S rfl rfl rfl rfl (by kernel_rfl) rfl (fun _ d _ _ _ h => by cases d <;> exact h) (fun w hW => have M := M.grow hW; y_fieldAddr (k := 5) S (by kernel_rfl) rfl) ?_; clear S a; intro a S
          refine k_read (listed' := #[true, true, false, false, false, false, false, false, false]) 1 S rfl rfl rfl rfl (by kernel_rfl) rfl (fun _ d _ _ _ h => by cases d <;> exact h) (fun w hW => have M := M.grow hW; y_load S (by kernel_rfl) rfl (M.cell 0 rfl rfl)) ?_; clear S a; intro a S
          refine k_read (listed' := #[true, true, true, false, false, false, false, false, false]) 2 S rfl rfl rfl rfl (by kernel_rfl) rfl (fun _ d _ _ _ h => by cases d <;> exact h) (fun w hW => have M := M.grow hW; y_move S rfl) ?_; clear S a; intro a S
          refine k_read (listed' := #[true, true, true, true, false, false, false, false, false]) 3 S rfl rfl rfl rfl (by kernel_rfl) rfl (fun _ d _ _ _ h => by cases d <;> exact h) (fun w hW => have M := M.grow hW; y_move S rfl) ?_; clear S a; intro a S
          (first | refine k_read (listed' := #[true, true, true, true, true, false, false, false, false]) 4 S rfl rfl rfl rfl (by kernel_rfl) rfl (fun _ d _ _ _ h => by cases d <;> exact h) (fun w hW => have M := M.grow hW; y_addN S rfl rfl (by omega)) ?_ | refine k_read (listed' := #[true, true, true, true, true, false, false, false, false]) 4 S rfl rfl rfl rfl (by kernel_rfl) rfl (fun _ d _ _ _ h => by cases d <;> exact h) (fun w hW => have M := M.grow hW; y_int S rfl rfl rfl) ?_); clear S a; intro a S
          refine k_read (listed' := #[true, true, true, true, true, true, false, false, false]) 5 S rfl rfl rfl rfl (by kernel_rfl) rfl (fun _ d _ _ _ h => by cases d <;> exact h) (fun w hW => have M := M.grow hW; y_slice2R (e := 5) (sz := 1) S (by kernel_rfl) rfl ((M.readRow 1 rfl hm60)) rfl rfl (by first | omega | (simp; done) | (simp; omega))) ?_; clear S a; intro a S
          refine k_one (listed' := #[true, true, true, true, true, true, true, false, false]) 6 rfl (by kernel_rfl) rfl ?_
          have hC := M.cutW (k := 1) rfl hm60 (15 : Int).toNat ((15 : Int) + (x10.toNat : Int)).toNat (by omega) (by omega)
          rw [show (X.drop (15 : Int).toNat).take (((15 : Int) + (x10.toNat : Int)).toNat - (15 : Int).toNat) = ldIn X from by unfold ldIn; rw [hg10]; congr 1; omega] at hC
          replace M := M.rowNil 5 1
          refine st_append (e := 5) (sz := 1) (by_ := 1) (zc := [.int .u8 0]) S M 0 rfl rfl (by kernel_rfl) rfl (by decide) rfl rfl rfl (hC) (allOne_bcells _) (by omega) (by unfold maxLen; omega) ?_; clear S M a; intro a w25 vA loA hiA S M
          refine wpList_nil ?_; refine then_normal ?_; refine ⟨fun h => absurd h (by decide), ?_⟩
          refine k_read (listed' := #[true, true, true, true, true, true, true, true, false]) 7 S rfl rfl rfl rfl (by kernel_rfl) rfl (fun _ d _ _ _ h => by cases d <;> exact h) (fun w hW => have M := M.grow hW; y_fieldAddr (k := 5) S (by kernel_rfl) rfl) ?_; clear S a; intro a S
          refine k_one (listed' := #[true, true, true, true, true, true, true, true, true]) 8 rfl (by kernel_rfl) rfl ?_
          have hlE : (ldIn X).length = x10.toNat := by omega
          rw [Nat.zero_add, List.nil_append] at M
          obtain ⟨adV, cpV, hE, -, -⟩ := (M.readRow 0 rfl (by unfold maxLen; omega)).form
          subst hE
          refine st_store (sz := 1) (us := [_]) S M 1 rfl (by kernel_rfl) rfl rfl rfl rfl rfl rfl (by first | decide | (simp; done) | (simp; omega)) ?_; clear M; intro w26 M
          simp only [putL, List.set_cons_zero, List.set_cons_succ, Nat.reduceAdd] at M
          refine wpList_nil ?_; refine then_normal ?_; refine ⟨fun h => absurd h (by decide), ?_⟩
          refine k_end (by kernel_rfl) ?_
          replace S := S.sub [(0, _), (2, _), (4, _), (6, _), (7, _)] rfl
          refine then_normal ?_
          refine wp_seq ?_
          -- region 9 ref.go:64
          refine wp_region_lit ?_
          skip
          replace M : Mem w w26 [rowE loA hiA 5 1 (.slice adV (ldIn X).length cpV) (ldIn X).length (bcells (ldIn X)), .blk bF ((frIn X).cells (.slice adV (ldIn X).length cpV)).toArray 33, rowE lo hi 5 1 v4 X.length (bcells X), .blk b1 (zeroFr.cells (.slice none 0 0)).toArray 33] := M
          refine st_y S rfl rfl rfl (y_loadAgg (cs := [_, _, _, _, _, _]) S (by kernel_rfl) rfl rfl (M.cellsAt (k := 6) 1 rfl rfl)) ?_; clear S a; intro a S
          refine st_call (xs := [(Operand.tmp 62)]) S (enters_of Try.func14 (by decide) rfl) rfl rfl rfl (refBytes_any (frIn X) _ (ldIn X) _ (M.wide (k := 0) rfl (by unfold maxLen; omega))) ?_
          rintro _ w27 ⟨v9, rfl, hK, hF3, hN3⟩; refine ⟨_, rfl, ?_⟩; clear S a; intro a S
          obtain ⟨lo9, hi9, -, M⟩ := M.pushFresh (fresh_if (p := (frIn X).may (ldIn X).length = true) hK hF3 (fun h => hN3 (by simpa using h)))
          refine st_y S rfl rfl rfl (y_move S rfl) ?_; clear S a; intro a S
          refine st_y S rfl rfl rfl (y_extract S rfl rfl) ?_; clear S a; intro a S
          refine st_y S rfl rfl rfl (y_extract S rfl rfl) ?_; clear S a; intro a S
          refine st_y S rfl rfl rfl (y_assign S rfl) ?_; clear S a; intro a S
          refine st_y S rfl rfl rfl (y_assign S rfl) ?_; clear S a; intro a S
          refine wpList_nil ?_
          replace S := S.sub [(0, _), (2, _), (4, _), (6, _), (7, _), (8, _), (9, _)] rfl
          refine then_normal ?_
          refine wp_seq ?_
          refine wp_seq ?_
          -- region 10 ref.go:65
          refine wp_region_lit ?_
          refine st_y S rfl rfl rfl (y_move S rfl) ?_; clear S a; intro a S
          refine st_y S rfl rfl rfl (y_int S rfl rfl rfl) ?_; clear S a; intro a S
          refine st_y S rfl rfl rfl (y_move S rfl) ?_; clear S a; intro a S
          refine st_split (t := 68) S rfl ?_ ?_
          · clear S; intro h68 S
            first | replace h68 := nrmA h68 | replace h68 := nrmB h68 | skip
            first | replace h68 := nrm1 h68 | replace h68 := nrm2 h68 | replace h68 := nrm3 h68 | replace h68 := nrm4 h68 | replace h68 := nrm5 h68 | replace h68 := nrm6 h68 | replace h68 := of_decide_eq_true h68 | replace h68 := of_decide_eq_false h68 | skip
            refine st_no S rfl rfl rfl ?_; clear S a; intro a S
            refine st_no S rfl rfl rfl ?_; clear S a; intro a S
            refine st_no S rfl rfl rfl ?_; clear S a; intro a S
            refine st_no S rfl rfl rfl ?_; clear S a; intro a S
            refine st_no S rfl rfl rfl ?_; clear S a; intro a S
            refine st_y S rfl rfl rfl (y_pickT S rfl rfl) ?_; clear S a; intro a S
            refine wpList_nil ?_
            replace S := S.sub [(0, _), (2, _), (4, _), (6, _), (7, _), (8, _), (9, _), (74, _)] rfl
            refine then_normal ?_
            refine st_condT S rfl ?_
            refine wp_seq ?_
            -- region 11 ref.go:66
            refine wp_region_lit ?_
            have hno : readF bs = none := by
              unfold readF; rw [if_neg]; rw [hX]; rintro ⟨_, _, _, h4, h5⟩
              first
                | (rw [h4] at h68; simp at h68; done)
                | (rw [h5] at h74; simp at h74; done)
            refine st_y S rfl rfl rfl (y_build (ps := []) (pl := [(0, 1), (1, 1), (2, 1), (3, 1), (4, 1), (5, 1)]) (z := [.int .i64 0, .int .i64 0, .int .i64 0, .int .i64 0, .int .u32 0, .slice none 0 0]) (cs := [_, _, _, _, _, _]) S (by kernel_rfl) rfl rfl) ?_; clear S a; intro a S
            refine st_store (sz := 6) (us := [_, _, _, _, _, _]) S M 4 rfl (by kernel_rfl) rfl rfl rfl rfl rfl rfl (by first | decide | (simp; done) | (simp; omega)) ?_; clear M; intro w28 M
            simp only [putL, List.set_cons_zero, List.set_cons_succ, Nat.reduceAdd] at M
            refine st_y S rfl rfl rfl (y_assign S rfl) ?_; clear S a; intro a S
            refine wpList_nil ?_
            replace S := S.sub [(0, _), (2, _), (4, _), (6, _), (7, _), (8, _), (9, _), (74, _), (3, _)] rfl
            refine then_normal ?_
            refine wp_ret ?_
            refine then_ret ?_
            refine end_two S rfl (res_agg (cs := [_, _, _, _, _, _]) (by kernel_rfl) rfl rfl (M.cellsAt (k := 6) 4 rfl rfl)) (res_tmp rfl) ?_
            exact readPost_no M hno
          · clear S; intro h68 S
            first | replace h68 := nrmA h68 | replace h68 := nrmB h68 | skip
            first | replace h68 := nrm1 h68 | replace h68 := nrm2 h68 | replace h68 := nrm3 h68 | replace h68 := nrm4 h68 | replace h68 := nrm5 h68 | replace h68 := nrm6 h68 | replace h68 := of_decide_eq_true h68 | replace h68 := of_decide_eq_false h68 | skip
            have hmay : (frIn X).may (ldIn X).length = true := by
              cases h : (frIn X).may (ldIn X).length
              · rw [h] at h68; simp at h68
              · rfl
            rw [ifL_pos hmay] at M
            refine st_y S rfl rfl rfl (y_move S rfl) ?_; clear S a; intro a S
            refine st_y S rfl rfl rfl (y_bytesStr (e := 5) S rfl (by kernel_rfl) (by kernel_rfl) (by kernel_rfl) (M.readRow 0 rfl (by rw [bytesF_length hmay]; unfold maxLen; omega))) ?_; clear S a; intro a S
            refine st_y S rfl rfl rfl (y_move S rfl) ?_; clear S a; intro a S
            refine st_y S rfl rfl rfl (y_bytesStr (e := 5) S rfl (by kernel_rfl) (by kernel_rfl) (by kernel_rfl) (M.arg hv)) ?_; clear S a; intro a S
            refine st_y S rfl rfl rfl (y_neqStr S rfl rfl) ?_; clear S a; intro a S
            refine st_y S rfl rfl rfl (y_pickF S rfl rfl) ?_; clear S a; intro a S
            refine wpList_nil ?_
            replace S := S.sub [(0, _), (2, _), (4, _), (6, _), (7, _), (8, _), (9, _), (74, _)] rfl
            refine then_normal ?_
            refine st_split (t := 74) S rfl ?_ ?_
            · clear S; intro h74 S
              first | replace h74 := nrmA h74 | replace h74 := nrmB h74 | skip
              first | replace h74 := nrm1 h74 | replace h74 := nrm2 h74 | replace h74 := nrm3 h74 | replace h74 := nrm4 h74 | replace h74 := nrm5 h74 | replace h74 := nrm6 h74 | replace h74 := of_decide_eq_true h74 | replace h74 := of_decide_eq_false h74 | skip
              refine st_condT S rfl ?_
              refine wp_seq ?_
              -- region 11 ref.go:66
              refine wp_region_lit ?_
              have hno : readF bs = none := by
                unfold readF; rw [if_neg]; rw [hX]; rintro ⟨_, _, _, h4, h5⟩
                first
                  | (rw [h4] at h68; simp at h68; done)
                  | (rw [h5] at h74; simp at h74; done)
              refine st_y S rfl rfl rfl (y_build (ps := []) (pl := [(0, 1), (1, 1), (2, 1), (3, 1), (4, 1), (5, 1)]) (z := [.int .i64 0, .int .i64 0, .int .i64 0, .int .i64 0, .int .u32 0, .slice none 0 0]) (cs := [_, _, _, _, _, _]) S (by kernel_rfl) rfl rfl) ?_; clear S a; intro a S
              refine st_store (sz := 6) (us := [_, _, _, _, _, _]) S M 4 rfl (by kernel_rfl) rfl rfl rfl rfl rfl rfl (by first | decide | (simp; done) | (simp; omega)) ?_; clear M; intro w29 M
              simp only [putL, List.set_cons_zero, List.set_cons_succ, Nat.reduceAdd] at M
              refine st_y S rfl rfl rfl (y_assign S rfl) ?_; clear S a; intro a S
              refine wpList_nil ?_
              replace S := S.sub [(0, _), (2, _), (4, _), (6, _), (7, _), (8, _), (9, _), (74, _), (3, _)] rfl
              refine then_normal ?_
              refine wp_ret ?_
              refine then_ret ?_
              refine end_two S rfl (res_agg (cs := [_, _, _, _, _, _]) (by kernel_rfl) rfl rfl (M.cellsAt (k := 6) 4 rfl rfl)) (res_tmp rfl) ?_
              exact readPost_no M hno
            · clear S; intro h74 S
              first | replace h74 := nrmA h74 | replace h74 := nrmB h74 | skip
              first | replace h74 := nrm1 h74 | replace h74 := nrm2 h74 | replace h74 := nrm3 h74 | replace h74 := nrm4 h74 | replace h74 := nrm5 h74 | replace h74 := nrm6 h74 | replace h74 := of_decide_eq_true h74 | replace h74 := of_decide_eq_false h74 | skip
              refine st_condF S rfl ?_
              refine wp_skip ?_
              refine then_normal ?_
              refine wp_seq ?_
              -- region 12 ref.go:68
              refine wp_region_lit ?_
              have hyes : readF bs = some (frIn X, ldIn X) := by
                unfold readF; rw [hX, if_pos]
                exact ⟨h64, hok, by omega, hmay, by simpa using h74⟩
              refine st_y S rfl rfl rfl (y_loadAgg (cs := [_, _, _, _, _, _]) S (by kernel_rfl) rfl rfl (M.cellsAt (k := 6) 2 rfl rfl)) ?_; clear S a; intro a S
              refine st_store (sz := 6) (us := [_, _, _, _, _, _]) S M 4 rfl (by kernel_rfl) rfl rfl rfl rfl rfl rfl (by first | decide | (simp; done) | (simp; omega)) ?_; clear M; intro w30 M
              simp only [putL, List.set_cons_zero, List.set_cons_succ, Nat.reduceAdd] at M
              refine st_y S rfl rfl rfl (y_assign S rfl) ?_; clear S a; intro a S
              refine wpList_nil ?_
              replace S := S.sub [(0, _), (2, _), (4, _), (6, _), (7, _), (8, _), (9, _), (74, _), (3, _)] rfl
              refine then_normal ?_
              refine wp_ret ?_
              refine end_two S rfl (res_agg (cs := [_, _, _, _, _, _]) (by kernel_rfl) rfl rfl (M.cellsAt (k := 6) 4 rfl rfl)) (res_tmp rfl) ?_
              exact ⟨frIn X, _, 0, rfl, M.below, (fun g ld' h => by
                rw [hyes] at h
                obtain ⟨rfl, rfl⟩ := Prod.mk.inj (Option.some.inj h)
                exact ⟨rfl, rfl, M.fresh 1 rfl⟩), fun h => by rw [hyes] at h; cases h⟩

end Go.Proofs.Ytdkdplahikoicaa
