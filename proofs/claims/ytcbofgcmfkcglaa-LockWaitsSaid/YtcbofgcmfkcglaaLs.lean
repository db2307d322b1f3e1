/-
  Package lock: Release, walked in full.
-/
import Derived.Test.YtcbofgcmfkcglaaLr
import Derived.Test.YtcbofgcmfkcglaaRo
import Derived.Test.YtcbofgcmfkcglaaStr
namespace Go.Proofs.Ytcbofgcmfkcglaa
open Go.RowKit Go.Sort

/-- the rows of the holders' places, block by block -/
def RIx (R : List RI) (l : List Lk) : Prop := R.length = 32 ∧ ∀ (k : Nat) (r : RI), R[k]? = some r → r.zs = idxB l (k : Int)
theorem RIx.get {R : List RI} {l : List Lk} (h : RIx R l) {k : Nat} (hk : k < 32) : ∃ r, R[k]? = some r ∧ r.zs = idxB l (k : Int) := by
  have := List.getElem?_eq_getElem (show k < R.length by rw [h.1]; exact hk)
  exact ⟨_, this, h.2 _ _ this⟩
theorem RIx.put {R : List RI} {l : List Lk} {x : Lk} {kb : Nat} {r r' : RI} (h : RIx R l) (hb : x.block = (kb : Int)) (hr : R[kb]? = some r) (hz : r'.zs = r.zs ++ [(l.length : Int)]) : RIx (R.set kb r') (l ++ [x]) := by
  refine ⟨by rw [List.length_set]; exact h.1, fun k q hq => ?_⟩
  have hlt := (List.getElem?_eq_some_iff.1 hr).1
  rw [idxB_snoc]
  by_cases e : kb = k
  · subst e
    rw [List.getElem?_set_self hlt] at hq
    obtain rfl := Option.some.inj hq
    rw [if_pos hb, hz, h.2 _ _ hr]
  · rw [List.getElem?_set_ne e] at hq
    rw [if_neg (by rw [hb]; omega), List.append_nil]
    exact h.2 _ _ hq
theorem RIx.strong {R : List RI} {l : List Lk} {i : Nat} {q : Lk} (h : RIx R l) (hq : l[i]? = some q) : RIx R (l.set i q.strong) :=
  ⟨h.1, fun k r hr => by rw [h.2 k r hr]; exact (idxF_set l i 0 k q q.strong hq rfl).symm⟩
def PI (ml : Mes Pl) (l : List Lk) : Prop := ∀ p, (getM ml p).getD (.int .i64 0) = .int .i64 (posB l p)
theorem PI.put {ml : Mes Pl} {l : List Lk} {x : Lk} {c : Nat} {z : Int} (h : PI ml l) (hx : ∀ q ∈ l, q.pl ≠ x.pl) (hz : z = (l.length : Int) + 1) : PI (putM encP ml c x.pl (.int .i64 z)).1 (l ++ [x]) := by
  intro p
  rw [get_put, posB_snoc hx]
  split
  · rw [hz]; rfl
  · exact h p
theorem PI.strong {ml : Mes Pl} {l : List Lk} {i : Nat} {q : Lk} (h : PI ml l) (hq : l[i]? = some q) : PI ml (l.set i q.strong) := fun p => by
  rw [h p]; congr 1; exact (posF_set l i 0 p q q.strong hq rfl).symm
def GI (ml : Mes Pl) (gone : List Lk) : Prop := ∀ p, (getM ml p).getD (.int .i8 0) = .int .i8 (if p ∈ gone.map Lk.pl then 1 else 0)
theorem GI.put {ml : Mes Pl} {l : List Lk} {x : Lk} {c : Nat} (h : GI ml l) : GI (putM encP ml c x.pl (.int .i8 1)).1 (l ++ [x]) := by
  intro p
  rw [get_put]
  by_cases e : p = x.pl
  · rw [if_pos e, if_pos (by rw [e]; simp)]; rfl
  · rw [if_neg e, h p]
    have : p ∈ (l ++ [x]).map Lk.pl ↔ p ∈ l.map Lk.pl := by simp [e]
    simp only [this]
theorem zero_i64 (w : World) : (zeroValue 3).run Try.prog w = .ok (.int .i64 0) w := by
  obtain ⟨i, hi, hz⟩ : ∃ i, Try.prog.info? 3 = some i ∧ i.zero = some (.int .i64 0) := by
    refine ⟨_, rfl, ?_⟩
    kernel_rfl
  simp [zeroValue, typeInfo, hi, hz, go_sem]
theorem relP_len (h0 w0 : List Lk) : ∀ (k : Nat), (relP h0 w0 k).1.length ≤ h0.length + k * w0.length ∧ (relP h0 w0 k).2.length ≤ k * w0.length := by
  have hrow : ∀ (row held gone : List Lk), (rowP held gone row).1.length ≤ held.length + row.length ∧ (rowP held gone row).2.length ≤ gone.length + row.length := by
    intro row
    induction row with
    | nil => intro held gone; simp [rowP]
    | cons x xs ih =>
      intro held gone
      by_cases hB : Blk13 held x
      · rw [rowP_stop hB]; simp
      · rw [rowP_go hB]
        have h1 := ih (grantL held x) (gone ++ [x])
        have h2 : (grantL held x).length ≤ held.length + 1 := by
          unfold grantL
          split
          · simp
          · split
            · split
              · rw [List.length_set]; omega
              · omega
            · omega
        simp only [List.length_append, List.length_cons, List.length_nil] at h1 ⊢
        omega
  intro k
  induction k with
  | zero => simp [relP]
  | succ k ih =>
    rw [relP]
    have h1 := hrow (w0.filter fun q => q.block == (k : Int)) (relP h0 w0 k).1 (relP h0 w0 k).2
    have h2 : (w0.filter fun q => q.block == (k : Int)).length ≤ w0.length := List.length_filter_le _ _
    have e : (k + 1) * w0.length = k * w0.length + w0.length := by rw [Nat.add_mul, Nat.one_mul]
    omega
def RelPost (h wt : List Lk) (n : Nm) (w : World) (e : Ending) (w' : World) : Prop :=
  ∃ er v oa ol oc h' wt', e = .returned (.tuple #[v, .slice oa ol oc, .int .i64 er]) ∧ NewT h' wt' w w' v ∧ ((er = 0 ∧ OkT h wt ∧ RelRes h wt n h' wt') ∨ (er = 2 ∧ ¬ OkT h wt))
set_option maxHeartbeats 8000000 in
theorem release_any (ha wa : Option Addr) (hc wc : Nat) (h wt : List Lk) (n : Nm) (w : World) (hv : Ls 0 w.heap.size w (.slice ha h.length hc) h) (hu : Ls 0 w.heap.size w (.slice wa wt.length wc) wt) (hl : h.length ≤ 1000) (hl2 : wt.length ≤ 1000) :
    Calls Try.prog 9 #[tabV ha wa h.length hc wt.length wc, .agg n.cells] w (RelPost h wt n w) := by
  have M := Mem.start w
  refine calls_enter Try.func9 rfl 132 rfl rfl ?_; intro a S
  refine nxD ?_
  refine st_box S M rfl rfl rfl #[_, _] rfl ?_; clear S M a; intro a w1 bT S M hB
  refine st_box S M rfl rfl rfl #[_, _, _] rfl ?_; clear S M a; intro a w2 bN S M hB
  refine st_alloc S M rfl rfl #[.slice none 0 0, .slice none 0 0] (by kernel_rfl) ?_; clear S M a; intro a w3 bR S M hB
  refine st_go [1, 1] S rfl (by kernel_rfl) ?_; clear S a; intro a S
  refine nxC ?_
  refine wp_seq ?_
  refine nxD ?_
  refine st_y S rfl rfl rfl (y_loadAgg (cs := [_, _]) S (by kernel_rfl) rfl rfl (M.cellsAt (k := 2) 2 rfl rfl)) ?_; clear S a; intro a S
  refine st_call (xs := [(Operand.tmp 19)]) S (enters_of Try.func11 (by decide) rfl) rfl rfl rfl (check_any ha wa hc wc h wt _ (M.argW hv) (M.argW hu)) ?_
  rintro _ w4 ⟨er, rfl, hK, her⟩; refine ⟨_, rfl, ?_⟩; clear S a; intro a S; replace M := M.grow hK
  refine st_go [1] S rfl (by kernel_rfl) ?_; clear S a; intro a S
  refine nxC ?_
  refine st_if (t := 21) S rfl ?_ ?_
  · clear S; intro h21 S
    refine st_condT S rfl ?_
    refine nxD ?_
    refine st_y S rfl rfl rfl (y_build (ps := []) (pl := [(0, 1), (1, 1)]) (z := [.slice none 0 0, .slice none 0 0]) (cs := [_, _]) S (by kernel_rfl) rfl (rfl)) ?_; clear S a; intro a S
    refine st_store (sz := 2) (us := [_, _]) S M 0 rfl (by kernel_rfl) rfl rfl rfl rfl rfl rfl (by first | decide | (simp; done) | (simp; omega)) ?_; clear M; intro w5 M
    simp only [putL, List.set_cons_zero, List.set_cons_succ, Nat.reduceAdd] at M
    refine st_go [1, 1] S rfl (by kernel_rfl) ?_; clear S a; intro a S
    refine nxC ?_
    refine wp_ret ?_
    refine then_ret ?_
    refine end_three S rfl (res_agg (cs := [_, _]) (by kernel_rfl) rfl rfl (M.cellsAt (k := 2) 0 rfl rfl)) (res_tmp rfl) (res_tmp rfl) ?_
    replace M := (M.rowNil 37 5).rowNil 37 5
    replace M := M.drop 2
    simp only [List.eraseIdx_cons_succ, List.eraseIdx_cons_zero] at M
    replace M := M.drop 2
    simp only [List.eraseIdx_cons_succ, List.eraseIdx_cons_zero] at M
    replace M := M.drop 2
    simp only [List.eraseIdx_cons_succ, List.eraseIdx_cons_zero] at M
    exact ⟨2, _, none, 0, 0, [], [], rfl, ⟨none, none, 0, 0, _, _, _, _, rfl, M⟩, .inr ⟨rfl, fun h' => by have := her.2 h'; omega⟩⟩
  clear S; intro h21 S
  refine st_condF S rfl ?_
  refine wp_skip ?_
  refine then_normal ?_
  refine wp_seq ?_
  have her0 : er = 0 := by omega
  have hok := her.1 her0
  obtain ⟨h0, hh0⟩ : ∃ h0, h0 = h.filter fun q => !q.name.eqb n := ⟨_, rfl⟩
  obtain ⟨w0, hw0⟩ : ∃ w0, w0 = wt.filter fun q => !q.name.eqb n := ⟨_, rfl⟩
  have hs1 : h0.Sublist h := by rw [hh0]; exact List.filter_sublist
  have hs2 : w0.Sublist wt := by rw [hw0]; exact List.filter_sublist
  have hl3 : h0.length ≤ 1000 := Nat.le_trans hs1.length_le hl
  have hl4 : w0.length ≤ 1000 := Nat.le_trans hs2.length_le hl2
  have hmay : ∀ q ∈ h0, q.may = true := fun q hq => hok.may q (hs1.subset hq)
  have hnd : (h0.map Lk.pl).Nodup := hok.nodup.sublist (hs1.map _)
  refine wp_region_lit ?_
  refine st_y S rfl rfl rfl (y_makeFunc (fs := []) (cs := [(Operand.tmp 3)]) S rfl rfl) ?_; clear S a; intro a S
  refine st_go [1] S rfl (by kernel_rfl) ?_; clear S a; intro a S
  refine nxC ?_
  refine wp_cut (fun a w' => ∃ (bU : Nat) (va1 va2 : Option Addr) (vc1 vc2 lo1 hi1 lo2 hi2 : Nat), Sees 132 a [(4, .pointer (some ⟨bR, 0, none⟩)), (8, .pointer (some ⟨bU, 0, none⟩))] ∧ Mem w w' [.blk bU #[.slice va1 h0.length vc1, .slice va2 w0.length vc2] 30, rowE lo2 hi2 37 5 (.slice va2 w0.length vc2) w0.length (lcells w0), rowE lo1 hi1 37 5 (.slice va1 h0.length vc1) h0.length (lcells h0), .blk bR #[.slice none 0 0, .slice none 0 0] 30]) ?_ ?_
  · skip
    refine wp_regionK [10] #[false, false, false, false, false, false, false, false, false, false, false] rfl M (by kernel_rfl) ?_; clear M; intro w6 M
    refine k_pure (listed' := #[true, false, false, false, false, false, false, false, false, false, false]) 0 S rfl rfl rfl rfl (by kernel_rfl) rfl (fun _ d _ _ _ h => by cases d <;> exact h) (fun w => y_fieldAddr (k := 0) S (by kernel_rfl) rfl) ?_; clear S a; intro a S
    refine k_read (listed' := #[true, true, false, false, false, false, false, false, false, false, false]) 1 S rfl rfl rfl rfl (by kernel_rfl) rfl (fun _ d _ _ _ h => by cases d <;> exact h) (fun w hW => have M := M.grow hW; y_load S (by kernel_rfl) rfl (M.cell 2 rfl rfl)) ?_; clear S a; intro a S
    refine k_pure (listed' := #[true, true, true, false, false, false, false, false, false, false, false]) 2 S rfl rfl rfl rfl (by kernel_rfl) rfl (fun _ d _ _ _ h => by cases d <;> exact h) (fun w => y_move S rfl) ?_; clear S a; intro a S
    refine k_pure (listed' := #[true, true, true, false, true, false, false, false, false, false, false]) 4 S rfl rfl rfl rfl (by kernel_rfl) rfl (fun _ d _ _ _ h => by cases d <;> exact h) (fun w => y_fieldAddr (k := 1) S (by kernel_rfl) rfl) ?_; clear S a; intro a S
    refine k_read (listed' := #[true, true, true, false, true, true, false, false, false, false, false]) 5 S rfl rfl rfl rfl (by kernel_rfl) rfl (fun _ d _ _ _ h => by cases d <;> exact h) (fun w hW => have M := M.grow hW; y_load S (by kernel_rfl) rfl (M.cell 2 rfl rfl)) ?_; clear S a; intro a S
    refine k_pure (listed' := #[true, true, true, false, true, true, true, false, false, false, false]) 6 S rfl rfl rfl rfl (by kernel_rfl) rfl (fun _ d _ _ _ h => by cases d <;> exact h) (fun w => y_move S rfl) ?_; clear S a; intro a S
    refine k_two (l1 := #[true, true, true, true, true, true, true, false, false, false, false]) (l2 := #[true, true, true, false, true, true, true, false, false, true, false]) 3 9 rfl rfl (by kernel_rfl) rfl rfl ?_ ?_
    · skip
      refine st_call (xs := [(Operand.tmp 25), (Operand.tmp 26)]) S (enters_of Try.func28 (by decide) rfl) rfl rfl rfl (kept_any (fi := []) (ca := [.pointer (some ⟨bN, 0, none⟩)]) (enters_of Try.func27 (by decide) rfl) ha hc h (fun q => !q.name.eqb n) _ (M.argW hv) (by omega) (fun y _ w' hb => rel1_any y n bN w' ((hb.block bN (M.blk 1 rfl).lt).trans (M.blk 1 rfl)))) ?_
      rintro _ w7 ⟨va1, vc1, lo1, hi1, rfl, M1⟩; refine ⟨_, rfl, ?_⟩; clear S a; intro a S
      rw [← hh0] at S M1
      have hK := M1.below
      replace M := M.join M1; clear M1
      simp only [List.cons_append, List.nil_append] at M
      refine wpList_nil ?_; refine then_normal ?_; refine ⟨fun _ => hK, ?_⟩
      refine k_two (l1 := #[true, true, true, true, true, true, true, true, false, false, false]) (l2 := #[true, true, true, true, true, true, true, false, false, true, false]) 7 9 rfl rfl (by kernel_rfl) rfl rfl ?_ ?_
      · skip
        refine st_call (xs := [(Operand.tmp 29), (Operand.tmp 30)]) S (enters_of Try.func28 (by decide) rfl) rfl rfl rfl (kept_any (fi := []) (ca := [.pointer (some ⟨bN, 0, none⟩)]) (enters_of Try.func27 (by decide) rfl) wa wc wt (fun q => !q.name.eqb n) _ (M.argW hu) (by omega) (fun y _ w' hb => rel1_any y n bN w' ((hb.block bN (M.blk 2 rfl).lt).trans (M.blk 2 rfl)))) ?_
        rintro _ w8 ⟨va2, vc2, lo2, hi2, rfl, M1⟩; refine ⟨_, rfl, ?_⟩; clear S a; intro a S
        rw [← hw0] at S M1
        have hK := M1.below
        replace M := M.join M1; clear M1
        simp only [List.cons_append, List.nil_append] at M
        refine wpList_nil ?_; refine then_normal ?_; refine ⟨fun _ => hK, ?_⟩
        refine k_pure (listed' := #[true, true, true, true, true, true, true, true, true, false, false]) 8 S rfl rfl rfl rfl (by kernel_rfl) rfl (fun _ d _ _ _ h => by cases d <;> exact h) (fun w => y_build (ps := [(0, (Operand.tmp 27)), (1, (Operand.tmp 31))]) (pl := [(0, 1), (1, 1)]) (z := [.slice none 0 0, .slice none 0 0]) (cs := [_, _]) S (by kernel_rfl) rfl (rfl)) ?_; clear S a; intro a S
        refine k_one (listed' := #[true, true, true, true, true, true, true, true, true, true, false]) 9 rfl (by kernel_rfl) rfl ?_
        refine st_alloc S M rfl rfl #[.slice none 0 0, .slice none 0 0] (by kernel_rfl) ?_; clear S M a; intro a w9 bU S M hB
        refine wpList_nil ?_; refine then_normal ?_; refine ⟨fun _ => hB, ?_⟩
        refine k_one (listed' := #[true, true, true, true, true, true, true, true, true, true, true]) 10 rfl (by kernel_rfl) rfl ?_
        refine st_store (sz := 2) (us := [_, _]) S M 0 rfl (by kernel_rfl) rfl rfl rfl rfl rfl rfl (by first | decide | (simp; done) | (simp; omega)) ?_; clear M; intro w10 M
        simp only [putL, List.set_cons_zero, List.set_cons_succ, Nat.reduceAdd] at M
        refine wpList_nil ?_; refine then_normal ?_; refine ⟨fun h => absurd h (by decide), ?_⟩
        refine k_end (by kernel_rfl) ?_
        refine then_normal ?_
        replace M := M.drop 5
        simp only [List.eraseIdx_cons_succ, List.eraseIdx_cons_zero] at M
        replace M := M.drop 4
        simp only [List.eraseIdx_cons_succ, List.eraseIdx_cons_zero] at M
        replace M := M.front 3 rfl
        simp only [List.eraseIdx_cons_succ, List.eraseIdx_cons_zero] at M
        replace M := M.front 3 rfl
        simp only [List.eraseIdx_cons_succ, List.eraseIdx_cons_zero] at M
        replace M := M.front 3 rfl
        simp only [List.eraseIdx_cons_succ, List.eraseIdx_cons_zero] at M
        replace M := M.front 3 rfl
        simp only [List.eraseIdx_cons_succ, List.eraseIdx_cons_zero] at M
        exact ⟨bU, va1, va2, vc1, vc2, lo1, hi1, lo2, hi2, S.sub _ rfl, M⟩
      · skip
        refine st_alloc S M rfl rfl #[.slice none 0 0, .slice none 0 0] (by kernel_rfl) ?_; clear S M a; intro a w11 bU S M hB
        refine wpList_nil ?_; refine then_normal ?_; refine ⟨fun _ => hB, ?_⟩
        refine k_one (listed' := #[true, true, true, true, true, true, true, true, false, true, false]) 7 rfl (by kernel_rfl) rfl ?_
        refine st_call (xs := [(Operand.tmp 29), (Operand.tmp 30)]) S (enters_of Try.func28 (by decide) rfl) rfl rfl rfl (kept_any (fi := []) (ca := [.pointer (some ⟨bN, 0, none⟩)]) (enters_of Try.func27 (by decide) rfl) wa wc wt (fun q => !q.name.eqb n) _ (M.argW hu) (by omega) (fun y _ w' hb => rel1_any y n bN w' ((hb.block bN (M.blk 3 rfl).lt).trans (M.blk 3 rfl)))) ?_
        rintro _ w12 ⟨va2, vc2, lo2, hi2, rfl, M1⟩; refine ⟨_, rfl, ?_⟩; clear S a; intro a S
        rw [← hw0] at S M1
        have hK := M1.below
        replace M := M.join M1; clear M1
        simp only [List.cons_append, List.nil_append] at M
        refine wpList_nil ?_; refine then_normal ?_; refine ⟨fun _ => hK, ?_⟩
        refine k_pure (listed' := #[true, true, true, true, true, true, true, true, true, true, false]) 8 S rfl rfl rfl rfl (by kernel_rfl) rfl (fun _ d _ _ _ h => by cases d <;> exact h) (fun w => y_build (ps := [(0, (Operand.tmp 27)), (1, (Operand.tmp 31))]) (pl := [(0, 1), (1, 1)]) (z := [.slice none 0 0, .slice none 0 0]) (cs := [_, _]) S (by kernel_rfl) rfl (rfl)) ?_; clear S a; intro a S
        refine k_one (listed' := #[true, true, true, true, true, true, true, true, true, true, true]) 10 rfl (by kernel_rfl) rfl ?_
        refine st_store (sz := 2) (us := [_, _]) S M 1 rfl (by kernel_rfl) rfl rfl rfl rfl rfl rfl (by first | decide | (simp; done) | (simp; omega)) ?_; clear M; intro w13 M
        simp only [putL, List.set_cons_zero, List.set_cons_succ, Nat.reduceAdd] at M
        refine wpList_nil ?_; refine then_normal ?_; refine ⟨fun h => absurd h (by decide), ?_⟩
        refine k_end (by kernel_rfl) ?_
        refine then_normal ?_
        replace M := M.drop 5
        simp only [List.eraseIdx_cons_succ, List.eraseIdx_cons_zero] at M
        replace M := M.drop 4
        simp only [List.eraseIdx_cons_succ, List.eraseIdx_cons_zero] at M
        replace M := M.front 3 rfl
        simp only [List.eraseIdx_cons_succ, List.eraseIdx_cons_zero] at M
        replace M := M.front 3 rfl
        simp only [List.eraseIdx_cons_succ, List.eraseIdx_cons_zero] at M
        replace M := M.front 2 rfl
        simp only [List.eraseIdx_cons_succ, List.eraseIdx_cons_zero] at M
        replace M := M.front 3 rfl
        simp only [List.eraseIdx_cons_succ, List.eraseIdx_cons_zero] at M
        exact ⟨bU, va1, va2, vc1, vc2, lo1, hi1, lo2, hi2, S.sub _ rfl, M⟩
    · skip
      refine st_alloc S M rfl rfl #[.slice none 0 0, .slice none 0 0] (by kernel_rfl) ?_; clear S M a; intro a w14 bU S M hB
      refine wpList_nil ?_; refine then_normal ?_; refine ⟨fun _ => hB, ?_⟩
      refine k_one (listed' := #[true, true, true, true, true, true, true, false, false, true, false]) 3 rfl (by kernel_rfl) rfl ?_
      refine st_call (xs := [(Operand.tmp 25), (Operand.tmp 26)]) S (enters_of Try.func28 (by decide) rfl) rfl rfl rfl (kept_any (fi := []) (ca := [.pointer (some ⟨bN, 0, none⟩)]) (enters_of Try.func27 (by decide) rfl) ha hc h (fun q => !q.name.eqb n) _ (M.argW hv) (by omega) (fun y _ w' hb => rel1_any y n bN w' ((hb.block bN (M.blk 2 rfl).lt).trans (M.blk 2 rfl)))) ?_
      rintro _ w15 ⟨va1, vc1, lo1, hi1, rfl, M1⟩; refine ⟨_, rfl, ?_⟩; clear S a; intro a S
      rw [← hh0] at S M1
      have hK := M1.below
      replace M := M.join M1; clear M1
      simp only [List.cons_append, List.nil_append] at M
      refine wpList_nil ?_; refine then_normal ?_; refine ⟨fun _ => hK, ?_⟩
      refine k_one (listed' := #[true, true, true, true, true, true, true, true, false, true, false]) 7 rfl (by kernel_rfl) rfl ?_
      refine st_call (xs := [(Operand.tmp 29), (Operand.tmp 30)]) S (enters_of Try.func28 (by decide) rfl) rfl rfl rfl (kept_any (fi := []) (ca := [.pointer (some ⟨bN, 0, none⟩)]) (enters_of Try.func27 (by decide) rfl) wa wc wt (fun q => !q.name.eqb n) _ (M.argW hu) (by omega) (fun y _ w' hb => rel1_any y n bN w' ((hb.block bN (M.blk 3 rfl).lt).trans (M.blk 3 rfl)))) ?_
      rintro _ w16 ⟨va2, vc2, lo2, hi2, rfl, M1⟩; refine ⟨_, rfl, ?_⟩; clear S a; intro a S
      rw [← hw0] at S M1
      have hK := M1.below
      replace M := M.join M1; clear M1
      simp only [List.cons_append, List.nil_append] at M
      refine wpList_nil ?_; refine then_normal ?_; refine ⟨fun _ => hK, ?_⟩
      refine k_pure (listed' := #[true, true, true, true, true, true, true, true, true, true, false]) 8 S rfl rfl rfl rfl (by kernel_rfl) rfl (fun _ d _ _ _ h => by cases d <;> exact h) (fun w => y_build (ps := [(0, (Operand.tmp 27)), (1, (Operand.tmp 31))]) (pl := [(0, 1), (1, 1)]) (z := [.slice none 0 0, .slice none 0 0]) (cs := [_, _]) S (by kernel_rfl) rfl (rfl)) ?_; clear S a; intro a S
      refine k_one (listed' := #[true, true, true, true, true, true, true, true, true, true, true]) 10 rfl (by kernel_rfl) rfl ?_
      refine st_store (sz := 2) (us := [_, _]) S M 2 rfl (by kernel_rfl) rfl rfl rfl rfl rfl rfl (by first | decide | (simp; done) | (simp; omega)) ?_; clear M; intro w17 M
      simp only [putL, List.set_cons_zero, List.set_cons_succ, Nat.reduceAdd] at M
      refine wpList_nil ?_; refine then_normal ?_; refine ⟨fun h => absurd h (by decide), ?_⟩
      refine k_end (by kernel_rfl) ?_
      refine then_normal ?_
      replace M := M.drop 5
      simp only [List.eraseIdx_cons_succ, List.eraseIdx_cons_zero] at M
      replace M := M.drop 4
      simp only [List.eraseIdx_cons_succ, List.eraseIdx_cons_zero] at M
      replace M := M.front 3 rfl
      simp only [List.eraseIdx_cons_succ, List.eraseIdx_cons_zero] at M
      replace M := M.front 2 rfl
      simp only [List.eraseIdx_cons_succ, List.eraseIdx_cons_zero] at M
      replace M := M.front 2 rfl
      simp only [List.eraseIdx_cons_succ, List.eraseIdx_cons_zero] at M
      replace M := M.front 3 rfl
      simp only [List.eraseIdx_cons_succ, List.eraseIdx_cons_zero] at M
      exact ⟨bU, va1, va2, vc1, vc2, lo1, hi1, lo2, hi2, S.sub _ rfl, M⟩
  clear S a M; intro a wc
  rintro ⟨bU, va1, va2, vc1, vc2, lo1, hi1, lo2, hi2, S, M⟩
  refine nxD ?_
  refine st_makeMap (κ := Pl) S M rfl rfl ?_; clear S M a; intro a w18 bX S M hB
  refine st_go [1] S rfl (by kernel_rfl) ?_; clear S a; intro a S
  refine nxA ?_
  refine st_alloc S M rfl rfl #[.slice none 0 0, .slice none 0 0, .slice none 0 0, .slice none 0 0, .slice none 0 0, .slice none 0 0, .slice none 0 0, .slice none 0 0, .slice none 0 0, .slice none 0 0, .slice none 0 0, .slice none 0 0, .slice none 0 0, .slice none 0 0, .slice none 0 0, .slice none 0 0, .slice none 0 0, .slice none 0 0, .slice none 0 0, .slice none 0 0, .slice none 0 0, .slice none 0 0, .slice none 0 0, .slice none 0 0, .slice none 0 0, .slice none 0 0, .slice none 0 0, .slice none 0 0, .slice none 0 0, .slice none 0 0, .slice none 0 0, .slice none 0 0] (by kernel_rfl) ?_; clear S M a; intro a w19 bHB S M hB
  refine nxC ?_
  refine wp_seq ?_
  refine nxD ?_
  refine st_run [1, 3] S M rfl (by kernel_rfl) ?_; clear S a; intro a S
  refine st_y S rfl rfl rfl (y_lenS (E := 37) S rfl (by kernel_rfl)) ?_; clear S a; intro a S
  refine st_go [1] S rfl (by kernel_rfl) ?_; clear S a; intro a S
  refine nxC ?_
  refine wp_block ?_
  refine wp_loop_g (fun m a w' => ∃ (i : Nat) (Q : List RI) (ml : Mes Pl) (c : Nat), i ≤ h0.length ∧ m = h0.length - i ∧ Good encP ml c ∧ PI ml (h0.take i) ∧ RIx Q (h0.take i) ∧ Sees 132 a [(4, .pointer (some ⟨bR, 0, none⟩)), (8, .pointer (some ⟨bU, 0, none⟩)), (9, .map (some bX)), (10, .pointer (some ⟨bHB, 0, none⟩)), (35, .slice va1 h0.length vc1), (36, .int .i64 (h0.length : Int)), (37, .int .i64 (i : Int))] ∧ Mem w w' (.blk bHB (rowsV Q).toArray 71 :: mapX bX ml c :: .blk bU #[.slice va1 h0.length vc1, .slice va2 w0.length vc2] 30 :: rowE lo2 hi2 37 5 (.slice va2 w0.length vc2) w0.length (lcells w0) :: rowE lo1 hi1 37 5 (.slice va1 h0.length vc1) h0.length (lcells h0) :: .blk bR #[.slice none 0 0, .slice none 0 0] 30 :: rowsE Q)) (h0.length) ?_ ?_
  · skip
    replace M := M.rowsNil 32
    simp only [List.cons_append, List.nil_append] at M
    refine ⟨0, List.replicate 32 ⟨(w19).heap.size, (w19).heap.size, none, 0, []⟩, [], 0, Nat.zero_le _, rfl, good_nil 0, fun p => rfl, ⟨List.length_replicate, fun k r hr => ?_⟩, S.sub _ rfl, M⟩
    obtain ⟨h9, e⟩ := List.getElem?_eq_some_iff.1 hr
    rw [List.getElem_replicate] at e
    rw [← e]; rfl
  clear S M a; intro m a wl
  rintro ⟨i, Q, ml, c, hi', rfl, hG, hPI, hRI, S, M⟩
  refine nxD ?_
  refine st_go [1] S rfl (by kernel_rfl) ?_; clear S a; intro a S
  refine nxC ?_
  refine wp_seq ?_
  refine st_if (t := 38) S rfl ?_ ?_
  · clear S; intro h38 S
    refine st_condT S rfl ?_
    refine wp_skip ?_
    refine then_normal ?_
    refine wp_seq ?_
    refine wp_block ?_
    refine wp_seq ?_
    obtain ⟨x, hx⟩ : ∃ x, h0[i]? = some x := ⟨_, List.getElem?_eq_getElem (by omega)⟩
    have hxm := List.mem_of_getElem? hx
    have htk : h0.take (i + 1) = h0.take i ++ [x] := by rw [List.take_add_one, hx]; rfl
    have htl : (h0.take i).length = i := by rw [List.length_take]; omega
    obtain ⟨kb, hkb, hk32⟩ := may_block (hmay x hxm)
    obtain ⟨r, hr, hrz⟩ := hRI.get hk32
    have hrl : r.zs.length ≤ 1000000 := by
      rw [hrz, idxF_len]
      have := List.length_filter_le (fun q : Lk => q.block == (kb : Int)) (h0.take i)
      omega
    refine wp_region_lit ?_
    refine st_go [1] S rfl (by kernel_rfl) ?_; clear S a; intro a S
    refine st_y S rfl rfl rfl (y_indexR (e := 37) (sz := 5) S (by kernel_rfl) rfl ((M.readAll 4 rfl (by unfold maxLen; omega))) rfl (by first | omega | (simp; done) | (simp; omega))) ?_; clear S a; intro a S
    try simp only [Int.toNat_natCast, Nat.mul_one, Nat.zero_add] at S
    refine st_y S rfl rfl rfl (y_loadAgg S (by kernel_rfl) rfl rfl ((M.readAll 4 rfl (by unfold maxLen; omega)).at_.row (i := i) (lcells_get hx) rfl)) ?_; clear S a; intro a S
    refine st_alloc S M rfl rfl #[.int .i64 0, .int .i64 0, .int .i64 0, .int .i64 0, .bool false] (by kernel_rfl) ?_; clear S M a; intro a w20 bL S M hB
    refine st_go [1] S rfl (by kernel_rfl) ?_; clear S a; intro a S
    refine st_store (sz := 5) (us := [_, _, _, _, _]) S M 0 rfl (by kernel_rfl) rfl rfl rfl rfl rfl rfl (by first | decide | (simp; done) | (simp; omega)) ?_; clear M; intro w21 M
    simp only [putL, List.set_cons_zero, List.set_cons_succ, Nat.reduceAdd] at M
    refine nxA ?_
    refine st_go [1] S rfl (by kernel_rfl) ?_; clear S a; intro a S
    refine st_y S rfl rfl rfl (y_loadAgg (cs := [_, _, _, _, _]) S (by kernel_rfl) rfl rfl (M.cellsAt (k := 5) 0 rfl rfl)) ?_; clear S a; intro a S
    refine st_call (xs := [(Operand.tmp 43)]) S (enters_of Try.func19 (by decide) rfl) rfl rfl rfl (at_any x _) ?_
    rintro _ w22 ⟨rfl, hK⟩; refine ⟨_, rfl, ?_⟩; clear S a; intro a S; replace M := M.grow hK
    refine st_go [1] S rfl (by kernel_rfl) ?_; clear S a; intro a S
    (first | refine st_y S rfl rfl rfl (y_addN S rfl rfl (by omega)) ?_ | refine st_y S rfl rfl rfl (y_int S rfl rfl rfl) ?_); clear S a; intro a S
    refine st_updateM (pos := 2) S M (keyP) (hG) Try.underlying70 rfl rfl rfl rfl rfl ?_; clear M; intro w23 M
    simp only [List.set_cons_zero, List.set_cons_succ] at M
    refine nxC ?_
    refine wp_regionKC (C := fun W => Blk W bL x.cellsL.toArray 37) [8, 10] #[false, false, false, false, false, false, false, false, false, false, false] rfl M (by kernel_rfl) ?_; clear M; intro w24 M; have hC := M.blk 0 rfl
    refine kc_readC (listed' := #[true, false, false, false, false, false, false, false, false, false, false]) 0 S rfl rfl rfl rfl (by kernel_rfl) rfl (fun _ d _ _ _ h => by cases d <;> exact h) hC (fun w _ => y_fieldAddr (k := 3) S (by kernel_rfl) rfl) ?_; clear S a; intro a S
    refine kc_readC (listed' := #[true, true, false, false, false, false, false, false, false, false, false]) 1 S rfl rfl rfl rfl (by kernel_rfl) rfl (fun _ d _ _ _ h => by cases d <;> exact h) hC (fun w hC => y_load S (by kernel_rfl) rfl (show _ = some (Value.int .i64 x.block) from hC.cells 3)) ?_; clear S a; intro a S
    refine kc_readC (listed' := #[true, true, true, false, false, false, false, false, false, false, false]) 2 S rfl rfl rfl rfl (by kernel_rfl) rfl (fun _ d _ _ _ h => by cases d <;> exact h) hC (fun w _ => y_fieldAddr (k := 3) S (by kernel_rfl) rfl) ?_; clear S a; intro a S
    refine kc_readC (listed' := #[true, true, true, true, false, false, false, false, false, false, false]) 3 S rfl rfl rfl rfl (by kernel_rfl) rfl (fun _ d _ _ _ h => by cases d <;> exact h) hC (fun w hC => y_load S (by kernel_rfl) rfl (show _ = some (Value.int .i64 x.block) from hC.cells 3)) ?_; clear S a; intro a S
    rw [hkb] at S
    refine kc_readC (listed' := #[true, true, true, true, true, false, false, false, false, false, false]) 4 S rfl rfl rfl rfl (by kernel_rfl) rfl (fun _ d _ _ _ h => by cases d <;> exact h) hC (fun w _ => y_indexA (m := 32) (sz := 1) S (by kernel_rfl) rfl rfl (by first | omega | (simp; done) | (simp; omega))) ?_; clear S a; intro a S
    try simp only [Int.toNat_natCast, Nat.mul_one, Nat.zero_add] at S
    refine kc_read (listed' := #[true, true, true, true, true, true, false, false, false, false, false]) 5 S rfl rfl rfl rfl (by kernel_rfl) rfl (fun _ d _ _ _ h => by cases d <;> exact h) hC (fun w hW => have M := M.grow hW; y_load S (by kernel_rfl) rfl (M.cell 1 rfl (rowsV_get hr))) ?_; clear S a; intro a S
    refine kc_readC (listed' := #[true, true, true, true, true, true, true, false, false, false, false]) 6 S rfl rfl rfl rfl (by kernel_rfl) rfl (fun _ d _ _ _ h => by cases d <;> exact h) hC (fun w _ => y_move S rfl) ?_; clear S a; intro a S
    refine kc_one (listed' := #[true, true, true, true, true, true, true, true, false, false, false]) 7 rfl (by kernel_rfl) rfl ?_
    refine st_lit (ps := [(0, (Operand.tmp 53))]) (e := 3) (sz := 1) (zl := [.int .i64 0]) (cs := [_]) S M rfl rfl (by kernel_rfl) rfl (rfl) ?_; clear S M a; intro a w25 bZ S M hB
    replace hC := M.blk 1 rfl
    refine wpList_nil ?_; refine then_normal ?_; refine ⟨fun _ => hB, hC, ?_⟩
    refine kc_one (listed' := #[true, true, true, true, true, true, true, true, true, false, false]) 8 rfl (by kernel_rfl) rfl ?_
    refine st_appendI (A := [_, _, _, _, _, _, _, _]) (k := kb) (z := (i : Int)) S M hr hrl rfl rfl (by kernel_rfl) rfl rfl (M.sliceAt 0 rfl (M.cellsAt (k := 1) 0 rfl rfl) rfl (Nat.le_refl _) (by unfold maxLen; omega)) ?_
    clear S M a; intro a wA r' hr' S M
    simp only [List.cons_append, List.nil_append] at M
    have hB := trivial
    replace hC := M.blk 1 rfl
    refine wpList_nil ?_; refine then_normal ?_; refine ⟨fun h => absurd h (by decide), hC, ?_⟩
    refine kc_readC (listed' := #[true, true, true, true, true, true, true, true, true, true, false]) 9 S rfl rfl rfl rfl (by kernel_rfl) rfl (fun _ d _ _ _ h => by cases d <;> exact h) hC (fun w _ => y_indexA (m := 32) (sz := 1) S (by kernel_rfl) rfl rfl (by first | omega | (simp; done) | (simp; omega))) ?_; clear S a; intro a S
    try simp only [Int.toNat_natCast, Nat.mul_one, Nat.zero_add] at S
    refine kc_one (listed' := #[true, true, true, true, true, true, true, true, true, true, true]) 10 rfl (by kernel_rfl) rfl ?_
    refine st_store (sz := 1) (us := [_]) S M 2 rfl (by kernel_rfl) rfl rfl rfl rfl rfl rfl (by rw [rowsV_len, hRI.1]; show _ + 1 ≤ 32; omega) ?_; clear M; intro w26 M
    simp only [List.set_cons_zero, List.set_cons_succ] at M
    replace hC := M.blk 1 rfl
    refine wpList_nil ?_; refine then_normal ?_; refine ⟨fun h => absurd h (by decide), hC, ?_⟩
    refine kc_end (by kernel_rfl) ?_
    replace S := S.sub [(4, _), (8, _), (9, _), (10, _), (35, _), (36, _), (37, _), (38, _), (12, _), (11, _)] rfl
    refine block_normal ?_
    refine nxF ?_
    (first | refine st_y S rfl rfl rfl (y_addN S rfl rfl (by omega)) ?_ | refine st_y S rfl rfl rfl (y_int S rfl rfl rfl) ?_); clear S a; intro a S
    refine st_go [1] S rfl (by kernel_rfl) ?_; clear S a; intro a S
    refine nxC ?_
    skip
    replace M := M.drop 0
    simp only [List.eraseIdx_cons_succ, List.eraseIdx_cons_zero] at M
    replace M := M.drop 0
    simp only [List.eraseIdx_cons_succ, List.eraseIdx_cons_zero] at M
    rw [rowsV_put (by rw [hRI.1]; exact hk32)] at M
    refine ⟨h0.length - (i + 1), by omega, i + 1, Q.set kb r', _, _, by omega, rfl, hG.put _ _, ?_, ?_, S.sub _ rfl, M⟩
    · rw [htk]
      refine hPI.put (fun q hq e => ?_) (by rw [htl])
      obtain ⟨j, hj⟩ := List.getElem?_of_mem hq
      have hj1 : j < i := by have := (List.getElem?_eq_some_iff.1 hj).1; omega
      rw [List.getElem?_take_of_lt hj1] at hj
      have := pl_at hnd hj hx e
      omega
    · rw [htk]
      exact hRI.put hkb hr (by rw [hr', htl])
  clear S; intro h38 S
  refine st_condF S rfl ?_
  refine wp_exit ?_
  refine then_exit ?_
  refine then_exit ?_
  refine block_hit ?_
  refine then_normal ?_
  refine wp_seq ?_
  obtain rfl : i = h0.length := by omega
  rw [List.take_length] at hPI hRI
  refine wp_region_lit ?_
  refine st_go [1] S rfl (by kernel_rfl) ?_; clear S a; intro a S
  refine nxA ?_
  refine st_makeMap (κ := Pl) S M rfl rfl ?_; clear S M a; intro a w27 bG S M hB
  refine st_alloc S M rfl rfl #[.map none] (by kernel_rfl) ?_; clear S M a; intro a w28 bGB S M hB
  refine st_store (sz := 1) (us := [_]) S M 0 rfl (by kernel_rfl) rfl rfl rfl rfl rfl rfl (by first | decide | (simp; done) | (simp; omega)) ?_; clear M; intro w29 M
  simp only [putL, List.set_cons_zero, List.set_cons_succ, Nat.reduceAdd] at M
  refine nxC ?_
  refine wp_seq ?_
  refine nxD ?_
  refine st_go [1] S rfl (by kernel_rfl) ?_; clear S a; intro a S
  refine nxC ?_
  refine wp_block ?_
  refine wp_loop_g (fun m a w' => ∃ (k : Nat) (held gone : List Lk) (Q : List RI) (ml mg : Mes Pl) (c cg : Nat) (oa va1 : Option Addr) (oc vc1 lo1 hi1 lo3 hi3 : Nat), k ≤ 32 ∧ m = 32 - k ∧ relP h0 w0 k = (held, gone) ∧ Good encP ml c ∧ PI ml held ∧ RIx Q held ∧ Good encP mg cg ∧ GI mg gone ∧ Sees 132 a [(4, .pointer (some ⟨bR, 0, none⟩)), (8, .pointer (some ⟨bU, 0, none⟩)), (9, .map (some bX)), (10, .pointer (some ⟨bHB, 0, none⟩)), (13, .slice oa gone.length oc), (14, .pointer (some ⟨bGB, 0, none⟩)), (59, .int .i64 (k : Int))] ∧ Mem w w' (rowE lo3 hi3 37 5 (.slice oa gone.length oc) gone.length (lcells gone) :: .blk bGB #[.map (some bG)] 72 :: mapX bG mg cg :: .blk bHB (rowsV Q).toArray 71 :: mapX bX ml c :: .blk bU #[.slice va1 held.length vc1, .slice va2 w0.length vc2] 30 :: rowE lo2 hi2 37 5 (.slice va2 w0.length vc2) w0.length (lcells w0) :: rowE lo1 hi1 37 5 (.slice va1 held.length vc1) held.length (lcells held) :: .blk bR #[.slice none 0 0, .slice none 0 0] 30 :: rowsE Q)) (32) ?_ ?_
  · skip
    replace M := M.rowNil 37 5
    exact ⟨0, h0, [], Q, ml, [], c, 0, none, va1, 0, vc1, _, _, _, _, by omega, rfl, rfl, hG, hPI, hRI, good_nil 0, fun p => rfl, S.sub _ rfl, M⟩
  clear S M a; intro m a wl
  rintro ⟨k, held, gone, Q, ml, mg, c, cg, oa, va1, oc, vc1, lo1, hi1, lo3, hi3, hk, rfl, hrel, hG, hPI, hRI, hGG, hGI, S, M⟩
  refine nxD ?_
  refine st_go [1] S rfl (by kernel_rfl) ?_; clear S a; intro a S
  refine nxC ?_
  refine wp_seq ?_
  refine st_fi (t := 60) S rfl ?_ ?_
  · clear S; intro h60 S
    refine st_condF S rfl ?_
    refine wp_exit ?_
    refine then_exit ?_
    refine then_exit ?_
    refine block_hit ?_
    refine nxE ?_
    refine st_run [2, 6] S M rfl (by kernel_rfl) ?_; clear S a; intro a S
    refine st_y S rfl rfl rfl (y_makeFunc (fs := []) (cs := [(Operand.tmp 14)]) S rfl rfl) ?_; clear S a; intro a S
    refine st_call (xs := [(Operand.tmp 126), (Operand.tmp 127)]) S (enters_of Try.func28 (by decide) rfl) rfl rfl rfl (kept_any (fi := []) (ca := [.pointer (some ⟨bGB, 0, none⟩)]) (enters_of Try.func31 (by decide) rfl) va2 vc2 w0 (fun y => decide (y.pl ∉ gone.map Lk.pl)) _ (M.readAll 6 rfl (by unfold maxLen; omega)) (by omega) (fun y _ w' hb => by
have h8 := rel3_any y bGB bG cg mg _ w' ((hb.block bGB (M.blk 1 rfl).lt).trans (M.blk 1 rfl)) ((hb.block bG (Array.getElem?_eq_some_iff.1 (M.mapAt (pos := 2) rfl)).1).trans (M.mapAt (pos := 2) rfl)) hGG (hGI y.pl)
refine h8.mono fun e w'' h9 => ⟨h9.1.trans ?_, h9.2⟩
by_cases h7 : y.pl ∈ gone.map Lk.pl
· rw [if_pos h7, decide_eq_false (fun h6 => h6 h7)]; rfl
· rw [if_neg h7, decide_eq_true h7]; rfl)) ?_
    rintro _ w52 ⟨va4, vc4, lo4, hi4, rfl, M1⟩; refine ⟨_, rfl, ?_⟩; clear S a; intro a S
    replace M := M.join M1; clear M1
    simp only [List.cons_append, List.nil_append] at M
    refine st_go [2] S rfl (by kernel_rfl) ?_; clear S a; intro a S
    refine st_store (sz := 1) (us := [_]) S M 6 rfl (by kernel_rfl) rfl rfl rfl rfl rfl rfl (by first | decide | (simp; done) | (simp; omega)) ?_; clear M; intro w53 M
    simp only [putL, List.set_cons_zero, List.set_cons_succ, Nat.reduceAdd] at M
    refine nxA ?_
    refine st_y S rfl rfl rfl (y_loadAgg (cs := [_, _]) S (by kernel_rfl) rfl rfl (M.cellsAt (k := 2) 6 rfl rfl)) ?_; clear S a; intro a S
    refine st_go [1] S rfl (by kernel_rfl) ?_; clear S a; intro a S
    refine st_store (sz := 2) (us := [_, _]) S M 9 rfl (by kernel_rfl) rfl rfl rfl rfl rfl rfl (by first | decide | (simp; done) | (simp; omega)) ?_; clear M; intro w54 M
    simp only [putL, List.set_cons_zero, List.set_cons_succ, Nat.reduceAdd] at M
    refine st_go [1, 1] S rfl (by kernel_rfl) ?_; clear S a; intro a S
    refine nxC ?_
    refine wp_ret ?_
    refine end_three S rfl (res_agg (cs := [_, _]) (by kernel_rfl) rfl rfl (M.cellsAt (k := 2) 9 rfl rfl)) (res_tmp rfl) (res_tmp rfl) ?_
    obtain rfl : k = 32 := by omega
    replace M := M.front 8 rfl
    simp only [List.eraseIdx_cons_succ, List.eraseIdx_cons_zero] at M
    have M2 := M.sub (H' := [_, _]) (.cons_cons _ (.cons_cons _ (List.nil_sublist _)))
    exact ⟨0, _, oa, gone.length, oc, held, remG w0 gone, rfl, ⟨va1, va4, vc1, vc4, _, _, _, _, rfl, M2⟩, .inl ⟨rfl, hok, by rw [← hh0, ← hw0, hrel], by rw [← hh0, ← hw0, hrel]⟩⟩
  clear S; intro h60 S
  refine st_condT S rfl ?_
  refine wp_skip ?_
  refine then_normal ?_
  refine wp_seq ?_
  refine wp_block ?_
  refine wp_seq ?_
  have hk32 : k < 32 := by omega
  have hlen := relP_len h0 w0 k
  have hkw : k * w0.length ≤ 32 * 1000 := Nat.mul_le_mul (by omega) hl4
  rw [hrel] at hlen
  simp only at hlen
  obtain ⟨row, hrow⟩ : ∃ row, row = w0.filter fun q => q.block == (k : Int) := ⟨_, rfl⟩
  have hrl : row.length ≤ 1000 := by rw [hrow]; exact Nat.le_trans (List.length_filter_le _ _) hl4
  have hrb : ∀ x ∈ row, x.block = (k : Int) := fun x hx => by rw [hrow] at hx; simpa using (List.mem_filter.1 hx).2
  refine wp_region_lit ?_
  refine st_go [1] S rfl (by kernel_rfl) ?_; clear S a; intro a S
  refine st_alloc S M rfl rfl #[.int .i64 0] (by kernel_rfl) ?_; clear S M a; intro a w30 bB S M hB
  refine st_store (sz := 1) (us := [_]) S M 0 rfl (by kernel_rfl) rfl rfl rfl rfl rfl rfl (by first | decide | (simp; done) | (simp; omega)) ?_; clear M; intro w31 M
  simp only [putL, List.set_cons_zero, List.set_cons_succ, Nat.reduceAdd] at M
  refine nxA ?_
  refine st_run [2, 7] S M rfl (by kernel_rfl) ?_; clear S a; intro a S
  refine st_y S rfl rfl rfl (y_makeFunc (fs := []) (cs := [(Operand.tmp 15)]) S rfl rfl) ?_; clear S a; intro a S
  refine st_call (xs := [(Operand.tmp 63), (Operand.tmp 64)]) S (enters_of Try.func28 (by decide) rfl) rfl rfl rfl (kept_any (fi := []) (ca := [.pointer (some ⟨bB, 0, none⟩)]) (enters_of Try.func29 (by decide) rfl) va2 vc2 w0 (fun q => q.block == (k : Int)) _ (M.readAll 7 rfl (by unfold maxLen; omega)) (by omega) (fun y _ w' hb => rel2_any y (k : Int) bB w' ((hb.block bB (M.blk 0 rfl).lt).trans (M.blk 0 rfl)))) ?_
  rintro _ w32 ⟨va3, vc3, lo4, hi4, rfl, M1⟩; refine ⟨_, rfl, ?_⟩; clear S a; intro a S
  rw [← hrow] at S M1
  replace M := M.join M1; clear M1
  simp only [List.cons_append, List.nil_append] at M
  refine st_y S rfl rfl rfl (y_lenS (E := 37) S rfl (by kernel_rfl)) ?_; clear S a; intro a S
  refine st_go [1] S rfl (by kernel_rfl) ?_; clear S a; intro a S
  refine nxC ?_
  refine wp_block ?_
  refine wp_loop_g (fun m a w' => ∃ (j : Nat) (held gone : List Lk) (Q : List RI) (ml mg : Mes Pl) (c cg : Nat) (oa va1 : Option Addr) (oc vc1 lo1 hi1 lo3 hi3 : Nat), j ≤ row.length ∧ m = row.length - j ∧ rowP held gone (row.drop j) = relP h0 w0 (k + 1) ∧ held.length ≤ 33000 + j ∧ gone.length ≤ 32000 + j ∧ Good encP ml c ∧ PI ml held ∧ RIx Q held ∧ Good encP mg cg ∧ GI mg gone ∧ Sees 132 a [(4, .pointer (some ⟨bR, 0, none⟩)), (8, .pointer (some ⟨bU, 0, none⟩)), (9, .map (some bX)), (10, .pointer (some ⟨bHB, 0, none⟩)), (13, .slice oa gone.length oc), (14, .pointer (some ⟨bGB, 0, none⟩)), (15, .pointer (some ⟨bB, 0, none⟩)), (59, .int .i64 (k : Int)), (65, .slice va3 row.length vc3), (66, .int .i64 (row.length : Int)), (67, .int .i64 (j : Int))] ∧ Mem w w' (rowE lo4 hi4 37 5 (.slice va3 row.length vc3) row.length (lcells row) :: .blk bB #[.int .i64 (k : Int)] 3 :: rowE lo3 hi3 37 5 (.slice oa gone.length oc) gone.length (lcells gone) :: .blk bGB #[.map (some bG)] 72 :: mapX bG mg cg :: .blk bHB (rowsV Q).toArray 71 :: mapX bX ml c :: .blk bU #[.slice va1 held.length vc1, .slice va2 w0.length vc2] 30 :: rowE lo2 hi2 37 5 (.slice va2 w0.length vc2) w0.length (lcells w0) :: rowE lo1 hi1 37 5 (.slice va1 held.length vc1) held.length (lcells held) :: .blk bR #[.slice none 0 0, .slice none 0 0] 30 :: rowsE Q)) (row.length) ?_ ?_
  · skip
    exact ⟨0, held, gone, Q, ml, mg, c, cg, oa, va1, oc, vc1, _, _, _, _, Nat.zero_le _, rfl, by rw [List.drop_zero, relP, hrel, hrow], by omega, by omega, hG, hPI, hRI, hGG, hGI, S.sub _ rfl, M⟩
  clear S M a; intro m a wl
  clear hG hPI hRI hGG hGI hlen
  rintro ⟨j, held, gone, Q, ml, mg, c, cg, oa, va1, oc, vc1, lo1, hi1, lo3, hi3, hj, rfl, hgo, hhl, hgl, hG, hPI, hRI, hGG, hGI, S, M⟩
  refine nxD ?_
  refine st_go [1] S rfl (by kernel_rfl) ?_; clear S a; intro a S
  refine nxC ?_
  refine wp_seq ?_
  refine st_fi (t := 68) S rfl ?_ ?_
  · clear S; intro h68 S
    refine st_condF S rfl ?_
    refine wp_exit ?_
    refine then_exit ?_
    refine then_exit ?_
    refine block_hit ?_
    refine block_normal ?_
    refine nxF ?_
    (first | refine st_y S rfl rfl rfl (y_addN S rfl rfl (by omega)) ?_ | refine st_y S rfl rfl rfl (y_int S rfl rfl rfl) ?_); clear S a; intro a S
    refine st_go [1] S rfl (by kernel_rfl) ?_; clear S a; intro a S
    refine nxC ?_
    have hfin : relP h0 w0 (k + 1) = (held, gone) := by
      first
        | (have hB : Blk13 held x := by
             have e : (posB held x.pl != 0) = decide (posB held x.pl ≠ 0) := by rw [Bool.eq_iff_iff]; simp
             have := hbb.1 h83
             unfold Blk13
             rw [hxb, ← hrz, ← e]; exact this
           rw [hdr, rowP_stop hB] at hgo
           exact hgo.symm)
        | (obtain rfl : j = row.length := by omega
           rw [List.drop_length, rowP] at hgo
           exact hgo.symm)
    first
      | exact ⟨32 - (k + 1), by omega, k + 1, held, gone, Q, _, _, _, _, oa, va1, oc, vc1, _, _, _, _, by omega, rfl, hfin, hG, hPI, hRI, hGG, hGI, S.sub _ rfl, (M.drop 0).drop 0⟩
      | exact ⟨32 - (k + 1), by omega, k + 1, held, gone, Q, _, _, _, _, oa, va1, oc, vc1, _, _, _, _, by omega, rfl, hfin, hG, hPI, hRI, hGG, hGI, S.sub _ rfl, ((M.drop 0).drop 0).drop 0⟩
  clear S; intro h68 S
  refine st_condT S rfl ?_
  refine wp_skip ?_
  refine then_normal ?_
  refine wp_seq ?_
  refine wp_block ?_
  refine wp_seq ?_
  obtain ⟨x, hx⟩ : ∃ x, row[j]? = some x := ⟨_, List.getElem?_eq_getElem (by omega)⟩
  have hxb := hrb x (List.mem_of_getElem? hx)
  have hdr : row.drop j = x :: row.drop (j + 1) := by
    obtain ⟨h9, e9⟩ := List.getElem?_eq_some_iff.1 hx
    rw [List.drop_eq_getElem_cons h9, e9]
  obtain ⟨r, hr, hrz⟩ := hRI.get hk32
  have hrl2 : r.zs.length ≤ 1000000 := by
    rw [hrz, idxF_len]
    have := List.length_filter_le (fun q : Lk => q.block == (k : Int)) held
    omega
  refine wp_region_lit ?_
  refine st_y S rfl rfl rfl (y_indexR (e := 37) (sz := 5) S (by kernel_rfl) rfl ((M.readAll 0 rfl (by unfold maxLen; omega))) rfl (by first | omega | (simp; done) | (simp; omega))) ?_; clear S a; intro a S
  try simp only [Int.toNat_natCast, Nat.mul_one, Nat.zero_add] at S
  refine st_y S rfl rfl rfl (y_loadAgg S (by kernel_rfl) rfl rfl ((M.readAll 0 rfl (by unfold maxLen; omega)).at_.row (i := j) (lcells_get hx) rfl)) ?_; clear S a; intro a S
  refine st_alloc S M rfl rfl #[.int .i64 0, .int .i64 0, .int .i64 0, .int .i64 0, .bool false] (by kernel_rfl) ?_; clear S M a; intro a w33 bL S M hB
  refine st_store (sz := 5) (us := [_, _, _, _, _]) S M 0 rfl (by kernel_rfl) rfl rfl rfl rfl rfl rfl (by first | decide | (simp; done) | (simp; omega)) ?_; clear M; intro w34 M
  simp only [putL, List.set_cons_zero, List.set_cons_succ, Nat.reduceAdd] at M
  refine nxA ?_
  refine st_go [1] S rfl (by kernel_rfl) ?_; clear S a; intro a S
  refine st_y S rfl rfl rfl (y_loadAgg (cs := [_, _, _, _, _]) S (by kernel_rfl) rfl rfl (M.cellsAt (k := 5) 0 rfl rfl)) ?_; clear S a; intro a S
  refine st_call (xs := [(Operand.tmp 72)]) S (enters_of Try.func19 (by decide) rfl) rfl rfl rfl (at_any x _) ?_
  rintro _ w35 ⟨rfl, hK⟩; refine ⟨_, rfl, ?_⟩; clear S a; intro a S; replace M := M.grow hK
  refine st_y S rfl rfl rfl (y_lookupM (pos := 7) S M (keyP) (hG) Try.underlying70 (zero_i64) rfl rfl rfl) ?_; clear S a; intro a S
  simp only [Bool.false_eq_true, if_false, hPI x.pl] at S
  refine st_y S rfl rfl rfl (y_assign S rfl) ?_; clear S a; intro a S
  refine nxC ?_
  refine wp_seq ?_
  refine wp_seq ?_
  refine wp_regionK [] #[false, false, false, false, false, false, false, false, false] rfl M (by kernel_rfl) ?_; clear M; intro w36 M
  refine k_pure (listed' := #[true, false, false, false, false, false, false, false, false]) 0 S rfl rfl rfl rfl (by kernel_rfl) rfl (fun _ d _ _ _ h => by cases d <;> exact h) (fun w => y_fieldAddr (k := 0) S (by kernel_rfl) rfl) ?_; clear S a; intro a S
  refine k_read (listed' := #[true, true, false, false, false, false, false, false, false]) 1 S rfl rfl rfl rfl (by kernel_rfl) rfl (fun _ d _ _ _ h => by cases d <;> exact h) (fun w hW => have M := M.grow hW; y_load S (by kernel_rfl) rfl (M.cell 8 rfl rfl)) ?_; clear S a; intro a S
  refine k_read (listed' := #[true, true, true, false, false, false, false, false, false]) 2 S rfl rfl rfl rfl (by kernel_rfl) rfl (fun _ d _ _ _ h => by cases d <;> exact h) (fun w hW => have M := M.grow hW; y_load S (by kernel_rfl) rfl (M.cell 2 rfl rfl)) ?_; clear S a; intro a S
  refine k_pure (listed' := #[true, true, true, true, false, false, false, false, false]) 3 S rfl rfl rfl rfl (by kernel_rfl) rfl (fun _ d _ _ _ h => by cases d <;> exact h) (fun w => y_indexA (m := 32) (sz := 1) S (by kernel_rfl) rfl rfl (by first | omega | (simp; done) | (simp; omega))) ?_; clear S a; intro a S
  try simp only [Int.toNat_natCast, Nat.mul_one, Nat.zero_add] at S
  refine k_read (listed' := #[true, true, true, true, true, false, false, false, false]) 4 S rfl rfl rfl rfl (by kernel_rfl) rfl (fun _ d _ _ _ h => by cases d <;> exact h) (fun w hW => have M := M.grow hW; y_load S (by kernel_rfl) rfl (M.cell 6 rfl (rowsV_get hr))) ?_; clear S a; intro a S
  refine k_pure (listed' := #[true, true, true, true, true, true, false, false, false]) 5 S rfl rfl rfl rfl (by kernel_rfl) rfl (fun _ d _ _ _ h => by cases d <;> exact h) (fun w => y_move S rfl) ?_; clear S a; intro a S
  refine k_pure (listed' := #[true, true, true, true, true, true, true, false, false]) 6 S rfl rfl rfl rfl (by kernel_rfl) rfl (fun _ d _ _ _ h => by cases d <;> exact h) (fun w => y_int S rfl rfl rfl) ?_; clear S a; intro a S
  refine k_read (listed' := #[true, true, true, true, true, true, true, true, false]) 7 S rfl rfl rfl rfl (by kernel_rfl) rfl (fun _ d _ _ _ h => by cases d <;> exact h) (fun w hW => have M := M.grow hW; y_loadAgg (cs := [_, _, _, _, _]) S (by kernel_rfl) rfl rfl (M.cellsAt (k := 5) 0 rfl rfl)) ?_; clear S a; intro a S
  refine k_one (listed' := #[true, true, true, true, true, true, true, true, true]) 8 rfl (by kernel_rfl) rfl ?_
  refine st_call (xs := [(Operand.tmp 76), (Operand.tmp 79), (Operand.tmp 81), (Operand.tmp 82)]) S (enters_of Try.func30 (by decide) rfl) rfl rfl rfl (blocked_any va1 r.a vc1 r.c held r.zs (posB held x.pl != 0) x _ (M.readAll 10 rfl (by unfold maxLen; omega)) (Mem.rowsGet (A := [_, _, _, _, _, _, _, _, _, _, _, _]) M hr (by unfold maxLen; omega)) (fun z hz => by rw [hrz] at hz; obtain ⟨j9, q9, h91, h92, -⟩ := idxB_head hz; exact ⟨j9, q9, h91, h92⟩)) ?_
  rintro _ w37 ⟨bb, rfl, hK, hbb⟩; refine ⟨_, rfl, ?_⟩; clear S a; intro a S; replace M := M.grow hK
  refine wpList_nil ?_; refine then_normal ?_; refine ⟨fun _ => hK, ?_⟩
  refine k_end (by kernel_rfl) ?_
  replace S := S.sub [(4, _), (8, _), (9, _), (10, _), (13, _), (14, _), (15, _), (59, _), (65, _), (66, _), (67, _), (68, _), (17, _), (18, _), (83, _)] rfl
  refine then_normal ?_
  refine st_split (t := 83) S rfl ?_ ?_
  · clear S; intro h83 S
    refine st_condT S rfl ?_
    refine wp_exit ?_
    refine then_exit ?_
    refine block_miss rfl ?_
    refine then_exit ?_
    refine then_exit ?_
    refine block_hit ?_
    refine block_normal ?_
    refine nxF ?_
    (first | refine st_y S rfl rfl rfl (y_addN S rfl rfl (by omega)) ?_ | refine st_y S rfl rfl rfl (y_int S rfl rfl rfl) ?_); clear S a; intro a S
    refine st_go [1] S rfl (by kernel_rfl) ?_; clear S a; intro a S
    refine nxC ?_
    have hfin : relP h0 w0 (k + 1) = (held, gone) := by
      first
        | (have hB : Blk13 held x := by
             have e : (posB held x.pl != 0) = decide (posB held x.pl ≠ 0) := by rw [Bool.eq_iff_iff]; simp
             have := hbb.1 h83
             unfold Blk13
             rw [hxb, ← hrz, ← e]; exact this
           rw [hdr, rowP_stop hB] at hgo
           exact hgo.symm)
        | (obtain rfl : j = row.length := by omega
           rw [List.drop_length, rowP] at hgo
           exact hgo.symm)
    first
      | exact ⟨32 - (k + 1), by omega, k + 1, held, gone, Q, _, _, _, _, oa, va1, oc, vc1, _, _, _, _, by omega, rfl, hfin, hG, hPI, hRI, hGG, hGI, S.sub _ rfl, (M.drop 0).drop 0⟩
      | exact ⟨32 - (k + 1), by omega, k + 1, held, gone, Q, _, _, _, _, oa, va1, oc, vc1, _, _, _, _, by omega, rfl, hfin, hG, hPI, hRI, hGG, hGI, S.sub _ rfl, ((M.drop 0).drop 0).drop 0⟩
  clear S; intro h83 S
  refine st_condF S rfl ?_
  refine wp_skip ?_
  refine then_normal ?_
  refine wp_seq ?_
  have hBk : ¬ Blk13 held x := fun hB => by
    have : BlockedP held r.zs (posB held x.pl != 0) x := by
      unfold Blk13 at hB
      rw [hxb, ← hrz] at hB
      have e : (posB held x.pl != 0) = decide (posB held x.pl ≠ 0) := by rw [Bool.eq_iff_iff]; simp
      rw [e]; exact hB
    rw [hbb.2 this] at h83; cases h83
  rw [hdr, rowP_go hBk] at hgo
  refine wp_regionK [3] #[false, false, false, false] rfl M (by kernel_rfl) ?_; clear M; intro w38 M
  refine k_read (listed' := #[true, false, false, false]) 0 S rfl rfl rfl rfl (by kernel_rfl) rfl (fun _ d _ _ _ h => by cases d <;> exact h) (fun w hW => have M := M.grow hW; y_load S (by kernel_rfl) rfl (M.cell 4 rfl rfl)) ?_; clear S a; intro a S
  refine k_read (listed' := #[true, true, false, false]) 1 S rfl rfl rfl rfl (by kernel_rfl) rfl (fun _ d _ _ _ h => by cases d <;> exact h) (fun w hW => have M := M.grow hW; y_loadAgg (cs := [_, _, _, _, _]) S (by kernel_rfl) rfl rfl (M.cellsAt (k := 5) 0 rfl rfl)) ?_; clear S a; intro a S
  refine k_one (listed' := #[true, true, true, false]) 2 rfl (by kernel_rfl) rfl ?_
  refine st_call (xs := [(Operand.tmp 85)]) S (enters_of Try.func19 (by decide) rfl) rfl rfl rfl (at_any x _) ?_
  rintro _ w39 ⟨rfl, hK⟩; refine ⟨_, rfl, ?_⟩; clear S a; intro a S; replace M := M.grow hK
  refine wpList_nil ?_; refine then_normal ?_; refine ⟨fun _ => hK, ?_⟩
  refine k_one (listed' := #[true, true, true, true]) 3 rfl (by kernel_rfl) rfl ?_
  refine st_updateM (pos := 5) S M (keyP) (hGG) Try.underlying72 rfl rfl rfl rfl rfl ?_; clear M; intro w40 M
  simp only [List.set_cons_zero, List.set_cons_succ] at M
  refine wpList_nil ?_; refine then_normal ?_; refine ⟨fun h => absurd h (by decide), ?_⟩
  refine k_end (by kernel_rfl) ?_
  refine nxE ?_
  refine st_go [1] S rfl (by kernel_rfl) ?_; clear S a; intro a S
  refine st_y S rfl rfl rfl (y_loadAgg (cs := [_, _, _, _, _]) S (by kernel_rfl) rfl rfl (M.cellsAt (k := 5) 0 rfl rfl)) ?_; clear S a; intro a S
  refine st_lit (ps := [(0, (Operand.tmp 88))]) (e := 37) (sz := 5) (zl := [.int .i64 0, .int .i64 0, .int .i64 0, .int .i64 0, .bool false]) (cs := [_, _, _, _, _]) S M rfl rfl (by kernel_rfl) rfl (rfl) ?_; clear S M a; intro a w41 bZ S M hB
  refine st_append (e := 37) (sz := 5) (by_ := 40) (zc := [.int .i64 0, .int .i64 0, .int .i64 0, .int .i64 0, .bool false]) S M 4 rfl rfl (by kernel_rfl) rfl (by decide) rfl rfl rfl (show Rd _ _ _ 5 _ 1 x.cellsL from M.sliceAt 0 rfl (M.cellsAt (k := 5) 0 rfl rfl) rfl (Nat.le_refl _) (by unfold maxLen; omega)) (rfl) (by omega) (by unfold maxLen; omega) ?_; clear S M a; intro a w42 vA loA hiA S M
  obtain ⟨aA, cA, rfl, -, -⟩ := (M.readAll 0 rfl (by unfold maxLen; omega)).form
  replace M := M.drop 1
  simp only [List.eraseIdx_cons_succ, List.eraseIdx_cons_zero] at M
  refine st_y S rfl rfl rfl (y_assign S rfl) ?_; clear S a; intro a S
  refine nxA ?_
  refine st_go [1, 1] S rfl (by kernel_rfl) ?_; clear S a; intro a S
  refine nxC ?_
  refine st_fi (t := 92) S rfl ?_ ?_
  · clear S; intro h92 S
    refine st_condF S rfl ?_
    refine nxD ?_
    refine st_run [5, 2] S M rfl (by kernel_rfl) ?_; clear S a; intro a S
    refine nxC ?_
    refine st_fi (t := 116) S rfl ?_ ?_
    · clear S; intro h116 S
      refine st_condF S rfl ?_
      refine wp_skip ?_
      refine block_normal ?_
      refine nxF ?_
      (first | refine st_y S rfl rfl rfl (y_addN S rfl rfl (by omega)) ?_ | refine st_y S rfl rfl rfl (y_int S rfl rfl rfl) ?_); clear S a; intro a S
      refine st_go [1] S rfl (by kernel_rfl) ?_; clear S a; intro a S
      refine nxC ?_
      skip
      replace M := M.drop 1
      simp only [List.eraseIdx_cons_succ, List.eraseIdx_cons_zero] at M
      replace M := M.front 10 rfl
      simp only [List.eraseIdx_cons_succ, List.eraseIdx_cons_zero] at M
      replace M := M.front 10 rfl
      simp only [List.eraseIdx_cons_succ, List.eraseIdx_cons_zero] at M
      replace M := M.front 10 rfl
      simp only [List.eraseIdx_cons_succ, List.eraseIdx_cons_zero] at M
      replace M := M.front 10 rfl
      simp only [List.eraseIdx_cons_succ, List.eraseIdx_cons_zero] at M
      replace M := M.front 10 rfl
      simp only [List.eraseIdx_cons_succ, List.eraseIdx_cons_zero] at M
      replace M := M.front 10 rfl
      simp only [List.eraseIdx_cons_succ, List.eraseIdx_cons_zero] at M
      replace M := M.front 10 rfl
      simp only [List.eraseIdx_cons_succ, List.eraseIdx_cons_zero] at M
      replace M := M.front 10 rfl
      simp only [List.eraseIdx_cons_succ, List.eraseIdx_cons_zero] at M
      replace M := M.front 8 rfl
      simp only [List.eraseIdx_cons_succ, List.eraseIdx_cons_zero] at M
      replace M := M.front 10 rfl
      simp only [List.eraseIdx_cons_succ, List.eraseIdx_cons_zero] at M
      replace M := M.front 10 rfl
      simp only [List.eraseIdx_cons_succ, List.eraseIdx_cons_zero] at M
      have e1 : (gone ++ [x]).length = gone.length + 1 := by simp
      have e2 : lcells (gone ++ [x]) = lcells gone ++ x.cellsL := by rw [lcells_append]; simp [lcells]
      first
        | (have hgr : grantL held x = held ++ [x] := by unfold grantL; rw [if_pos h92]
           have hno : ∀ q ∈ held, q.pl ≠ x.pl := by
             rcases posB_spec held x.pl with ⟨-, h8⟩ | ⟨i8, q8, h8, -⟩
             · exact h8
             · omega
           have e3 : (held ++ [x]).length = held.length + 1 := by simp
           have e4 : lcells (held ++ [x]) = lcells held ++ x.cellsL := by rw [lcells_append]; simp [lcells]
           rw [hgr] at hgo
           exact ⟨row.length - (j + 1), by omega, j + 1, held ++ [x], gone ++ [x], Q.set k r', _, _, _, _, aA, aB, cA, cB, _, _, _, _, by omega, rfl, hgo, by omega, by omega, hG.put _ _, hPI.put hno rfl, hRI.put hxb hr hr', hGG.put _ _, hGI.put, by rw [e1]; exact S.sub _ rfl, by rw [e1, e2, e3, e4]; exact M⟩)
        | (have hgr : grantL held x = held.set i9 q9.strong := by
             unfold grantL
             rw [if_neg h92, if_pos h116, show (posB held x.pl - 1).toNat = i9 by omega, hq9]
           have e3 : (held.set i9 q9.strong).length = held.length := List.length_set
           rw [hgr] at hgo
           exact ⟨row.length - (j + 1), by omega, j + 1, held.set i9 q9.strong, gone ++ [x], Q, _, _, _, _, aA, va1, cA, vc1, _, _, _, _, by omega, rfl, hgo, by omega, by omega, hG, hPI.strong hq9, hRI.strong hq9, hGG.put _ _, hGI.put, by rw [e1]; exact S.sub _ rfl, by rw [e1, e2, e3]; exact M⟩)
        | (have hgr : grantL held x = held := by unfold grantL; rw [if_neg h92, if_neg (by rw [h116]; decide)]
           rw [hgr] at hgo
           exact ⟨row.length - (j + 1), by omega, j + 1, held, gone ++ [x], Q, _, _, _, _, aA, va1, cA, vc1, _, _, _, _, by omega, rfl, hgo, by omega, by omega, hG, hPI, hRI, hGG.put _ _, hGI.put, by rw [e1]; exact S.sub _ rfl, by rw [e1, e2]; exact M⟩)
    clear S; intro h116 S
    refine st_condT S rfl ?_
    obtain ⟨i9, q9, hpos, hq9, hqp9⟩ : ∃ (i : Nat) (q : Lk), posB held x.pl = ((i + 1 : Nat) : Int) ∧ held[i]? = some q ∧ q.pl = x.pl := by
      rcases posB_spec held x.pl with ⟨h8, -⟩ | h8
      · exact absurd h8 h92
      · exact h8
    have hkl := (List.getElem?_eq_some_iff.1 hq9).1
    rw [hpos] at S
    refine wp_region_lit ?_
    refine st_run [1, 9, 1] S M rfl (by kernel_rfl) ?_; clear S a; intro a S
    (first | refine st_y S rfl rfl rfl (y_subN S rfl rfl (by omega)) ?_ | refine st_y S rfl rfl rfl (y_int S rfl rfl rfl) ?_); clear S a; intro a S
    rw [show (((i9 + 1 : Nat) : Int) - 1) = (i9 : Int) by omega] at S
    refine st_y S rfl rfl rfl (y_indexR (e := 37) (sz := 5) S (by kernel_rfl) rfl (M.readAll 10 rfl (by unfold maxLen; omega)) rfl (by first | omega | (simp; done) | (simp; omega))) ?_; clear S a; intro a S
    try simp only [Int.toNat_natCast, Nat.mul_one, Nat.zero_add] at S
    refine st_go [5] S rfl (by kernel_rfl) ?_; clear S a; intro a S
    refine st_storeRow (v := .slice va1 held.length vc1) (sz := 5) (m := held.length) (j := i9 * 5 + 4) (us := [.bool true]) S M 10 rfl (by kernel_rfl) rfl rfl (by first | rfl | (simp only [Int.toNat_natCast]; omega)) rfl rfl rfl rfl rfl (by omega) (lcells_length held) (by rw [lcells_length]; show i9 * 5 + 4 + 1 ≤ _; omega) ?_; clear M; intro wz lo9 hi9 M
    simp only [List.eraseIdx_cons_succ, List.eraseIdx_cons_zero] at M
    rw [lcells_strong hq9] at M
    replace S := S.sub [(4, _), (8, _), (9, _), (10, _), (14, _), (15, _), (59, _), (65, _), (66, _), (67, _), (68, _), (17, _), (18, _), (83, _), (13, _), (92, _), (116, _)] rfl
    refine wpList_nil ?_
    refine block_normal ?_
    refine nxF ?_
    (first | refine st_y S rfl rfl rfl (y_addN S rfl rfl (by omega)) ?_ | refine st_y S rfl rfl rfl (y_int S rfl rfl rfl) ?_); clear S a; intro a S
    refine st_go [1] S rfl (by kernel_rfl) ?_; clear S a; intro a S
    refine nxC ?_
    skip
    replace M := M.drop 2
    simp only [List.eraseIdx_cons_succ, List.eraseIdx_cons_zero] at M
    replace M := M.front 10 rfl
    simp only [List.eraseIdx_cons_succ, List.eraseIdx_cons_zero] at M
    replace M := M.front 1 rfl
    simp only [List.eraseIdx_cons_succ, List.eraseIdx_cons_zero] at M
    replace M := M.front 10 rfl
    simp only [List.eraseIdx_cons_succ, List.eraseIdx_cons_zero] at M
    replace M := M.front 10 rfl
    simp only [List.eraseIdx_cons_succ, List.eraseIdx_cons_zero] at M
    replace M := M.front 10 rfl
    simp only [List.eraseIdx_cons_succ, List.eraseIdx_cons_zero] at M
    replace M := M.front 10 rfl
    simp only [List.eraseIdx_cons_succ, List.eraseIdx_cons_zero] at M
    replace M := M.front 10 rfl
    simp only [List.eraseIdx_cons_succ, List.eraseIdx_cons_zero] at M
    replace M := M.front 10 rfl
    simp only [List.eraseIdx_cons_succ, List.eraseIdx_cons_zero] at M
    replace M := M.front 8 rfl
    simp only [List.eraseIdx_cons_succ, List.eraseIdx_cons_zero] at M
    replace M := M.front 10 rfl
    simp only [List.eraseIdx_cons_succ, List.eraseIdx_cons_zero] at M
    replace M := M.front 10 rfl
    simp only [List.eraseIdx_cons_succ, List.eraseIdx_cons_zero] at M
    have e1 : (gone ++ [x]).length = gone.length + 1 := by simp
    have e2 : lcells (gone ++ [x]) = lcells gone ++ x.cellsL := by rw [lcells_append]; simp [lcells]
    first
      | (have hgr : grantL held x = held ++ [x] := by unfold grantL; rw [if_pos h92]
         have hno : ∀ q ∈ held, q.pl ≠ x.pl := by
           rcases posB_spec held x.pl with ⟨-, h8⟩ | ⟨i8, q8, h8, -⟩
           · exact h8
           · omega
         have e3 : (held ++ [x]).length = held.length + 1 := by simp
         have e4 : lcells (held ++ [x]) = lcells held ++ x.cellsL := by rw [lcells_append]; simp [lcells]
         rw [hgr] at hgo
         exact ⟨row.length - (j + 1), by omega, j + 1, held ++ [x], gone ++ [x], Q.set k r', _, _, _, _, aA, aB, cA, cB, _, _, _, _, by omega, rfl, hgo, by omega, by omega, hG.put _ _, hPI.put hno rfl, hRI.put hxb hr hr', hGG.put _ _, hGI.put, by rw [e1]; exact S.sub _ rfl, by rw [e1, e2, e3, e4]; exact M⟩)
      | (have hgr : grantL held x = held.set i9 q9.strong := by
           unfold grantL
           rw [if_neg h92, if_pos h116, show (posB held x.pl - 1).toNat = i9 by omega, hq9]
         have e3 : (held.set i9 q9.strong).length = held.length := List.length_set
         rw [hgr] at hgo
         exact ⟨row.length - (j + 1), by omega, j + 1, held.set i9 q9.strong, gone ++ [x], Q, _, _, _, _, aA, va1, cA, vc1, _, _, _, _, by omega, rfl, hgo, by omega, by omega, hG, hPI.strong hq9, hRI.strong hq9, hGG.put _ _, hGI.put, by rw [e1]; exact S.sub _ rfl, by rw [e1, e2, e3]; exact M⟩)
      | (have hgr : grantL held x = held := by unfold grantL; rw [if_neg h92, if_neg (by rw [h116]; decide)]
         rw [hgr] at hgo
         exact ⟨row.length - (j + 1), by omega, j + 1, held, gone ++ [x], Q, _, _, _, _, aA, va1, cA, vc1, _, _, _, _, by omega, rfl, hgo, by omega, by omega, hG, hPI, hRI, hGG.put _ _, hGI.put, by rw [e1]; exact S.sub _ rfl, by rw [e1, e2]; exact M⟩)
  clear S; intro h92 S
  refine st_condT S rfl ?_
  refine wp_seq ?_
  refine wp_regionKC (C := fun W => Blk W bB #[.int .i64 (k : Int)] 3) [8, 10] #[false, false, false, false, false, false, false, false, false, false, false] rfl M (by kernel_rfl) ?_; clear M; intro w43 M; have hC := M.blk 3 rfl
  refine kc_readC (listed' := #[true, false, false, false, false, false, false, false, false, false, false]) 0 S rfl rfl rfl rfl (by kernel_rfl) rfl (fun _ d _ _ _ h => by cases d <;> exact h) hC (fun w hC => y_load S (by kernel_rfl) rfl (show _ = some (Value.int .i64 (k : Int)) from hC.cells 0)) ?_; clear S a; intro a S
  refine kc_readC (listed' := #[true, true, false, false, false, false, false, false, false, false, false]) 1 S rfl rfl rfl rfl (by kernel_rfl) rfl (fun _ d _ _ _ h => by cases d <;> exact h) hC (fun w hC => y_load S (by kernel_rfl) rfl (show _ = some (Value.int .i64 (k : Int)) from hC.cells 0)) ?_; clear S a; intro a S
  refine kc_readC (listed' := #[true, true, true, false, false, false, false, false, false, false, false]) 2 S rfl rfl rfl rfl (by kernel_rfl) rfl (fun _ d _ _ _ h => by cases d <;> exact h) hC (fun w _ => y_indexA (m := 32) (sz := 1) S (by kernel_rfl) rfl rfl (by first | omega | (simp; done) | (simp; omega))) ?_; clear S a; intro a S
  try simp only [Int.toNat_natCast, Nat.mul_one, Nat.zero_add] at S
  refine kc_read (listed' := #[true, true, true, true, false, false, false, false, false, false, false]) 3 S rfl rfl rfl rfl (by kernel_rfl) rfl (fun _ d _ _ _ h => by cases d <;> exact h) hC (fun w hW => have M := M.grow hW; y_load S (by kernel_rfl) rfl (M.cell 6 rfl (rowsV_get hr))) ?_; clear S a; intro a S
  refine kc_readC (listed' := #[true, true, true, true, true, false, false, false, false, false, false]) 4 S rfl rfl rfl rfl (by kernel_rfl) rfl (fun _ d _ _ _ h => by cases d <;> exact h) hC (fun w _ => y_fieldAddr (k := 0) S (by kernel_rfl) rfl) ?_; clear S a; intro a S
  refine kc_read (listed' := #[true, true, true, true, true, true, false, false, false, false, false]) 5 S rfl rfl rfl rfl (by kernel_rfl) rfl (fun _ d _ _ _ h => by cases d <;> exact h) hC (fun w hW => have M := M.grow hW; y_load S (by kernel_rfl) rfl (M.cell 8 rfl rfl)) ?_; clear S a; intro a S
  refine kc_readC (listed' := #[true, true, true, true, true, true, true, false, false, false, false]) 6 S rfl rfl rfl rfl (by kernel_rfl) rfl (fun _ d _ _ _ h => by cases d <;> exact h) hC (fun w _ => y_lenS (E := 37) S rfl (by kernel_rfl)) ?_; clear S a; intro a S
  refine kc_one (listed' := #[true, true, true, true, true, true, true, true, false, false, false]) 7 rfl (by kernel_rfl) rfl ?_
  refine st_lit (ps := [(0, (Operand.tmp 99))]) (e := 3) (sz := 1) (zl := [.int .i64 0]) (cs := [_]) S M rfl rfl (by kernel_rfl) rfl (rfl) ?_; clear S M a; intro a w44 bZ1 S M hB
  replace hC := M.blk 4 rfl
  refine wpList_nil ?_; refine then_normal ?_; refine ⟨fun _ => hB, hC, ?_⟩
  refine kc_one (listed' := #[true, true, true, true, true, true, true, true, true, false, false]) 8 rfl (by kernel_rfl) rfl ?_
  refine st_appendI (A := [_, _, _, _, _, _, _, _, _, _, _, _, _]) (k := k) (z := (held.length : Int)) S M hr hrl2 rfl rfl (by kernel_rfl) rfl rfl (M.sliceAt 0 rfl (M.cellsAt (k := 1) 0 rfl rfl) rfl (Nat.le_refl _) (by unfold maxLen; omega)) ?_
  clear S M a; intro a wA r' hr' S M
  simp only [List.cons_append, List.nil_append] at M
  replace hC := M.blk 4 rfl
  refine wpList_nil ?_; refine then_normal ?_; refine ⟨fun h => absurd h (by decide), hC, ?_⟩
  refine kc_readC (listed' := #[true, true, true, true, true, true, true, true, true, true, false]) 9 S rfl rfl rfl rfl (by kernel_rfl) rfl (fun _ d _ _ _ h => by cases d <;> exact h) hC (fun w _ => y_indexA (m := 32) (sz := 1) S (by kernel_rfl) rfl rfl (by first | omega | (simp; done) | (simp; omega))) ?_; clear S a; intro a S
  try simp only [Int.toNat_natCast, Nat.mul_one, Nat.zero_add] at S
  refine kc_one (listed' := #[true, true, true, true, true, true, true, true, true, true, true]) 10 rfl (by kernel_rfl) rfl ?_
  refine st_store (sz := 1) (us := [_]) S M 7 rfl (by kernel_rfl) rfl rfl rfl rfl rfl rfl (by rw [rowsV_len, hRI.1]; show _ + 1 ≤ 32; omega) ?_; clear M; intro w45 M
  simp only [List.set_cons_zero, List.set_cons_succ] at M
  replace hC := M.blk 4 rfl
  refine wpList_nil ?_; refine then_normal ?_; refine ⟨fun h => absurd h (by decide), hC, ?_⟩
  refine kc_end (by kernel_rfl) ?_
  replace S := S.sub [(4, _), (8, _), (9, _), (10, _), (14, _), (15, _), (59, _), (65, _), (66, _), (67, _), (68, _), (17, _), (18, _), (83, _), (13, _), (92, _)] rfl
  refine then_normal ?_
  refine wp_seq ?_
  skip
  replace M := M.drop 0
  simp only [List.eraseIdx_cons_succ, List.eraseIdx_cons_zero] at M
  rw [rowsV_put (by rw [hRI.1]; exact hk32)] at M
  refine wp_region_lit ?_
  refine st_run [1, 9] S M rfl (by kernel_rfl) ?_; clear S a; intro a S
  refine st_y S rfl rfl rfl (y_loadAgg (cs := [_, _, _, _, _]) S (by kernel_rfl) rfl rfl (M.cellsAt (k := 5) 1 rfl rfl)) ?_; clear S a; intro a S
  refine st_lit (ps := [(0, (Operand.tmp 105))]) (e := 37) (sz := 5) (zl := [.int .i64 0, .int .i64 0, .int .i64 0, .int .i64 0, .bool false]) (cs := [_, _, _, _, _]) S M rfl rfl (by kernel_rfl) rfl (rfl) ?_; clear S M a; intro a w46 bZ2 S M hB
  refine st_append (e := 37) (sz := 5) (by_ := 40) (zc := [.int .i64 0, .int .i64 0, .int .i64 0, .int .i64 0, .bool false]) S M 11 rfl rfl (by kernel_rfl) rfl (by decide) rfl rfl rfl (show Rd _ _ _ 5 _ 1 x.cellsL from M.sliceAt 0 rfl (M.cellsAt (k := 5) 0 rfl rfl) rfl (Nat.le_refl _) (by unfold maxLen; omega)) (rfl) (by omega) (by unfold maxLen; omega) ?_; clear S M a; intro a w47 vA loA hiA S M
  obtain ⟨aB, cB, rfl, -, -⟩ := (M.readAll 0 rfl (by unfold maxLen; omega)).form
  replace M := M.drop 1
  simp only [List.eraseIdx_cons_succ, List.eraseIdx_cons_zero] at M
  refine st_y S rfl rfl rfl (y_fieldAddr (k := 0) S (by kernel_rfl) rfl) ?_; clear S a; intro a S
  refine st_store (sz := 1) (us := [_]) S M 9 rfl (by kernel_rfl) rfl rfl rfl rfl rfl rfl (by first | decide | (simp; done) | (simp; omega)) ?_; clear M; intro w48 M
  simp only [putL, List.set_cons_zero, List.set_cons_succ, Nat.reduceAdd] at M
  refine nxC ?_
  refine wp_regionK [6] #[false, false, false, false, false, false, false] rfl M (by kernel_rfl) ?_; clear M; intro w49 M
  refine k_pure (listed' := #[true, false, false, false, false, false, false]) 0 S rfl rfl rfl rfl (by kernel_rfl) rfl (fun _ d _ _ _ h => by cases d <;> exact h) (fun w => y_move S rfl) ?_; clear S a; intro a S
  refine k_read (listed' := #[true, true, false, false, false, false, false]) 1 S rfl rfl rfl rfl (by kernel_rfl) rfl (fun _ d _ _ _ h => by cases d <;> exact h) (fun w hW => have M := M.grow hW; y_loadAgg (cs := [_, _, _, _, _]) S (by kernel_rfl) rfl rfl (M.cellsAt (k := 5) 2 rfl rfl)) ?_; clear S a; intro a S
  refine k_pure (listed' := #[true, true, false, true, false, false, false]) 3 S rfl rfl rfl rfl (by kernel_rfl) rfl (fun _ d _ _ _ h => by cases d <;> exact h) (fun w => y_fieldAddr (k := 0) S (by kernel_rfl) rfl) ?_; clear S a; intro a S
  refine k_read (listed' := #[true, true, false, true, true, false, false]) 4 S rfl rfl rfl rfl (by kernel_rfl) rfl (fun _ d _ _ _ h => by cases d <;> exact h) (fun w hW => have M := M.grow hW; y_load S (by kernel_rfl) rfl (M.cell 9 rfl rfl)) ?_; clear S a; intro a S
  refine k_pure (listed' := #[true, true, false, true, true, true, false]) 5 S rfl rfl rfl rfl (by kernel_rfl) rfl (fun _ d _ _ _ h => by cases d <;> exact h) (fun w => y_lenS (E := 37) S rfl (by kernel_rfl)) ?_; clear S a; intro a S
  refine k_one (listed' := #[true, true, true, true, true, true, false]) 2 rfl (by kernel_rfl) rfl ?_
  refine st_call (xs := [(Operand.tmp 110)]) S (enters_of Try.func19 (by decide) rfl) rfl rfl rfl (at_any x _) ?_
  rintro _ w50 ⟨rfl, hK⟩; refine ⟨_, rfl, ?_⟩; clear S a; intro a S; replace M := M.grow hK
  refine wpList_nil ?_; refine then_normal ?_; refine ⟨fun _ => hK, ?_⟩
  refine k_one (listed' := #[true, true, true, true, true, true, true]) 6 rfl (by kernel_rfl) rfl ?_
  refine st_updateM (pos := 8) S M (keyP) (hG) Try.underlying70 rfl rfl rfl rfl rfl ?_; clear M; intro w51 M
  simp only [List.set_cons_zero, List.set_cons_succ] at M
  refine wpList_nil ?_; refine then_normal ?_; refine ⟨fun h => absurd h (by decide), ?_⟩
  refine k_end (by kernel_rfl) ?_
  refine block_normal ?_
  refine nxF ?_
  (first | refine st_y S rfl rfl rfl (y_addN S rfl rfl (by omega)) ?_ | refine st_y S rfl rfl rfl (y_int S rfl rfl rfl) ?_); clear S a; intro a S
  refine st_go [1] S rfl (by kernel_rfl) ?_; clear S a; intro a S
  replace S := S.sub [(4, _), (8, _), (9, _), (10, _), (14, _), (15, _), (59, _), (65, _), (66, _), (68, _), (17, _), (18, _), (83, _), (13, _), (92, _), (67, _)] rfl
  refine nxC ?_
  skip
  replace M := M.drop 2
  simp only [List.eraseIdx_cons_succ, List.eraseIdx_cons_zero] at M
  replace M := M.front 10 rfl
  simp only [List.eraseIdx_cons_succ, List.eraseIdx_cons_zero] at M
  replace M := M.front 1 rfl
  simp only [List.eraseIdx_cons_succ, List.eraseIdx_cons_zero] at M
  replace M := M.front 10 rfl
  simp only [List.eraseIdx_cons_succ, List.eraseIdx_cons_zero] at M
  replace M := M.front 10 rfl
  simp only [List.eraseIdx_cons_succ, List.eraseIdx_cons_zero] at M
  replace M := M.front 10 rfl
  simp only [List.eraseIdx_cons_succ, List.eraseIdx_cons_zero] at M
  replace M := M.front 10 rfl
  simp only [List.eraseIdx_cons_succ, List.eraseIdx_cons_zero] at M
  replace M := M.front 10 rfl
  simp only [List.eraseIdx_cons_succ, List.eraseIdx_cons_zero] at M
  replace M := M.front 10 rfl
  simp only [List.eraseIdx_cons_succ, List.eraseIdx_cons_zero] at M
  replace M := M.front 8 rfl
  simp only [List.eraseIdx_cons_succ, List.eraseIdx_cons_zero] at M
  replace M := M.front 10 rfl
  simp only [List.eraseIdx_cons_succ, List.eraseIdx_cons_zero] at M
  replace M := M.front 10 rfl
  simp only [List.eraseIdx_cons_succ, List.eraseIdx_cons_zero] at M
  have e1 : (gone ++ [x]).length = gone.length + 1 := by simp
  have e2 : lcells (gone ++ [x]) = lcells gone ++ x.cellsL := by rw [lcells_append]; simp [lcells]
  first
    | (have hgr : grantL held x = held ++ [x] := by unfold grantL; rw [if_pos h92]
       have hno : ∀ q ∈ held, q.pl ≠ x.pl := by
         rcases posB_spec held x.pl with ⟨-, h8⟩ | ⟨i8, q8, h8, -⟩
         · exact h8
         · omega
       have e3 : (held ++ [x]).length = held.length + 1 := by simp
       have e4 : lcells (held ++ [x]) = lcells held ++ x.cellsL := by rw [lcells_append]; simp [lcells]
       rw [hgr] at hgo
       exact ⟨row.length - (j + 1), by omega, j + 1, held ++ [x], gone ++ [x], Q.set k r', _, _, _, _, aA, aB, cA, cB, _, _, _, _, by omega, rfl, hgo, by omega, by omega, hG.put _ _, hPI.put hno rfl, hRI.put hxb hr hr', hGG.put _ _, hGI.put, by rw [e1]; exact S.sub _ rfl, by rw [e1, e2, e3, e4]; exact M⟩)
    | (have hgr : grantL held x = held.set i9 q9.strong := by
         unfold grantL
         rw [if_neg h92, if_pos h116, show (posB held x.pl - 1).toNat = i9 by omega, hq9]
       have e3 : (held.set i9 q9.strong).length = held.length := List.length_set
       rw [hgr] at hgo
       exact ⟨row.length - (j + 1), by omega, j + 1, held.set i9 q9.strong, gone ++ [x], Q, _, _, _, _, aA, va1, cA, vc1, _, _, _, _, by omega, rfl, hgo, by omega, by omega, hG, hPI.strong hq9, hRI.strong hq9, hGG.put _ _, hGI.put, by rw [e1]; exact S.sub _ rfl, by rw [e1, e2, e3]; exact M⟩)
    | (have hgr : grantL held x = held := by unfold grantL; rw [if_neg h92, if_neg (by rw [h116]; decide)]
       rw [hgr] at hgo
       exact ⟨row.length - (j + 1), by omega, j + 1, held, gone ++ [x], Q, _, _, _, _, aA, va1, cA, vc1, _, _, _, _, by omega, rfl, hgo, by omega, by omega, hG, hPI, hRI, hGG.put _ _, hGI.put, by rw [e1]; exact S.sub _ rfl, by rw [e1, e2]; exact M⟩)

end Go.Proofs.Ytcbofgcmfkcglaa
