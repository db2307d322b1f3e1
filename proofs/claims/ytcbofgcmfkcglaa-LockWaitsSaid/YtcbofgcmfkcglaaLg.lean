/-
  Package lock: Ask.
-/
import Derived.Test.YtcbofgcmfkcglaaLf
import Derived.Test.YtcbofgcmfkcglaaStr
import Derived.Test.YtcbofgcmfkcglaaLgi
namespace Go.Proofs.Ytcbofgcmfkcglaa
open Go.RowKit Go.Sort

def Lk.strong (x : Lk) : Lk := { x with excl := true }
theorem lcells_strong {l : List Lk} {i : Nat} {x : Lk} (hx : l[i]? = some x) : putL (lcells l) (i * 5 + 4) [.bool true] = lcells (l.set i x.strong) := by
  have hi := (List.getElem?_eq_some_iff.1 hx).1
  have h2 : (l.set i x.strong)[i]? = some x.strong := by rw [List.getElem?_set_self hi]
  rw [lcells_split h2, List.take_set_of_le (Nat.le_refl _), List.drop_set_of_lt (by omega), lcells_split hx]
  have hA : (lcells (l.take i) ++ x.cellsL.take 4).length = i * 5 + 4 := by
    rw [List.length_append, lcells_length, List.length_take]
    have : (x.cellsL.take 4).length = 4 := rfl
    omega
  have h3 : lcells (l.take i) ++ (x.cellsL ++ lcells (l.drop (i + 1))) = (lcells (l.take i) ++ x.cellsL.take 4) ++ ([.bool x.excl] ++ lcells (l.drop (i + 1))) := by
    rw [List.append_assoc]; rfl
  have h4 : lcells (l.take i) ++ (x.strong.cellsL ++ lcells (l.drop (i + 1))) = (lcells (l.take i) ++ x.cellsL.take 4) ++ ([.bool true] ++ lcells (l.drop (i + 1))) := by
    rw [List.append_assoc]; rfl
  rw [h3, h4, ← hA]
  exact putL_mid rfl
theorem nf_len (x : Lk) (l : List Lk) : (nf x l).length ≤ l.length := by unfold nf; rw [List.length_map]; exact List.length_filter_le _ _
theorem agR_len (h wt : List Lk) (x : Lk) (up : Bool) : (agR h wt x up).length ≤ h.length + wt.length := by
  unfold agR
  rw [List.length_append]
  have h1 := nf_len x h
  have h2 := nf_len x wt
  split <;> simp <;> omega
/-- for whom a request would wait -/
def aheadR (h wt : List Lk) (x : Lk) : List Nm := agR h wt x (holdsV h x.pl != 0)
/-- where who waits is put -/
def ToP (h wt : List Lk) (x : Lk) (to : Nat) : Prop :=
  (to = wt.length ∧ ((∀ q ∈ h, q.pl ≠ x.pl) ∨ ∀ q ∈ wt, q.block ≠ x.block)) ∨ ((∃ q ∈ h, q.pl = x.pl) ∧ ∃ y, wt[to]? = some y ∧ y.block = x.block ∧ ∀ i, i < to → ∀ y, wt[i]? = some y → y.block ≠ x.block)
/-- what comes of a request -/
def AskRel (h wt : List Lk) (x : Lk) (h' wt' : List Lk) (act : Int) : Prop :=
  (settledR h wt x = (true, act) ∧ h' = h ∧ wt' = wt) ∨ ((settledR h wt x).1 = false ∧
    ((aheadR h wt x = [] ∧ act = 0 ∧ wt' = wt ∧ ((∃ k q, h[k]? = some q ∧ q.pl = x.pl ∧ h' = h.set k q.strong) ∨ ((∀ q ∈ h, q.pl ≠ x.pl) ∧ h' = h ++ [x]))) ∨
     (aheadR h wt x ≠ [] ∧ (¬ ∀ q ∈ aheadR h wt x, x.name.stamp < q.stamp) ∧ act = 2 ∧ h' = h ∧ wt' = wt) ∨
     (aheadR h wt x ≠ [] ∧ (∀ q ∈ aheadR h wt x, x.name.stamp < q.stamp) ∧ act = 1 ∧ h' = h ∧ ∃ to, to ≤ wt.length ∧ wt' = insL wt to x ∧ ToP h wt x to)))
def AskP (h wt : List Lk) (x : Lk) (w : World) (e : Ending) (w' : World) : Prop :=
  ∃ er act v h' wt', e = .returned (.tuple #[v, .int .i8 act, .int .i64 er]) ∧ NewT h' wt' w w' v ∧ ((er = 0 ∧ (OkT h wt ∧ x.may = true) ∧ AskRel h wt x h' wt' act) ∨ (er = 2 ∧ ¬ (OkT h wt ∧ x.may = true) ∧ h' = [] ∧ wt' = [] ∧ act = 0))
set_option maxHeartbeats 4000000 in
theorem ask_any (ha wa : Option Addr) (hc wc : Nat) (h wt : List Lk) (x : Lk) (w : World) (hv : Ls 0 w.heap.size w (.slice ha h.length hc) h) (hu : Ls 0 w.heap.size w (.slice wa wt.length wc) wt) (hl : h.length ≤ 1000) (hl2 : wt.length ≤ 1000) :
    Calls Try.prog 7 #[tabV ha wa h.length hc wt.length wc, .agg x.cellsL.toArray] w (AskP h wt x w) := by
  have M := Mem.start w
  refine calls_enter Try.func7 rfl 96 rfl rfl ?_; intro a S
  refine nxD ?_
  refine st_box S M rfl rfl rfl #[_, _] rfl ?_; clear S M a; intro a w1 bT S M hB
  refine st_box S M rfl rfl rfl #[_, _, _, _, _] rfl ?_; clear S M a; intro a w2 bX S M hB
  refine st_alloc S M rfl rfl #[.slice none 0 0, .slice none 0 0] (by kernel_rfl) ?_; clear S M a; intro a w3 bR S M hB
  refine st_go [1, 1] S rfl (by kernel_rfl) ?_; clear S a; intro a S
  refine nxC ?_
  refine wp_seq ?_
  refine nxD ?_
  refine st_y S rfl rfl rfl (y_loadAgg (cs := [_, _]) S (by kernel_rfl) rfl rfl (M.cellsAt (k := 2) 2 rfl rfl)) ?_; clear S a; intro a S
  refine st_call (xs := [(Operand.tmp 15)]) S (enters_of Try.func11 (by decide) rfl) rfl rfl rfl (check_any ha wa hc wc h wt _ (M.argW hv) (M.argW hu)) ?_
  rintro _ w4 ⟨er, rfl, hK, her⟩; refine ⟨_, rfl, ?_⟩; clear S a; intro a S; replace M := M.grow hK
  refine st_go [1, 1] S rfl (by kernel_rfl) ?_; clear S a; intro a S
  refine st_if (t := 18) S rfl ?_ ?_
  · clear S; intro h18 S
    refine st_go [0, 0, 0, 1] S rfl (by kernel_rfl) ?_; clear S a; intro a S
    refine nxC ?_
    refine st_condT S rfl ?_
    refine nxD ?_
    refine st_y S rfl rfl rfl (y_build (ps := []) (pl := [(0, 1), (1, 1)]) (z := [.slice none 0 0, .slice none 0 0]) (cs := [_, _]) S (by kernel_rfl) rfl (rfl)) ?_; clear S a; intro a S
    refine st_store (sz := 2) (us := [_, _]) S M 0 rfl (by kernel_rfl) rfl rfl rfl rfl rfl rfl (by first | decide | (simp; done) | (simp; omega)) ?_; clear M; intro w5 M
    simp only [putL, List.set_cons_zero, List.set_cons_succ, Nat.reduceAdd] at M
    refine st_go [1, 1] S rfl (by kernel_rfl) ?_; clear S a; intro a S
    refine nxC ?_
    refine wp_ret ?_
    refine then_ret ?_
    refine end_three S rfl (res_agg (cs := [_, _]) (by kernel_rfl) rfl rfl (M.cellsAt (k := 2) 0 rfl rfl)) (res_tmp rfl) (res_tmp rfl) ?_
    replace M := (M.rowNil 37 5).rowNil 37 5
    replace M := M.drop 2
    simp only [List.eraseIdx_cons_succ, List.eraseIdx_cons_zero] at M
    replace M := M.drop 2
    simp only [List.eraseIdx_cons_succ, List.eraseIdx_cons_zero] at M
    replace M := M.drop 2
    simp only [List.eraseIdx_cons_succ, List.eraseIdx_cons_zero] at M
    refine ⟨2, 0, _, [], [], rfl, ⟨none, none, 0, 0, _, _, _, _, rfl, M⟩, .inr ⟨rfl, ?_, rfl, rfl, rfl⟩⟩
    rintro ⟨h1, h2⟩
    have := her.2 h1
    first | omega | simp_all
  clear S; intro h18 S
  refine st_y S rfl rfl rfl (y_loadAgg (cs := [_, _, _, _, _]) S (by kernel_rfl) rfl rfl (M.cellsAt (k := 5) 1 rfl rfl)) ?_; clear S a; intro a S
  refine st_call (xs := [(Operand.tmp 19)]) S (enters_of Try.func15 (by decide) rfl) rfl rfl rfl (may_any x _) ?_
  rintro _ w6 ⟨rfl, hK⟩; refine ⟨_, rfl, ?_⟩; clear S a; intro a S; replace M := M.grow hK
  refine st_go [1, 1] S rfl (by kernel_rfl) ?_; clear S a; intro a S
  refine nxC ?_
  refine st_if (t := 22) S rfl ?_ ?_
  · clear S; intro h22 S
    refine st_condT S rfl ?_
    refine nxD ?_
    refine st_y S rfl rfl rfl (y_build (ps := []) (pl := [(0, 1), (1, 1)]) (z := [.slice none 0 0, .slice none 0 0]) (cs := [_, _]) S (by kernel_rfl) rfl (rfl)) ?_; clear S a; intro a S
    refine st_store (sz := 2) (us := [_, _]) S M 0 rfl (by kernel_rfl) rfl rfl rfl rfl rfl rfl (by first | decide | (simp; done) | (simp; omega)) ?_; clear M; intro w7 M
    simp only [putL, List.set_cons_zero, List.set_cons_succ, Nat.reduceAdd] at M
    refine st_go [1, 1] S rfl (by kernel_rfl) ?_; clear S a; intro a S
    refine nxC ?_
    refine wp_ret ?_
    refine then_ret ?_
    refine end_three S rfl (res_agg (cs := [_, _]) (by kernel_rfl) rfl rfl (M.cellsAt (k := 2) 0 rfl rfl)) (res_tmp rfl) (res_tmp rfl) ?_
    replace M := (M.rowNil 37 5).rowNil 37 5
    replace M := M.drop 2
    simp only [List.eraseIdx_cons_succ, List.eraseIdx_cons_zero] at M
    replace M := M.drop 2
    simp only [List.eraseIdx_cons_succ, List.eraseIdx_cons_zero] at M
    replace M := M.drop 2
    simp only [List.eraseIdx_cons_succ, List.eraseIdx_cons_zero] at M
    refine ⟨2, 0, _, [], [], rfl, ⟨none, none, 0, 0, _, _, _, _, rfl, M⟩, .inr ⟨rfl, ?_, rfl, rfl, rfl⟩⟩
    rintro ⟨h1, h2⟩
    have := her.2 h1
    first | omega | simp_all
  clear S; intro h22 S
  refine st_condF S rfl ?_
  refine wp_skip ?_
  refine then_normal ?_
  refine wp_seq ?_
  have her0 : er = 0 := by omega
  have hok := her.1 her0
  have hmy : x.may = true := by first | exact h22 | simpa using h22
  refine wp_region_lit ?_
  refine st_y S rfl rfl rfl (y_loadAgg (cs := [_, _]) S (by kernel_rfl) rfl rfl (M.cellsAt (k := 2) 2 rfl rfl)) ?_; clear S a; intro a S
  refine st_call (xs := [(Operand.tmp 24)]) S (enters_of Try.func16 (by decide) rfl) rfl rfl rfl (copied_any ha wa hc wc h wt _ (M.argW hv) (M.argW hu) (by omega) (by omega)) ?_
  rintro _ w8 ⟨v, rfl, ha2, wa2, hc2, wc2, lo1, hi1, lo2, hi2, rfl, M1⟩; refine ⟨_, rfl, ?_⟩; clear S a; intro a S; replace M := M.join M1; clear M1
  simp only [List.cons_append, List.nil_append] at M
  refine st_alloc S M rfl rfl #[.slice none 0 0, .slice none 0 0] (by kernel_rfl) ?_; clear S M a; intro a w9 bU S M hB
  refine st_store (sz := 2) (us := [_, _]) S M 0 rfl (by kernel_rfl) rfl rfl rfl rfl rfl rfl (by first | decide | (simp; done) | (simp; omega)) ?_; clear M; intro w10 M
  simp only [putL, List.set_cons_zero, List.set_cons_succ, Nat.reduceAdd] at M
  refine nxC ?_
  refine wp_seq ?_
  refine nxD ?_
  refine st_y S rfl rfl rfl (y_loadAgg (cs := [_, _]) S (by kernel_rfl) rfl rfl (M.cellsAt (k := 2) 5 rfl rfl)) ?_; clear S a; intro a S
  refine st_y S rfl rfl rfl (y_loadAgg (cs := [_, _, _, _, _]) S (by kernel_rfl) rfl rfl (M.cellsAt (k := 5) 4 rfl rfl)) ?_; clear S a; intro a S
  refine st_call (xs := [(Operand.tmp 27), (Operand.tmp 28)]) S (enters_of Try.func17 (by decide) rfl) rfl rfl rfl (settled_any ha wa hc wc h wt x _ (M.argW hv) (M.argW hu)) ?_
  rintro _ w11 ⟨rfl, hK⟩; refine ⟨_, rfl, ?_⟩; clear S a; intro a S; replace M := M.grow hK
  refine st_go [1, 1, 1, 1, 1] S rfl (by kernel_rfl) ?_; clear S a; intro a S
  replace S := S.sub [(0, _), (1, _), (2, _), (3, _), (4, _), (5, _), (6, _), (22, _), (7, _), (8, _), (9, _)] rfl
  refine nxA ?_
  refine st_go [1] S rfl (by kernel_rfl) ?_; clear S a; intro a S
  refine nxC ?_
  refine st_split (t := 32) S rfl ?_ ?_
  · clear S; intro h32 S
    refine st_condT S rfl ?_
    refine nxD ?_
    refine st_y S rfl rfl rfl (y_loadAgg (cs := [_, _]) S (by kernel_rfl) rfl rfl (M.cellsAt (k := 2) 0 rfl rfl)) ?_; clear S a; intro a S
    refine st_go [1] S rfl (by kernel_rfl) ?_; clear S a; intro a S
    refine st_store (sz := 2) (us := [_, _]) S M 3 rfl (by kernel_rfl) rfl rfl rfl rfl rfl rfl (by first | decide | (simp; done) | (simp; omega)) ?_; clear M; intro w12 M
    simp only [putL, List.set_cons_zero, List.set_cons_succ, Nat.reduceAdd] at M
    refine st_go [1, 1] S rfl (by kernel_rfl) ?_; clear S a; intro a S
    refine nxC ?_
    refine wp_ret ?_
    refine then_ret ?_
    refine end_three S rfl (res_agg (cs := [_, _]) (by kernel_rfl) rfl rfl (M.cellsAt (k := 2) 3 rfl rfl)) (res_tmp rfl) (res_tmp rfl) ?_
    skip
    replace M := M.front 2 rfl
    simp only [List.eraseIdx_cons_succ, List.eraseIdx_cons_zero] at M
    replace M := M.front 2 rfl
    simp only [List.eraseIdx_cons_succ, List.eraseIdx_cons_zero] at M
    replace M := M.drop 2
    simp only [List.eraseIdx_cons_succ, List.eraseIdx_cons_zero] at M
    replace M := M.drop 2
    simp only [List.eraseIdx_cons_succ, List.eraseIdx_cons_zero] at M
    replace M := M.drop 2
    simp only [List.eraseIdx_cons_succ, List.eraseIdx_cons_zero] at M
    replace M := M.drop 2
    simp only [List.eraseIdx_cons_succ, List.eraseIdx_cons_zero] at M
    exact ⟨0, _, _, h, wt, rfl, ⟨ha2, wa2, hc2, wc2, _, _, _, _, rfl, M⟩, .inl ⟨rfl, ⟨hok, hmy⟩, .inl ⟨Prod.ext h32 rfl, rfl, rfl⟩⟩⟩
  clear S; intro h32 S
  refine st_condF S rfl ?_
  refine wp_skip ?_
  refine nxE ?_
  refine st_y S rfl rfl rfl (y_makeFunc (fs := []) (cs := [(Operand.tmp 3)]) S rfl rfl) ?_; clear S a; intro a S
  refine st_go [1] S rfl (by kernel_rfl) ?_; clear S a; intro a S
  refine nxA ?_
  refine st_run [1, 1, 1] S M rfl (by kernel_rfl) ?_; clear S a; intro a S
  refine st_call (xs := [(Operand.tmp 37), (Operand.tmp 38)]) S (enters_of Try.func20 (by decide) rfl) rfl rfl rfl (indexFuncL_any (fi := []) (ca := [.pointer (some ⟨bX, 0, none⟩)]) (enters_of Try.func18 (by decide) rfl) ha2 hc2 h (fun y => decide (y.pl = x.pl)) _ (M.readAll 1 rfl (by unfold maxLen; omega)) (fun y w' hb => ask1_any y x bX w' ((hb.block bX (M.blk 4 rfl).lt).trans (M.blk 4 rfl)))) ?_
  rintro _ w13 ⟨j, rfl, hK, hj⟩; refine ⟨_, rfl, ?_⟩; clear S a; intro a S; replace M := M.grow hK
  refine st_go [1] S rfl (by kernel_rfl) ?_; clear S a; intro a S
  refine nxA ?_
  refine st_y S rfl rfl rfl (y_loadAgg (cs := [_, _]) S (by kernel_rfl) rfl rfl (M.cellsAt (k := 2) 5 rfl rfl)) ?_; clear S a; intro a S
  refine st_y S rfl rfl rfl (y_loadAgg (cs := [_, _, _, _, _]) S (by kernel_rfl) rfl rfl (M.cellsAt (k := 5) 4 rfl rfl)) ?_; clear S a; intro a S
  refine st_call (xs := [(Operand.tmp 40), (Operand.tmp 41)]) S (enters_of Try.func22 (by decide) rfl) rfl rfl rfl (against_any ha wa hc wc h wt x _ (M.argW hv)) ?_
  rintro _ w14 ⟨bT2, bL2, bU2, rfl, M1⟩; refine ⟨_, rfl, ?_⟩; clear S a; intro a S; replace M := M.join M1; clear M1
  simp only [List.cons_append, List.nil_append] at M
  refine st_call (xs := [(Operand.tmp 42)]) S (enters_of Try.func21 (by decide) rfl) rfl rfl rfl (collect_any (enters_of Try.func40 (by decide) rfl) (against1_gen bT2 bL2 bU2 ha wa hc wc h wt x (holdsV h x.pl != 0)) _ (fun W hW => AgC.mono ⟨M.blk 2 rfl, M.blk 1 rfl, M.blk 0 rfl, M.argW hv, M.argW hu⟩ hW) (by have := agR_len h wt x (holdsV h x.pl != 0); omega)) ?_
  rintro _ w15 ⟨na, nc, lo3, hi3, rfl, M1⟩; refine ⟨_, rfl, ?_⟩; clear S a; intro a S; replace M := M.join M1; clear M1
  simp only [List.cons_append, List.nil_append] at M
  replace M := M.drop 1
  simp only [List.eraseIdx_cons_succ, List.eraseIdx_cons_zero] at M
  replace M := M.drop 1
  simp only [List.eraseIdx_cons_succ, List.eraseIdx_cons_zero] at M
  replace M := M.drop 1
  simp only [List.eraseIdx_cons_succ, List.eraseIdx_cons_zero] at M
  generalize hag : agR h wt x (holdsV h x.pl != 0) = ns at S M
  refine st_go [1] S rfl (by kernel_rfl) ?_; clear S a; intro a S
  refine nxC ?_
  refine wp_seq ?_
  refine wp_block ?_
  refine nxD ?_
  refine st_go [1] S rfl (by kernel_rfl) ?_; clear S a; intro a S
  refine st_y S rfl rfl rfl (y_lenS (E := 23) S rfl (by kernel_rfl)) ?_; clear S a; intro a S
  refine st_go [1, 1] S rfl (by kernel_rfl) ?_; clear S a; intro a S
  refine st_fi (t := 48) S rfl ?_ ?_
  · clear S; intro h48 S
    refine st_go [0, 0, 1, 1] S rfl (by kernel_rfl) ?_; clear S a; intro a S
    replace S := S.sub [(0, _), (1, _), (2, _), (3, _), (4, _), (5, _), (6, _), (22, _), (7, _), (8, _), (9, _), (32, _), (10, _), (11, _), (12, _), (44, _)] rfl
    refine nxC ?_
    refine st_condF S rfl ?_
    refine nxD ?_
    refine st_go [1] S rfl (by kernel_rfl) ?_; clear S a; intro a S
    refine st_y S rfl rfl rfl (y_lenS (E := 23) S rfl (by kernel_rfl)) ?_; clear S a; intro a S
    refine st_go [1, 1] S rfl (by kernel_rfl) ?_; clear S a; intro a S
    refine nxC ?_
    refine st_if (t := 58) S rfl ?_ ?_
    · clear S; intro h58 S
      refine st_condT S rfl ?_
      refine nxD ?_
      refine st_run [1, 2] S M rfl (by kernel_rfl) ?_; clear S a; intro a S
      refine st_y S rfl rfl rfl (y_loadAgg (cs := [_, _, _, _, _]) S (by kernel_rfl) rfl rfl (M.cellsAt (k := 5) 5 rfl rfl)) ?_; clear S a; intro a S
      refine st_lit (ps := [(0, (Operand.tmp 64))]) (e := 37) (sz := 5) (zl := [.int .i64 0, .int .i64 0, .int .i64 0, .int .i64 0, .bool false]) (cs := [_, _, _, _, _]) S M rfl rfl (by kernel_rfl) rfl (rfl) ?_; clear S M a; intro a w28 bZ S M hB
      refine st_append (e := 37) (sz := 5) (by_ := 40) (zc := [.int .i64 0, .int .i64 0, .int .i64 0, .int .i64 0, .bool false]) S M 3 rfl rfl (by kernel_rfl) rfl (by decide) rfl rfl rfl (show Rd _ _ _ 5 _ 1 x.cellsL from M.sliceAt 0 rfl (M.cellsAt (k := 5) 0 rfl rfl) rfl (Nat.le_refl _) (by unfold maxLen; omega)) (rfl) (by omega) (by unfold maxLen; omega) ?_; clear S M a; intro a w29 vA loA hiA S M
      obtain ⟨aA, cA, rfl, -, -⟩ := (M.readAll 0 rfl (by unfold maxLen; omega)).form
      refine st_y S rfl rfl rfl (y_fieldAddr (k := 0) S (by kernel_rfl) rfl) ?_; clear S a; intro a S
      refine st_store (sz := 1) (us := [_]) S M 3 rfl (by kernel_rfl) rfl rfl rfl rfl rfl rfl (by first | decide | (simp; done) | (simp; omega)) ?_; clear M; intro w30 M
      simp only [putL, List.set_cons_zero, List.set_cons_succ, Nat.reduceAdd] at M
      refine nxA ?_
      refine st_y S rfl rfl rfl (y_loadAgg (cs := [_, _]) S (by kernel_rfl) rfl rfl (M.cellsAt (k := 2) 3 rfl rfl)) ?_; clear S a; intro a S
      refine st_store (sz := 2) (us := [_, _]) S M 5 rfl (by kernel_rfl) rfl rfl rfl rfl rfl rfl (by first | decide | (simp; done) | (simp; omega)) ?_; clear M; intro w31 M
      simp only [putL, List.set_cons_zero, List.set_cons_succ, Nat.reduceAdd] at M
      refine st_go [1, 1] S rfl (by kernel_rfl) ?_; clear S a; intro a S
      refine nxC ?_
      refine wp_ret ?_
      refine block_ret ?_
      refine then_ret ?_
      refine end_three S rfl (res_agg (cs := [_, _]) (by kernel_rfl) rfl rfl (M.cellsAt (k := 2) 5 rfl rfl)) (res_tmp rfl) (res_tmp rfl) ?_
      skip
      replace M := M.front 4 rfl
      simp only [List.eraseIdx_cons_succ, List.eraseIdx_cons_zero] at M
      replace M := M.front 1 rfl
      simp only [List.eraseIdx_cons_succ, List.eraseIdx_cons_zero] at M
      replace M := M.drop 2
      simp only [List.eraseIdx_cons_succ, List.eraseIdx_cons_zero] at M
      replace M := M.drop 2
      simp only [List.eraseIdx_cons_succ, List.eraseIdx_cons_zero] at M
      replace M := M.drop 2
      simp only [List.eraseIdx_cons_succ, List.eraseIdx_cons_zero] at M
      replace M := M.drop 2
      simp only [List.eraseIdx_cons_succ, List.eraseIdx_cons_zero] at M
      replace M := M.drop 2
      simp only [List.eraseIdx_cons_succ, List.eraseIdx_cons_zero] at M
      replace M := M.drop 2
      simp only [List.eraseIdx_cons_succ, List.eraseIdx_cons_zero] at M
      first
        | (exfalso; omega)
        | (have e1 : (h ++ [x]).length = h.length + 1 := by simp
           have e2 : lcells (h ++ [x]) = lcells h ++ x.cellsL := by rw [lcells_append]; simp [lcells]
           have hns : aheadR h wt x = [] := hag.trans (List.eq_nil_of_length_eq_zero (by omega))
           have hno : ∀ q ∈ h, q.pl ≠ x.pl := by
             rcases hj with ⟨k, q, rfl, -⟩ | ⟨-, h0⟩
             · exfalso; omega
             · intro q hq e; have := h0 q hq; simp [e] at this
           exact ⟨0, 0, _, h ++ [x], wt, rfl, ⟨aA, wa2, cA, wc2, _, _, _, _, by rw [e1], by rw [e1, e2]; exact M⟩, .inl ⟨rfl, ⟨hok, hmy⟩, .inr ⟨h32, .inl ⟨hns, rfl, rfl, .inr ⟨hno, rfl⟩⟩⟩⟩⟩)
    clear S; intro h58 S
    refine st_condF S rfl ?_
    refine nxD ?_
    refine st_go [1] S rfl (by kernel_rfl) ?_; clear S a; intro a S
    refine st_y S rfl rfl rfl (y_loadAgg (cs := [_, _, _]) S (by kernel_rfl) rfl rfl (M.cellsAt (k := 3) 5 rfl rfl)) ?_; clear S a; intro a S
    refine st_go [1] S rfl (by kernel_rfl) ?_; clear S a; intro a S
    refine st_call (xs := [(Operand.tmp 71), (Operand.tmp 72)]) S (enters_of Try.func23 (by decide) rfl) rfl rfl rfl (waits_any x.name na nc ns _ (M.readAll 0 rfl (by have := agR_len h wt x (holdsV h x.pl != 0); rw [hag] at this; unfold maxLen; omega))) ?_
    rintro _ w32 ⟨bw, rfl, hK, hbw⟩; refine ⟨_, rfl, ?_⟩; clear S a; intro a S; replace M := M.grow hK
    refine st_go [1, 1] S rfl (by kernel_rfl) ?_; clear S a; intro a S
    refine nxC ?_
    refine st_if (t := 69) S rfl ?_ ?_
    · clear S; intro h69 S
      refine st_condT S rfl ?_
      refine nxD ?_
      refine st_y S rfl rfl rfl (y_loadAgg (cs := [_, _]) S (by kernel_rfl) rfl rfl (M.cellsAt (k := 2) 1 rfl rfl)) ?_; clear S a; intro a S
      refine st_store (sz := 2) (us := [_, _]) S M 4 rfl (by kernel_rfl) rfl rfl rfl rfl rfl rfl (by first | decide | (simp; done) | (simp; omega)) ?_; clear M; intro w33 M
      simp only [putL, List.set_cons_zero, List.set_cons_succ, Nat.reduceAdd] at M
      refine st_go [1, 1] S rfl (by kernel_rfl) ?_; clear S a; intro a S
      refine nxC ?_
      refine wp_ret ?_
      refine block_ret ?_
      refine then_ret ?_
      refine end_three S rfl (res_agg (cs := [_, _]) (by kernel_rfl) rfl rfl (M.cellsAt (k := 2) 4 rfl rfl)) (res_tmp rfl) (res_tmp rfl) ?_
      skip
      replace M := M.front 3 rfl
      simp only [List.eraseIdx_cons_succ, List.eraseIdx_cons_zero] at M
      replace M := M.front 3 rfl
      simp only [List.eraseIdx_cons_succ, List.eraseIdx_cons_zero] at M
      replace M := M.drop 2
      simp only [List.eraseIdx_cons_succ, List.eraseIdx_cons_zero] at M
      replace M := M.drop 2
      simp only [List.eraseIdx_cons_succ, List.eraseIdx_cons_zero] at M
      replace M := M.drop 2
      simp only [List.eraseIdx_cons_succ, List.eraseIdx_cons_zero] at M
      replace M := M.drop 2
      simp only [List.eraseIdx_cons_succ, List.eraseIdx_cons_zero] at M
      replace M := M.drop 2
      simp only [List.eraseIdx_cons_succ, List.eraseIdx_cons_zero] at M
      have hA : aheadR h wt x = ns := hag
      have hnn : aheadR h wt x ≠ [] := fun e => by
        have : ns.length = 0 := by rw [← hA, e]; rfl
        omega
      have hnA : ¬ ∀ q ∈ aheadR h wt x, x.name.stamp < q.stamp := fun h9 => by
        rw [hA] at h9
        have := hbw.2 h9
        rw [h69] at this; cases this
      exact ⟨0, 2, _, h, wt, rfl, ⟨ha2, wa2, hc2, wc2, _, _, _, _, rfl, M⟩, .inl ⟨rfl, ⟨hok, hmy⟩, .inr ⟨h32, .inr (.inl ⟨hnn, hnA, rfl, rfl, rfl⟩)⟩⟩⟩
    clear S; intro h69 S
    refine st_condF S rfl ?_
    refine wp_skip ?_
    refine block_normal ?_
    refine then_normal ?_
    refine wp_seq ?_
    have hA : aheadR h wt x = ns := hag
    have hnn : aheadR h wt x ≠ [] := fun e => by
      have : ns.length = 0 := by rw [← hA, e]; rfl
      omega
    have hall : ∀ q ∈ aheadR h wt x, x.name.stamp < q.stamp := by rw [hA]; exact hbw.1 h69
    replace M := M.drop 0
    simp only [List.eraseIdx_cons_succ, List.eraseIdx_cons_zero] at M
    replace M := M.drop 5
    simp only [List.eraseIdx_cons_succ, List.eraseIdx_cons_zero] at M
    replace M := M.front 3 rfl
    simp only [List.eraseIdx_cons_succ, List.eraseIdx_cons_zero] at M
    replace M := M.front 4 rfl
    simp only [List.eraseIdx_cons_succ, List.eraseIdx_cons_zero] at M
    replace M := M.front 2 rfl
    simp only [List.eraseIdx_cons_succ, List.eraseIdx_cons_zero] at M
    replace M := M.front 4 rfl
    simp only [List.eraseIdx_cons_succ, List.eraseIdx_cons_zero] at M
    replace M := M.front 4 rfl
    simp only [List.eraseIdx_cons_succ, List.eraseIdx_cons_zero] at M
    refine wp_region_lit ?_
    refine st_run [2, 3] S M rfl (by kernel_rfl) ?_; clear S a; intro a S
    refine st_y S rfl rfl rfl (y_lenS (E := 37) S rfl (by kernel_rfl)) ?_; clear S a; intro a S
    refine st_go [1] S rfl (by kernel_rfl) ?_; clear S a; intro a S
    refine nxC ?_
    refine wp_cut (fun a w' => ∃ (to : Nat), to ≤ wt.length ∧ ToP h wt x to ∧ Sees 96 a [(3, .pointer (some ⟨bX, 0, none⟩)), (4, .pointer (some ⟨bR, 0, none⟩)), (7, .pointer (some ⟨bU, 0, none⟩)), (13, .int .i64 (to : Int))] ∧ Mem w w' [rowE lo1 hi1 37 5 (.slice ha2 h.length hc2) h.length (lcells h), rowE lo2 hi2 37 5 (.slice wa2 wt.length wc2) wt.length (lcells wt), .blk bU #[.slice ha2 h.length hc2, .slice wa2 wt.length wc2] 30, .blk bX x.cellsL.toArray 37, .blk bR #[.slice none 0 0, .slice none 0 0] 30]) ?_ ?_
    · skip
      refine nxD ?_
      refine st_go [1, 1] S rfl (by kernel_rfl) ?_; clear S a; intro a S
      refine nxC ?_
      refine st_fi (t := 80) S rfl ?_ ?_
      · clear S; intro h80 S
        refine st_condF S rfl ?_
        refine wp_skip ?_
        refine then_normal ?_
        first
          | (have hup : ∃ q ∈ h, q.pl = x.pl := by
               rcases hj with ⟨k, q, rfl, hq, hqp, -⟩ | ⟨h1, -⟩
               · exact ⟨q, List.mem_of_getElem? hq, by simpa using hqp⟩
               · exfalso; omega
             rcases hj2 with ⟨k2, q2, rfl, hq2, hq3, hq4⟩ | ⟨rfl, hq4⟩
             · exact ⟨k2, Nat.le_of_lt (List.getElem?_eq_some_iff.1 hq2).1, .inr ⟨hup, q2, hq2, by simpa using hq3, fun i hi y hy => by simpa using hq4 i y hi hy⟩, S.sub _ rfl, M⟩
             · exfalso; omega)
          | (rcases hj2 with ⟨k2, q2, rfl, -⟩ | ⟨rfl, hq4⟩
             · exfalso; omega
             · exact ⟨wt.length, Nat.le_refl _, .inl ⟨rfl, .inr fun q hq => by simpa using hq4 q hq⟩, S.sub _ rfl, M⟩)
          | (refine ⟨wt.length, Nat.le_refl _, .inl ⟨rfl, .inl fun q hq e => ?_⟩, S.sub _ rfl, M⟩
             rcases hj with ⟨k, q', rfl, -⟩ | ⟨-, h0⟩
             · omega
             · have := h0 q hq; simp [e] at this)
      clear S; intro h80 S
      refine st_condT S rfl ?_
      refine nxD ?_
      refine st_run [2, 3] S M rfl (by kernel_rfl) ?_; clear S a; intro a S
      refine st_y S rfl rfl rfl (y_makeFunc (fs := []) (cs := [(Operand.tmp 3)]) S rfl rfl) ?_; clear S a; intro a S
      refine st_call (xs := [(Operand.tmp 82), (Operand.tmp 83)]) S (enters_of Try.func20 (by decide) rfl) rfl rfl rfl (indexFuncL_any (fi := []) (ca := [.pointer (some ⟨bX, 0, none⟩)]) (enters_of Try.func24 (by decide) rfl) wa2 wc2 wt (fun y => y.block == x.block) _ (M.readAll 1 rfl (by unfold maxLen; omega)) (fun y w' hb => ask2_any y x bX w' ((hb.block bX (M.blk 3 rfl).lt).trans (M.blk 3 rfl)))) ?_
      rintro _ w34 ⟨j2, rfl, hK, hj2⟩; refine ⟨_, rfl, ?_⟩; clear S a; intro a S; replace M := M.grow hK
      refine st_go [1] S rfl (by kernel_rfl) ?_; clear S a; intro a S
      replace S := S.sub [(0, _), (1, _), (2, _), (3, _), (4, _), (5, _), (6, _), (22, _), (7, _), (8, _), (9, _), (32, _), (10, _), (11, _), (12, _), (44, _), (58, _), (69, _), (13, _), (80, _), (14, _)] rfl
      refine nxA ?_
      refine st_go [1, 1] S rfl (by kernel_rfl) ?_; clear S a; intro a S
      refine nxC ?_
      refine st_fi (t := 86) S rfl ?_ ?_
      · clear S; intro h86 S
        refine st_condF S rfl ?_
        refine wp_skip ?_
        refine then_normal ?_
        first
          | (have hup : ∃ q ∈ h, q.pl = x.pl := by
               rcases hj with ⟨k, q, rfl, hq, hqp, -⟩ | ⟨h1, -⟩
               · exact ⟨q, List.mem_of_getElem? hq, by simpa using hqp⟩
               · exfalso; omega
             rcases hj2 with ⟨k2, q2, rfl, hq2, hq3, hq4⟩ | ⟨rfl, hq4⟩
             · exact ⟨k2, Nat.le_of_lt (List.getElem?_eq_some_iff.1 hq2).1, .inr ⟨hup, q2, hq2, by simpa using hq3, fun i hi y hy => by simpa using hq4 i y hi hy⟩, S.sub _ rfl, M⟩
             · exfalso; omega)
          | (rcases hj2 with ⟨k2, q2, rfl, -⟩ | ⟨rfl, hq4⟩
             · exfalso; omega
             · exact ⟨wt.length, Nat.le_refl _, .inl ⟨rfl, .inr fun q hq => by simpa using hq4 q hq⟩, S.sub _ rfl, M⟩)
          | (refine ⟨wt.length, Nat.le_refl _, .inl ⟨rfl, .inl fun q hq e => ?_⟩, S.sub _ rfl, M⟩
             rcases hj with ⟨k, q', rfl, -⟩ | ⟨-, h0⟩
             · omega
             · have := h0 q hq; simp [e] at this)
      clear S; intro h86 S
      refine st_condT S rfl ?_
      refine wp_region_lit ?_
      refine st_go [1, 1] S rfl (by kernel_rfl) ?_; clear S a; intro a S
      refine nxC ?_
      first
        | (have hup : ∃ q ∈ h, q.pl = x.pl := by
             rcases hj with ⟨k, q, rfl, hq, hqp, -⟩ | ⟨h1, -⟩
             · exact ⟨q, List.mem_of_getElem? hq, by simpa using hqp⟩
             · exfalso; omega
           rcases hj2 with ⟨k2, q2, rfl, hq2, hq3, hq4⟩ | ⟨rfl, hq4⟩
           · exact ⟨k2, Nat.le_of_lt (List.getElem?_eq_some_iff.1 hq2).1, .inr ⟨hup, q2, hq2, by simpa using hq3, fun i hi y hy => by simpa using hq4 i y hi hy⟩, S.sub _ rfl, M⟩
           · exfalso; omega)
        | (rcases hj2 with ⟨k2, q2, rfl, -⟩ | ⟨rfl, hq4⟩
           · exfalso; omega
           · exact ⟨wt.length, Nat.le_refl _, .inl ⟨rfl, .inr fun q hq => by simpa using hq4 q hq⟩, S.sub _ rfl, M⟩)
        | (refine ⟨wt.length, Nat.le_refl _, .inl ⟨rfl, .inl fun q hq e => ?_⟩, S.sub _ rfl, M⟩
           rcases hj with ⟨k, q', rfl, -⟩ | ⟨-, h0⟩
           · omega
           · have := h0 q hq; simp [e] at this)
    clear S a M; intro a wc
    rintro ⟨to, hto1, hto2, S, M⟩
    refine nxD ?_
    refine st_run [2, 3, 1] S M rfl (by kernel_rfl) ?_; clear S a; intro a S
    refine st_y S rfl rfl rfl (y_loadAgg (cs := [_, _, _, _, _]) S (by kernel_rfl) rfl rfl (M.cellsAt (k := 5) 3 rfl rfl)) ?_; clear S a; intro a S
    refine st_lit (ps := [(0, (Operand.tmp 91))]) (e := 37) (sz := 5) (zl := [.int .i64 0, .int .i64 0, .int .i64 0, .int .i64 0, .bool false]) (cs := [_, _, _, _, _]) S M rfl rfl (by kernel_rfl) rfl (rfl) ?_; clear S M a; intro a w35 bZ S M hB
    skip
    replace M := M.front 2 rfl
    simp only [List.eraseIdx_cons_succ, List.eraseIdx_cons_zero] at M
    refine st_call (xs := [(Operand.tmp 89), (Operand.tmp 90), (Operand.tmp 92)]) S (enters_of Try.func25 (by decide) rfl) rfl rfl rfl (insert_any M (by omega) hto1) ?_
    rintro _ w36 ⟨la', lc', lo', hi', rfl, M1⟩; refine ⟨_, rfl, ?_⟩; clear S a; intro a S; replace M := M1; clear M1
    refine st_go [2] S rfl (by kernel_rfl) ?_; clear S a; intro a S
    refine st_store (sz := 1) (us := [_]) S M 3 rfl (by kernel_rfl) rfl rfl rfl rfl rfl rfl (by first | decide | (simp; done) | (simp; omega)) ?_; clear M; intro w37 M
    simp only [putL, List.set_cons_zero, List.set_cons_succ, Nat.reduceAdd] at M
    refine nxA ?_
    refine st_y S rfl rfl rfl (y_loadAgg (cs := [_, _]) S (by kernel_rfl) rfl rfl (M.cellsAt (k := 2) 3 rfl rfl)) ?_; clear S a; intro a S
    refine st_store (sz := 2) (us := [_, _]) S M 5 rfl (by kernel_rfl) rfl rfl rfl rfl rfl rfl (by first | decide | (simp; done) | (simp; omega)) ?_; clear M; intro w38 M
    simp only [putL, List.set_cons_zero, List.set_cons_succ, Nat.reduceAdd] at M
    refine st_go [1, 1] S rfl (by kernel_rfl) ?_; clear S a; intro a S
    refine nxC ?_
    refine wp_ret ?_
    refine end_three S rfl (res_agg (cs := [_, _]) (by kernel_rfl) rfl rfl (M.cellsAt (k := 2) 5 rfl rfl)) (res_tmp rfl) (res_tmp rfl) ?_
    skip
    replace M := M.front 2 rfl
    simp only [List.eraseIdx_cons_succ, List.eraseIdx_cons_zero] at M
    replace M := M.drop 2
    simp only [List.eraseIdx_cons_succ, List.eraseIdx_cons_zero] at M
    replace M := M.drop 2
    simp only [List.eraseIdx_cons_succ, List.eraseIdx_cons_zero] at M
    replace M := M.drop 2
    simp only [List.eraseIdx_cons_succ, List.eraseIdx_cons_zero] at M
    replace M := M.drop 2
    simp only [List.eraseIdx_cons_succ, List.eraseIdx_cons_zero] at M
    exact ⟨0, 1, _, h, insL wt to x, rfl, ⟨ha2, la', hc2, lc', _, _, _, _, by rw [insL_len hto1], by rw [insL_len hto1]; exact M⟩, .inl ⟨rfl, ⟨hok, hmy⟩, .inr ⟨h32, .inr (.inr ⟨hnn, hall, rfl, rfl, to, hto1, rfl, hto2⟩)⟩⟩⟩
  clear S; intro h48 S
  refine st_go [1, 1, 1, 1] S rfl (by kernel_rfl) ?_; clear S a; intro a S
  replace S := S.sub [(0, _), (1, _), (2, _), (3, _), (4, _), (5, _), (6, _), (22, _), (7, _), (8, _), (9, _), (32, _), (10, _), (11, _), (12, _), (44, _)] rfl
  refine nxC ?_
  refine st_if (t := 44) S rfl ?_ ?_
  · clear S; intro h44 S
    refine st_condT S rfl ?_
    refine wp_seq ?_
    obtain ⟨k, q, rfl, hq, hqp⟩ : ∃ (k : Nat) (q : Lk), j = (k : Int) ∧ h[k]? = some q ∧ q.pl = x.pl := by
      rcases hj with ⟨k, q, h1, h2, h3, -⟩ | ⟨h1, -⟩
      · exact ⟨k, q, h1, h2, by simpa using h3⟩
      · exfalso; omega
    have hkl := (List.getElem?_eq_some_iff.1 hq).1
    refine wp_region_lit ?_
    refine st_run [1, 2, 1] S M rfl (by kernel_rfl) ?_; clear S a; intro a S
    refine st_y S rfl rfl rfl (y_indexR (e := 37) (sz := 5) S (by kernel_rfl) rfl (M.readAll 2 rfl (by unfold maxLen; omega)) rfl (by first | omega | (simp; done) | (simp; omega))) ?_; clear S a; intro a S
    try simp only [Int.toNat_natCast, Nat.mul_one, Nat.zero_add] at S
    refine st_go [5] S rfl (by kernel_rfl) ?_; clear S a; intro a S
    refine st_storeRow (v := .slice ha2 h.length hc2) (sz := 5) (m := h.length) (j := k * 5 + 4) (us := [.bool true]) S M 2 rfl (by kernel_rfl) rfl rfl (by first | rfl | (simp only [Int.toNat_natCast]; omega)) rfl rfl rfl rfl rfl (by omega) (lcells_length h) (by rw [lcells_length]; show k * 5 + 4 + 1 ≤ _; omega) ?_; clear M; intro wz lo9 hi9 M
    simp only [List.eraseIdx_cons_succ, List.eraseIdx_cons_zero] at M
    refine nxA ?_
    refine st_y S rfl rfl rfl (y_loadAgg (cs := [_, _]) S (by kernel_rfl) rfl rfl (M.cellsAt (k := 2) 2 rfl rfl)) ?_; clear S a; intro a S
    refine st_store (sz := 2) (us := [_, _]) S M 4 rfl (by kernel_rfl) rfl rfl rfl rfl rfl rfl (by first | decide | (simp; done) | (simp; omega)) ?_; clear M; intro w16 M
    simp only [putL, List.set_cons_zero, List.set_cons_succ, Nat.reduceAdd] at M
    refine st_go [1, 1] S rfl (by kernel_rfl) ?_; clear S a; intro a S
    refine nxC ?_
    refine wp_ret ?_
    refine block_ret ?_
    refine then_ret ?_
    refine end_three S rfl (res_agg (cs := [_, _]) (by kernel_rfl) rfl rfl (M.cellsAt (k := 2) 4 rfl rfl)) (res_tmp rfl) (res_tmp rfl) ?_
    skip
    replace M := M.front 3 rfl
    simp only [List.eraseIdx_cons_succ, List.eraseIdx_cons_zero] at M
    replace M := M.front 1 rfl
    simp only [List.eraseIdx_cons_succ, List.eraseIdx_cons_zero] at M
    replace M := M.drop 2
    simp only [List.eraseIdx_cons_succ, List.eraseIdx_cons_zero] at M
    replace M := M.drop 2
    simp only [List.eraseIdx_cons_succ, List.eraseIdx_cons_zero] at M
    replace M := M.drop 2
    simp only [List.eraseIdx_cons_succ, List.eraseIdx_cons_zero] at M
    replace M := M.drop 2
    simp only [List.eraseIdx_cons_succ, List.eraseIdx_cons_zero] at M
    replace M := M.drop 2
    simp only [List.eraseIdx_cons_succ, List.eraseIdx_cons_zero] at M
    have e : (lcells h).set (k * 5 + 4) (.bool true) = lcells (h.set k q.strong) := lcells_strong hq
    have el : (h.set k q.strong).length = h.length := List.length_set
    have hns : aheadR h wt x = [] := hag.trans (List.eq_nil_of_length_eq_zero (by omega))
    exact ⟨0, 0, _, h.set k q.strong, wt, rfl, ⟨ha2, wa2, hc2, wc2, _, _, _, _, by rw [el], by rw [el, ← e]; exact M⟩, .inl ⟨rfl, ⟨hok, hmy⟩, .inr ⟨h32, .inl ⟨hns, rfl, rfl, .inl ⟨k, q, hq, hqp, rfl⟩⟩⟩⟩⟩
  clear S; intro h44 S
  refine st_condF S rfl ?_
  refine nxD ?_
  refine st_go [1] S rfl (by kernel_rfl) ?_; clear S a; intro a S
  refine st_y S rfl rfl rfl (y_lenS (E := 23) S rfl (by kernel_rfl)) ?_; clear S a; intro a S
  refine st_go [1, 1] S rfl (by kernel_rfl) ?_; clear S a; intro a S
  refine nxC ?_
  refine st_if (t := 58) S rfl ?_ ?_
  · clear S; intro h58 S
    refine st_condT S rfl ?_
    refine nxD ?_
    refine st_run [1, 2] S M rfl (by kernel_rfl) ?_; clear S a; intro a S
    refine st_y S rfl rfl rfl (y_loadAgg (cs := [_, _, _, _, _]) S (by kernel_rfl) rfl rfl (M.cellsAt (k := 5) 5 rfl rfl)) ?_; clear S a; intro a S
    refine st_lit (ps := [(0, (Operand.tmp 64))]) (e := 37) (sz := 5) (zl := [.int .i64 0, .int .i64 0, .int .i64 0, .int .i64 0, .bool false]) (cs := [_, _, _, _, _]) S M rfl rfl (by kernel_rfl) rfl (rfl) ?_; clear S M a; intro a w17 bZ S M hB
    refine st_append (e := 37) (sz := 5) (by_ := 40) (zc := [.int .i64 0, .int .i64 0, .int .i64 0, .int .i64 0, .bool false]) S M 3 rfl rfl (by kernel_rfl) rfl (by decide) rfl rfl rfl (show Rd _ _ _ 5 _ 1 x.cellsL from M.sliceAt 0 rfl (M.cellsAt (k := 5) 0 rfl rfl) rfl (Nat.le_refl _) (by unfold maxLen; omega)) (rfl) (by omega) (by unfold maxLen; omega) ?_; clear S M a; intro a w18 vA loA hiA S M
    obtain ⟨aA, cA, rfl, -, -⟩ := (M.readAll 0 rfl (by unfold maxLen; omega)).form
    refine st_y S rfl rfl rfl (y_fieldAddr (k := 0) S (by kernel_rfl) rfl) ?_; clear S a; intro a S
    refine st_store (sz := 1) (us := [_]) S M 3 rfl (by kernel_rfl) rfl rfl rfl rfl rfl rfl (by first | decide | (simp; done) | (simp; omega)) ?_; clear M; intro w19 M
    simp only [putL, List.set_cons_zero, List.set_cons_succ, Nat.reduceAdd] at M
    refine nxA ?_
    refine st_y S rfl rfl rfl (y_loadAgg (cs := [_, _]) S (by kernel_rfl) rfl rfl (M.cellsAt (k := 2) 3 rfl rfl)) ?_; clear S a; intro a S
    refine st_store (sz := 2) (us := [_, _]) S M 5 rfl (by kernel_rfl) rfl rfl rfl rfl rfl rfl (by first | decide | (simp; done) | (simp; omega)) ?_; clear M; intro w20 M
    simp only [putL, List.set_cons_zero, List.set_cons_succ, Nat.reduceAdd] at M
    refine st_go [1, 1] S rfl (by kernel_rfl) ?_; clear S a; intro a S
    refine nxC ?_
    refine wp_ret ?_
    refine block_ret ?_
    refine then_ret ?_
    refine end_three S rfl (res_agg (cs := [_, _]) (by kernel_rfl) rfl rfl (M.cellsAt (k := 2) 5 rfl rfl)) (res_tmp rfl) (res_tmp rfl) ?_
    skip
    replace M := M.front 4 rfl
    simp only [List.eraseIdx_cons_succ, List.eraseIdx_cons_zero] at M
    replace M := M.front 1 rfl
    simp only [List.eraseIdx_cons_succ, List.eraseIdx_cons_zero] at M
    replace M := M.drop 2
    simp only [List.eraseIdx_cons_succ, List.eraseIdx_cons_zero] at M
    replace M := M.drop 2
    simp only [List.eraseIdx_cons_succ, List.eraseIdx_cons_zero] at M
    replace M := M.drop 2
    simp only [List.eraseIdx_cons_succ, List.eraseIdx_cons_zero] at M
    replace M := M.drop 2
    simp only [List.eraseIdx_cons_succ, List.eraseIdx_cons_zero] at M
    replace M := M.drop 2
    simp only [List.eraseIdx_cons_succ, List.eraseIdx_cons_zero] at M
    replace M := M.drop 2
    simp only [List.eraseIdx_cons_succ, List.eraseIdx_cons_zero] at M
    first
      | (exfalso; omega)
      | (have e1 : (h ++ [x]).length = h.length + 1 := by simp
         have e2 : lcells (h ++ [x]) = lcells h ++ x.cellsL := by rw [lcells_append]; simp [lcells]
         have hns : aheadR h wt x = [] := hag.trans (List.eq_nil_of_length_eq_zero (by omega))
         have hno : ∀ q ∈ h, q.pl ≠ x.pl := by
           rcases hj with ⟨k, q, rfl, -⟩ | ⟨-, h0⟩
           · exfalso; omega
           · intro q hq e; have := h0 q hq; simp [e] at this
         exact ⟨0, 0, _, h ++ [x], wt, rfl, ⟨aA, wa2, cA, wc2, _, _, _, _, by rw [e1], by rw [e1, e2]; exact M⟩, .inl ⟨rfl, ⟨hok, hmy⟩, .inr ⟨h32, .inl ⟨hns, rfl, rfl, .inr ⟨hno, rfl⟩⟩⟩⟩⟩)
  clear S; intro h58 S
  refine st_condF S rfl ?_
  refine nxD ?_
  refine st_go [1] S rfl (by kernel_rfl) ?_; clear S a; intro a S
  refine st_y S rfl rfl rfl (y_loadAgg (cs := [_, _, _]) S (by kernel_rfl) rfl rfl (M.cellsAt (k := 3) 5 rfl rfl)) ?_; clear S a; intro a S
  refine st_go [1] S rfl (by kernel_rfl) ?_; clear S a; intro a S
  refine st_call (xs := [(Operand.tmp 71), (Operand.tmp 72)]) S (enters_of Try.func23 (by decide) rfl) rfl rfl rfl (waits_any x.name na nc ns _ (M.readAll 0 rfl (by have := agR_len h wt x (holdsV h x.pl != 0); rw [hag] at this; unfold maxLen; omega))) ?_
  rintro _ w21 ⟨bw, rfl, hK, hbw⟩; refine ⟨_, rfl, ?_⟩; clear S a; intro a S; replace M := M.grow hK
  refine st_go [1, 1] S rfl (by kernel_rfl) ?_; clear S a; intro a S
  refine nxC ?_
  refine st_if (t := 69) S rfl ?_ ?_
  · clear S; intro h69 S
    refine st_condT S rfl ?_
    refine nxD ?_
    refine st_y S rfl rfl rfl (y_loadAgg (cs := [_, _]) S (by kernel_rfl) rfl rfl (M.cellsAt (k := 2) 1 rfl rfl)) ?_; clear S a; intro a S
    refine st_store (sz := 2) (us := [_, _]) S M 4 rfl (by kernel_rfl) rfl rfl rfl rfl rfl rfl (by first | decide | (simp; done) | (simp; omega)) ?_; clear M; intro w22 M
    simp only [putL, List.set_cons_zero, List.set_cons_succ, Nat.reduceAdd] at M
    refine st_go [1, 1] S rfl (by kernel_rfl) ?_; clear S a; intro a S
    refine nxC ?_
    refine wp_ret ?_
    refine block_ret ?_
    refine then_ret ?_
    refine end_three S rfl (res_agg (cs := [_, _]) (by kernel_rfl) rfl rfl (M.cellsAt (k := 2) 4 rfl rfl)) (res_tmp rfl) (res_tmp rfl) ?_
    skip
    replace M := M.front 3 rfl
    simp only [List.eraseIdx_cons_succ, List.eraseIdx_cons_zero] at M
    replace M := M.front 3 rfl
    simp only [List.eraseIdx_cons_succ, List.eraseIdx_cons_zero] at M
    replace M := M.drop 2
    simp only [List.eraseIdx_cons_succ, List.eraseIdx_cons_zero] at M
    replace M := M.drop 2
    simp only [List.eraseIdx_cons_succ, List.eraseIdx_cons_zero] at M
    replace M := M.drop 2
    simp only [List.eraseIdx_cons_succ, List.eraseIdx_cons_zero] at M
    replace M := M.drop 2
    simp only [List.eraseIdx_cons_succ, List.eraseIdx_cons_zero] at M
    replace M := M.drop 2
    simp only [List.eraseIdx_cons_succ, List.eraseIdx_cons_zero] at M
    have hA : aheadR h wt x = ns := hag
    have hnn : aheadR h wt x ≠ [] := fun e => by
      have : ns.length = 0 := by rw [← hA, e]; rfl
      omega
    have hnA : ¬ ∀ q ∈ aheadR h wt x, x.name.stamp < q.stamp := fun h9 => by
      rw [hA] at h9
      have := hbw.2 h9
      rw [h69] at this; cases this
    exact ⟨0, 2, _, h, wt, rfl, ⟨ha2, wa2, hc2, wc2, _, _, _, _, rfl, M⟩, .inl ⟨rfl, ⟨hok, hmy⟩, .inr ⟨h32, .inr (.inl ⟨hnn, hnA, rfl, rfl, rfl⟩)⟩⟩⟩
  clear S; intro h69 S
  refine st_condF S rfl ?_
  refine wp_skip ?_
  refine block_normal ?_
  refine then_normal ?_
  refine wp_seq ?_
  have hA : aheadR h wt x = ns := hag
  have hnn : aheadR h wt x ≠ [] := fun e => by
    have : ns.length = 0 := by rw [← hA, e]; rfl
    omega
  have hall : ∀ q ∈ aheadR h wt x, x.name.stamp < q.stamp := by rw [hA]; exact hbw.1 h69
  replace M := M.drop 0
  simp only [List.eraseIdx_cons_succ, List.eraseIdx_cons_zero] at M
  replace M := M.drop 5
  simp only [List.eraseIdx_cons_succ, List.eraseIdx_cons_zero] at M
  replace M := M.front 3 rfl
  simp only [List.eraseIdx_cons_succ, List.eraseIdx_cons_zero] at M
  replace M := M.front 4 rfl
  simp only [List.eraseIdx_cons_succ, List.eraseIdx_cons_zero] at M
  replace M := M.front 2 rfl
  simp only [List.eraseIdx_cons_succ, List.eraseIdx_cons_zero] at M
  replace M := M.front 4 rfl
  simp only [List.eraseIdx_cons_succ, List.eraseIdx_cons_zero] at M
  replace M := M.front 4 rfl
  simp only [List.eraseIdx_cons_succ, List.eraseIdx_cons_zero] at M
  refine wp_region_lit ?_
  refine st_run [2, 3] S M rfl (by kernel_rfl) ?_; clear S a; intro a S
  refine st_y S rfl rfl rfl (y_lenS (E := 37) S rfl (by kernel_rfl)) ?_; clear S a; intro a S
  refine st_go [1] S rfl (by kernel_rfl) ?_; clear S a; intro a S
  refine nxC ?_
  refine wp_cut (fun a w' => ∃ (to : Nat), to ≤ wt.length ∧ ToP h wt x to ∧ Sees 96 a [(3, .pointer (some ⟨bX, 0, none⟩)), (4, .pointer (some ⟨bR, 0, none⟩)), (7, .pointer (some ⟨bU, 0, none⟩)), (13, .int .i64 (to : Int))] ∧ Mem w w' [rowE lo1 hi1 37 5 (.slice ha2 h.length hc2) h.length (lcells h), rowE lo2 hi2 37 5 (.slice wa2 wt.length wc2) wt.length (lcells wt), .blk bU #[.slice ha2 h.length hc2, .slice wa2 wt.length wc2] 30, .blk bX x.cellsL.toArray 37, .blk bR #[.slice none 0 0, .slice none 0 0] 30]) ?_ ?_
  · skip
    refine nxD ?_
    refine st_go [1, 1] S rfl (by kernel_rfl) ?_; clear S a; intro a S
    refine nxC ?_
    refine st_fi (t := 80) S rfl ?_ ?_
    · clear S; intro h80 S
      refine st_condF S rfl ?_
      refine wp_skip ?_
      refine then_normal ?_
      first
        | (have hup : ∃ q ∈ h, q.pl = x.pl := by
             rcases hj with ⟨k, q, rfl, hq, hqp, -⟩ | ⟨h1, -⟩
             · exact ⟨q, List.mem_of_getElem? hq, by simpa using hqp⟩
             · exfalso; omega
           rcases hj2 with ⟨k2, q2, rfl, hq2, hq3, hq4⟩ | ⟨rfl, hq4⟩
           · exact ⟨k2, Nat.le_of_lt (List.getElem?_eq_some_iff.1 hq2).1, .inr ⟨hup, q2, hq2, by simpa using hq3, fun i hi y hy => by simpa using hq4 i y hi hy⟩, S.sub _ rfl, M⟩
           · exfalso; omega)
        | (rcases hj2 with ⟨k2, q2, rfl, -⟩ | ⟨rfl, hq4⟩
           · exfalso; omega
           · exact ⟨wt.length, Nat.le_refl _, .inl ⟨rfl, .inr fun q hq => by simpa using hq4 q hq⟩, S.sub _ rfl, M⟩)
        | (refine ⟨wt.length, Nat.le_refl _, .inl ⟨rfl, .inl fun q hq e => ?_⟩, S.sub _ rfl, M⟩
           rcases hj with ⟨k, q', rfl, -⟩ | ⟨-, h0⟩
           · omega
           · have := h0 q hq; simp [e] at this)
    clear S; intro h80 S
    refine st_condT S rfl ?_
    refine nxD ?_
    refine st_run [2, 3] S M rfl (by kernel_rfl) ?_; clear S a; intro a S
    refine st_y S rfl rfl rfl (y_makeFunc (fs := []) (cs := [(Operand.tmp 3)]) S rfl rfl) ?_; clear S a; intro a S
    refine st_call (xs := [(Operand.tmp 82), (Operand.tmp 83)]) S (enters_of Try.func20 (by decide) rfl) rfl rfl rfl (indexFuncL_any (fi := []) (ca := [.pointer (some ⟨bX, 0, none⟩)]) (enters_of Try.func24 (by decide) rfl) wa2 wc2 wt (fun y => y.block == x.block) _ (M.readAll 1 rfl (by unfold maxLen; omega)) (fun y w' hb => ask2_any y x bX w' ((hb.block bX (M.blk 3 rfl).lt).trans (M.blk 3 rfl)))) ?_
    rintro _ w23 ⟨j2, rfl, hK, hj2⟩; refine ⟨_, rfl, ?_⟩; clear S a; intro a S; replace M := M.grow hK
    refine st_go [1] S rfl (by kernel_rfl) ?_; clear S a; intro a S
    replace S := S.sub [(0, _), (1, _), (2, _), (3, _), (4, _), (5, _), (6, _), (22, _), (7, _), (8, _), (9, _), (32, _), (10, _), (11, _), (12, _), (44, _), (58, _), (69, _), (13, _), (80, _), (14, _)] rfl
    refine nxA ?_
    refine st_go [1, 1] S rfl (by kernel_rfl) ?_; clear S a; intro a S
    refine nxC ?_
    refine st_fi (t := 86) S rfl ?_ ?_
    · clear S; intro h86 S
      refine st_condF S rfl ?_
      refine wp_skip ?_
      refine then_normal ?_
      first
        | (have hup : ∃ q ∈ h, q.pl = x.pl := by
             rcases hj with ⟨k, q, rfl, hq, hqp, -⟩ | ⟨h1, -⟩
             · exact ⟨q, List.mem_of_getElem? hq, by simpa using hqp⟩
             · exfalso; omega
           rcases hj2 with ⟨k2, q2, rfl, hq2, hq3, hq4⟩ | ⟨rfl, hq4⟩
           · exact ⟨k2, Nat.le_of_lt (List.getElem?_eq_some_iff.1 hq2).1, .inr ⟨hup, q2, hq2, by simpa using hq3, fun i hi y hy => by simpa using hq4 i y hi hy⟩, S.sub _ rfl, M⟩
           · exfalso; omega)
        | (rcases hj2 with ⟨k2, q2, rfl, -⟩ | ⟨rfl, hq4⟩
           · exfalso; omega
           · exact ⟨wt.length, Nat.le_refl _, .inl ⟨rfl, .inr fun q hq => by simpa using hq4 q hq⟩, S.sub _ rfl, M⟩)
        | (refine ⟨wt.length, Nat.le_refl _, .inl ⟨rfl, .inl fun q hq e => ?_⟩, S.sub _ rfl, M⟩
           rcases hj with ⟨k, q', rfl, -⟩ | ⟨-, h0⟩
           · omega
           · have := h0 q hq; simp [e] at this)
    clear S; intro h86 S
    refine st_condT S rfl ?_
    refine wp_region_lit ?_
    refine st_go [1, 1] S rfl (by kernel_rfl) ?_; clear S a; intro a S
    refine nxC ?_
    first
      | (have hup : ∃ q ∈ h, q.pl = x.pl := by
           rcases hj with ⟨k, q, rfl, hq, hqp, -⟩ | ⟨h1, -⟩
           · exact ⟨q, List.mem_of_getElem? hq, by simpa using hqp⟩
           · exfalso; omega
         rcases hj2 with ⟨k2, q2, rfl, hq2, hq3, hq4⟩ | ⟨rfl, hq4⟩
         · exact ⟨k2, Nat.le_of_lt (List.getElem?_eq_some_iff.1 hq2).1, .inr ⟨hup, q2, hq2, by simpa using hq3, fun i hi y hy => by simpa using hq4 i y hi hy⟩, S.sub _ rfl, M⟩
         · exfalso; omega)
      | (rcases hj2 with ⟨k2, q2, rfl, -⟩ | ⟨rfl, hq4⟩
         · exfalso; omega
         · exact ⟨wt.length, Nat.le_refl _, .inl ⟨rfl, .inr fun q hq => by simpa using hq4 q hq⟩, S.sub _ rfl, M⟩)
      | (refine ⟨wt.length, Nat.le_refl _, .inl ⟨rfl, .inl fun q hq e => ?_⟩, S.sub _ rfl, M⟩
         rcases hj with ⟨k, q', rfl, -⟩ | ⟨-, h0⟩
         · omega
         · have := h0 q hq; simp [e] at this)
  clear S a M; intro a wc
  rintro ⟨to, hto1, hto2, S, M⟩
  refine nxD ?_
  refine st_run [2, 3, 1] S M rfl (by kernel_rfl) ?_; clear S a; intro a S
  refine st_y S rfl rfl rfl (y_loadAgg (cs := [_, _, _, _, _]) S (by kernel_rfl) rfl rfl (M.cellsAt (k := 5) 3 rfl rfl)) ?_; clear S a; intro a S
  refine st_lit (ps := [(0, (Operand.tmp 91))]) (e := 37) (sz := 5) (zl := [.int .i64 0, .int .i64 0, .int .i64 0, .int .i64 0, .bool false]) (cs := [_, _, _, _, _]) S M rfl rfl (by kernel_rfl) rfl (rfl) ?_; clear S M a; intro a w24 bZ S M hB
  skip
  replace M := M.front 2 rfl
  simp only [List.eraseIdx_cons_succ, List.eraseIdx_cons_zero] at M
  refine st_call (xs := [(Operand.tmp 89), (Operand.tmp 90), (Operand.tmp 92)]) S (enters_of Try.func25 (by decide) rfl) rfl rfl rfl (insert_any M (by omega) hto1) ?_
  rintro _ w25 ⟨la', lc', lo', hi', rfl, M1⟩; refine ⟨_, rfl, ?_⟩; clear S a; intro a S; replace M := M1; clear M1
  refine st_go [2] S rfl (by kernel_rfl) ?_; clear S a; intro a S
  refine st_store (sz := 1) (us := [_]) S M 3 rfl (by kernel_rfl) rfl rfl rfl rfl rfl rfl (by first | decide | (simp; done) | (simp; omega)) ?_; clear M; intro w26 M
  simp only [putL, List.set_cons_zero, List.set_cons_succ, Nat.reduceAdd] at M
  refine nxA ?_
  refine st_y S rfl rfl rfl (y_loadAgg (cs := [_, _]) S (by kernel_rfl) rfl rfl (M.cellsAt (k := 2) 3 rfl rfl)) ?_; clear S a; intro a S
  refine st_store (sz := 2) (us := [_, _]) S M 5 rfl (by kernel_rfl) rfl rfl rfl rfl rfl rfl (by first | decide | (simp; done) | (simp; omega)) ?_; clear M; intro w27 M
  simp only [putL, List.set_cons_zero, List.set_cons_succ, Nat.reduceAdd] at M
  refine st_go [1, 1] S rfl (by kernel_rfl) ?_; clear S a; intro a S
  refine nxC ?_
  refine wp_ret ?_
  refine end_three S rfl (res_agg (cs := [_, _]) (by kernel_rfl) rfl rfl (M.cellsAt (k := 2) 5 rfl rfl)) (res_tmp rfl) (res_tmp rfl) ?_
  skip
  replace M := M.front 2 rfl
  simp only [List.eraseIdx_cons_succ, List.eraseIdx_cons_zero] at M
  replace M := M.drop 2
  simp only [List.eraseIdx_cons_succ, List.eraseIdx_cons_zero] at M
  replace M := M.drop 2
  simp only [List.eraseIdx_cons_succ, List.eraseIdx_cons_zero] at M
  replace M := M.drop 2
  simp only [List.eraseIdx_cons_succ, List.eraseIdx_cons_zero] at M
  replace M := M.drop 2
  simp only [List.eraseIdx_cons_succ, List.eraseIdx_cons_zero] at M
  exact ⟨0, 1, _, h, insL wt to x, rfl, ⟨ha2, la', hc2, lc', _, _, _, _, by rw [insL_len hto1], by rw [insL_len hto1]; exact M⟩, .inl ⟨rfl, ⟨hok, hmy⟩, .inr ⟨h32, .inr (.inr ⟨hnn, hall, rfl, rfl, to, hto1, rfl, hto2⟩)⟩⟩⟩

end Go.Proofs.Ytcbofgcmfkcglaa
