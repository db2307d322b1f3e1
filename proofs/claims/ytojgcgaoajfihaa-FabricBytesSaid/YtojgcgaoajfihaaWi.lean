/-
  Package wire: Read.
-/
import Derived.Test.YtojgcgaoajfihaaWh
import Derived.Test.YtojgcgaoajfihaaEqB
namespace Go.Proofs.Ytojgcgaoajfihaa
open Go.RowKit Go.Sort

theorem fldsP_nil (h : Nat → Bool) (p : Ps) (h0 : p.2.1 = []) : ∀ k, k ≤ 9 → (fldsP h k p).2.1 = []
  | 0, _ => h0
  | k + 1, hk => by
    have ih := fldsP_nil h p h0 k (by omega)
    rw [fldsP]; split
    · have : k = 0 ∨ k = 1 ∨ k = 2 ∨ k = 3 ∨ k = 4 ∨ k = 5 ∨ k = 6 ∨ k = 7 ∨ k = 8 := by omega
      rcases this with rfl | rfl | rfl | rfl | rfl | rfl | rfl | rfl | rfl <;> exact ih
    · exact ih
theorem fldsP_len (h : Nat → Bool) (p : Ps) (h0 : p.2.1 = []) {k : Nat} (hk : k ≤ 10) : (fldsP h k p).2.1.length ≤ 256 := by
  rcases Nat.lt_or_ge k 10 with hlt | hge
  · rw [fldsP_nil h p h0 k (by omega)]; simp
  · obtain rfl : k = 10 := by omega
    have ih := fldsP_nil h p h0 9 (by omega)
    rw [fldsP]; split
    · simp only [fldP, ih, List.nil_append, wrsW_len]
      have := nmW_bd 1 (fldsP h 9 p).2.2
      omega
    · rw [ih]; simp
theorem fldP_kind (k : Nat) (p : Ps) : (fldP k p).1.kind = p.1.kind := by unfold fldP; split <;> rfl
theorem fldsP_kind (h : Nat → Bool) (p : Ps) : ∀ k, (fldsP h k p).1.kind = p.1.kind
  | 0 => rfl
  | k + 1 => by
    rw [fldsP]; split
    · rw [fldP_kind, fldsP_kind h p k]
    · exact fldsP_kind h p k

def zM : Msg := ⟨0, 0, 0, 0, 0, ⟨0, 0, 0⟩, 0, 0, 0, ⟨0, 0, 0, 0, 0, 0, 0, 0⟩, 0, false, 0, 0⟩
/-- what bytes read as: a message that may be, whose bytes they are; or none, and a code -/
def ReadMPost (bs : List UInt8) (w : World) (e : Ending) (w' : World) : Prop :=
  ∃ (m : Msg) (x : List Wr) (v' : Value) (c : Int), e = .returned (.tuple #[.agg (m.cells v'), .int .i64 c]) ∧ Fresh w w' 72 9 v' x.length (wcells x) ∧ x.length ≤ 256 ∧
    ((c = 0 ∧ m.may x = true ∧ sealB (m.enc x) = bs) ∨ (c = 40 ∧ m = zM ∧ x = [] ∧ v' = .slice none 0 0 ∧ ∀ (m : Msg) (x : List Wr), m.may x = true → sealB (m.enc x) ≠ bs))
theorem readM_no {bs : List UInt8} {w w' : World} {H : List Ent} (M : Mem w w' H) (h : ∀ (m : Msg) (x : List Wr), m.may x = true → sealB (m.enc x) ≠ bs) : ReadMPost bs w (.returned (.tuple #[.agg (zM.cells (.slice none 0 0)), .int .i64 40])) w' :=
  ⟨zM, [], _, 40, rfl, M.freshNil _ _, by simp, .inr ⟨rfl, rfl, rfl, rfl, h⟩⟩
theorem encM_len (m : Msg) (x : List Wr) (hx : x.length ≤ 1000) : (ifL (m.may x = true) (sealB (m.enc x))).length ≤ maxLen := by
  by_cases hm : m.may x = true
  · rw [ifL_pos hm]; have := encS_len (khas m.kind) m x (k := 10) (Nat.le_refl _) hx; unfold Msg.enc sealB; rw [List.length_append]; unfold maxLen; simp only [sum4, List.length_cons, List.length_nil]; omega
  · rw [ifL_neg hm]; exact Nat.zero_le _

set_option maxHeartbeats 1000000 in
theorem readM_any (v : Value) (bs : List UInt8) (w : World) (hv : Bs 0 w.heap.size w v bs) (hb : bs.length ≤ 100000) : Calls Try.prog 43 #[v] w (ReadMPost bs w) := by
  have M := Mem.start w
  refine calls_enter Try.func43 rfl 84 rfl rfl ?_; intro a S
  refine nxD ?_
  refine st_alloc S M rfl rfl #[.int .i8 0, .int .i64 0, .int .i64 0, .int .i64 0, .int .i64 0, .int .i64 0, .int .i64 0, .int .i64 0, .int .i64 0, .int .i8 0, .int .i64 0, .int .u8 0, .int .u8 0, .int .u8 0, .int .u8 0, .int .u8 0, .int .u8 0, .int .u8 0, .int .u8 0, .int .i64 0, .bool false, .int .i64 0, .int .i64 0, .slice none 0 0] (by kernel_rfl) ?_; clear S M a; intro a w1 bO S M hB
  refine st_go [1] S rfl (by kernel_rfl) ?_; clear S a; intro a S
  refine nxC ?_
  refine wp_scope_straight ?_
  refine nxD ?_
  refine st_go [1] S rfl (by kernel_rfl) ?_; clear S a; intro a S
  refine st_call (xs := [(Operand.tmp 13)]) S (enters_of Try.func64 (by decide) rfl) rfl rfl rfl (open_any _ bs _ (M.argW hv) (by omega)) ?_
  rintro _ w2 ⟨v1, rfl, hK, hyes, hno⟩; refine ⟨_, rfl, ?_⟩; clear S a; intro a S
  refine st_go [1, 1, 1, 1, 1] S rfl (by kernel_rfl) ?_; clear S a; intro a S
  refine nxC ?_
  refine wp_seq ?_
  refine nxD ?_
  refine st_go [1, 1] S rfl (by kernel_rfl) ?_; clear S a; intro a S
  refine nxC ?_
  refine st_split (t := 18) S rfl ?_ ?_
  · clear S; intro h18 S
    refine st_condT S rfl ?_
    refine wp_seq ?_
    have hn : ¬ openOk bs := by intro h; rw [openB_true h] at h18; simp at h18
    replace M := M.grow hK
    refine wp_region_lit ?_
    refine st_y S rfl rfl rfl (y_build (ps := []) (pl := [(0, 1), (1, 1), (2, 1), (3, 1), (4, 1), (5, 3), (8, 1), (9, 1), (10, 1), (11, 8), (19, 1), (20, 1), (21, 1), (22, 1), (23, 1)]) (z := [.int .i8 0, .int .i64 0, .int .i64 0, .int .i64 0, .int .i64 0, .int .i64 0, .int .i64 0, .int .i64 0, .int .i64 0, .int .i8 0, .int .i64 0, .int .u8 0, .int .u8 0, .int .u8 0, .int .u8 0, .int .u8 0, .int .u8 0, .int .u8 0, .int .u8 0, .int .i64 0, .bool false, .int .i64 0, .int .i64 0, .slice none 0 0]) (cs := [_, _, _, _, _, _, _, _, _, _, _, _, _, _, _, _, _, _, _, _, _, _, _, _]) S (by kernel_rfl) rfl (rfl)) ?_; clear S a; intro a S
    refine st_store (sz := 24) (us := [_, _, _, _, _, _, _, _, _, _, _, _, _, _, _, _, _, _, _, _, _, _, _, _]) S M 0 rfl (by kernel_rfl) rfl rfl rfl rfl rfl rfl (by first | decide | (simp; done) | (simp; omega)) ?_; clear M; intro w3 M
    simp only [putL, List.set_cons_zero, List.set_cons_succ, Nat.reduceAdd] at M
    refine st_go [1] S rfl (by kernel_rfl) ?_; clear S a; intro a S
    refine nxC ?_
    refine wp_ret ?_
    refine then_ret ?_
    refine sc_ret ?_
    refine end_two S rfl (res_agg (cs := [_, _, _, _, _, _, _, _, _, _, _, _, _, _, _, _, _, _, _, _, _, _, _, _]) (by kernel_rfl) rfl rfl (M.cellsAt (k := 24) 0 rfl rfl)) (res_tmp rfl) ?_
    exact readM_no M (fun m x hm he => hn ⟨_, he.symm⟩)
  clear S; intro h18 S
  refine st_condF S rfl ?_
  refine wp_skip ?_
  refine then_normal ?_
  refine wp_seq ?_
  have hok : openOk bs := by
    apply Classical.byContradiction; intro h; rw [openB_false h] at h18; simp at h18
  obtain ⟨body, hbody⟩ := hok
  have hF := hyes ⟨body, hbody⟩
  have hbl : bs.length = body.length + 4 := by rw [hbody]; simp [sealB, sum4]
  have hbt : bs.take (bs.length - 4) = body := by rw [hbl, hbody]; simp [sealB]
  rw [hbt] at hF
  have hif : ∀ {m : Msg} {x : List Wr}, m.may x = true → sealB (m.enc x) = bs → m.enc x = body := fun _ he => sealB_inj (he.trans hbody)
  obtain ⟨lo, hi, -, M⟩ := M.pushFresh hF
  obtain ⟨ba, bc, rfl, -, -⟩ := (M.readRow 0 rfl (by unfold maxLen; omega)).form
  replace M : Mem w w2 (lfE lo hi (.slice ba body.length bc) body :: _) := M.ownMono fun w h => Rd.of_row h.1 h.2 (by unfold maxLen; omega)
  refine wp_region_lit ?_
  refine st_go [1] S rfl (by kernel_rfl) ?_; clear S a; intro a S
  refine st_y S rfl rfl rfl (y_build (ps := [(0, (Operand.tmp 20))]) (pl := [(0, 1), (1, 1)]) (z := [.slice none 0 0, .bool false]) (cs := [_, _]) S (by kernel_rfl) rfl (rfl)) ?_; clear S a; intro a S
  refine st_box S M rfl rfl rfl #[_, _] rfl ?_; clear S M a; intro a w4 bR S M hB
  refine st_go [1] S rfl (by kernel_rfl) ?_; clear S a; intro a S
  refine nxA ?_
  refine st_alloc S M rfl rfl #[.int .i8 0, .int .i64 0, .int .i64 0, .int .i64 0, .int .i64 0, .int .i64 0, .int .i64 0, .int .i64 0, .int .i64 0, .int .i8 0, .int .i64 0, .int .u8 0, .int .u8 0, .int .u8 0, .int .u8 0, .int .u8 0, .int .u8 0, .int .u8 0, .int .u8 0, .int .i64 0, .bool false, .int .i64 0, .int .i64 0, .slice none 0 0] (by kernel_rfl) ?_; clear S M a; intro a w5 bC S M hB
  refine nxC ?_
  refine wp_seq ?_
  replace M := M.front 2 rfl
  simp only [List.eraseIdx_cons_succ, List.eraseIdx_cons_zero] at M
  replace M := M.front 2 rfl
  simp only [List.eraseIdx_cons_succ, List.eraseIdx_cons_zero] at M
  refine wp_region_lit ?_
  refine st_go [1] S rfl (by kernel_rfl) ?_; clear S a; intro a S
  refine st_call (xs := [(Operand.tmp 23), (Operand.const (Value.int IntKind.i64 1))]) S (enters_of Try.func65 (by decide) rfl) rfl rfl rfl (num8_at (sh := false) 1 M rfl (by decide)) ?_
  rintro _ w6 ⟨bv1, rfl, M1⟩; refine ⟨_, rfl, ?_⟩; clear S a; intro a S; replace M := M1; clear M1
  refine st_go [1] S rfl (by kernel_rfl) ?_; clear S a; intro a S
  refine st_store (sz := 1) (us := [_]) S M 2 rfl (by kernel_rfl) rfl rfl rfl rfl rfl rfl (by first | decide | (simp; done) | (simp; omega)) ?_; clear M; intro w7 M
  simp only [putL, List.set_cons_zero, List.set_cons_succ, Nat.reduceAdd] at M
  refine nxA ?_
  refine st_go [1] S rfl (by kernel_rfl) ?_; clear S a; intro a S
  refine st_call (xs := [(Operand.tmp 26), (Operand.const (Value.int IntKind.i64 1))]) S (enters_of Try.func66 (by decide) rfl) rfl rfl rfl (numI_at 1 M rfl (by decide)) ?_
  rintro _ w8 ⟨bv1, rfl, M1⟩; refine ⟨_, rfl, ?_⟩; clear S a; intro a S; replace M := M1; clear M1
  refine st_go [1] S rfl (by kernel_rfl) ?_; clear S a; intro a S
  refine st_call (xs := [(Operand.tmp 28), (Operand.const (Value.int IntKind.i64 1))]) S (enters_of Try.func66 (by decide) rfl) rfl rfl rfl (numI_at 1 M rfl (by decide)) ?_
  rintro _ w9 ⟨bv1, rfl, M1⟩; refine ⟨_, rfl, ?_⟩; clear S a; intro a S; replace M := M1; clear M1
  refine st_go [2] S rfl (by kernel_rfl) ?_; clear S a; intro a S
  refine st_store (sz := 1) (us := [_]) S M 2 rfl (by kernel_rfl) rfl rfl rfl rfl rfl rfl (by first | decide | (simp; done) | (simp; omega)) ?_; clear M; intro w10 M
  simp only [putL, List.set_cons_zero, List.set_cons_succ, Nat.reduceAdd] at M
  refine st_go [3] S rfl (by kernel_rfl) ?_; clear S a; intro a S
  refine st_store (sz := 1) (us := [_]) S M 2 rfl (by kernel_rfl) rfl rfl rfl rfl rfl rfl (by first | decide | (simp; done) | (simp; omega)) ?_; clear M; intro w11 M
  simp only [putL, List.set_cons_zero, List.set_cons_succ, Nat.reduceAdd] at M
  replace S := S.sub [(0, _), (2, _), (3, _), (4, _), (5, _), (18, _), (6, _), (7, _)] rfl
  refine nxA ?_
  refine st_go [1] S rfl (by kernel_rfl) ?_; clear S a; intro a S
  refine st_call (xs := [(Operand.tmp 32), (Operand.const (Value.int IntKind.i64 3))]) S (enters_of Try.func66 (by decide) rfl) rfl rfl rfl (numI_at 3 M rfl (by decide)) ?_
  rintro _ w12 ⟨bv1, rfl, M1⟩; refine ⟨_, rfl, ?_⟩; clear S a; intro a S; replace M := M1; clear M1
  refine st_go [1] S rfl (by kernel_rfl) ?_; clear S a; intro a S
  refine st_call (xs := [(Operand.tmp 34), (Operand.const (Value.int IntKind.i64 3))]) S (enters_of Try.func66 (by decide) rfl) rfl rfl rfl (numI_at 3 M rfl (by decide)) ?_
  rintro _ w13 ⟨bv1, rfl, M1⟩; refine ⟨_, rfl, ?_⟩; clear S a; intro a S; replace M := M1; clear M1
  refine st_go [4] S rfl (by kernel_rfl) ?_; clear S a; intro a S
  refine st_store (sz := 1) (us := [_]) S M 2 rfl (by kernel_rfl) rfl rfl rfl rfl rfl rfl (by first | decide | (simp; done) | (simp; omega)) ?_; clear M; intro w14 M
  simp only [putL, List.set_cons_zero, List.set_cons_succ, Nat.reduceAdd] at M
  refine st_go [5] S rfl (by kernel_rfl) ?_; clear S a; intro a S
  refine st_store (sz := 1) (us := [_]) S M 2 rfl (by kernel_rfl) rfl rfl rfl rfl rfl rfl (by first | decide | (simp; done) | (simp; omega)) ?_; clear M; intro w15 M
  simp only [putL, List.set_cons_zero, List.set_cons_succ, Nat.reduceAdd] at M
  refine nxC ?_
  refine wp_seq ?_
  replace M : Mem w w15 (.blk bR (rdrC bv1 (hdP (body, false)).2.2.2) 105 :: lfE lo hi bv1 (hdP (body, false)).2.2.1 :: .blk bC ((hdP (body, false)).1.cells (.slice none 0 0)) 42 :: _) := M
  have hp0x : (hdP (body, false)).2.1 = [] := rfl
  obtain ⟨p0, hp0⟩ : ∃ p0, hdP (body, false) = p0 := ⟨_, rfl⟩
  have hpr : ∀ {m : Msg} {x : List Wr}, m.may x = true → sealB (m.enc x) = bs → 1 ≤ p0.1.kind ∧ p0.1.kind ≤ 11 ∧ fldsP (khas p0.1.kind) 10 p0 = (m, x, ([], false)) ∧ ∀ k, k ≤ 10 → (fldsP (khas p0.1.kind) k p0).2.2.2 = false := by
    intro m x hm he
    have e1 := prs_enc hm
    have e2 := fun k (hk : k ≤ 10) => prs_short hm hk
    have e3 := (may_head hm).1
    rw [hif hm he] at e1 e2
    unfold prs at e1 e2
    rw [hp0] at e1 e2
    have e4 := fldsP_kind (khas p0.1.kind) p0 10
    rw [e1] at e4
    simp only at e4
    exact ⟨by omega, by omega, e1, e2⟩
  rw [hp0] at M hp0x
  refine wp_region_lit ?_
  refine st_run [1, 3] S M rfl (by kernel_rfl) ?_; clear S a; intro a S
  refine st_call (xs := [(Operand.tmp 40)]) S (enters_of Try.func32 (by decide) rfl) rfl rfl rfl (kindOf_any _ _) ?_
  rintro _ w16 ⟨rfl, hK⟩; refine ⟨_, rfl, ?_⟩; clear S a; intro a S; replace M := M.grow hK
  refine st_go [1, 1, 1] S rfl (by kernel_rfl) ?_; clear S a; intro a S
  refine st_alloc S M rfl rfl #[.bool false, .bool false, .bool false, .bool false, .bool false, .bool false, .bool false, .bool false, .bool false, .bool false, .bool false] (by kernel_rfl) ?_; clear S M a; intro a w17 bK S M hB
  refine st_store (sz := 11) (us := [_, _, _, _, _, _, _, _, _, _, _]) S M 0 rfl (by kernel_rfl) rfl rfl rfl rfl rfl rfl (by first | decide | (simp; done) | (simp; omega)) ?_; clear M; intro w18 M
  simp only [putL, List.set_cons_zero, List.set_cons_succ, Nat.reduceAdd] at M
  refine st_go [1] S rfl (by kernel_rfl) ?_; clear S a; intro a S
  refine nxC ?_
  refine wp_seq ?_
  refine nxD ?_
  refine st_go [1, 1] S rfl (by kernel_rfl) ?_; clear S a; intro a S
  replace S := S.sub [(0, _), (2, _), (3, _), (4, _), (18, _), (6, _), (7, _), (8, _), (5, _), (45, _)] rfl
  refine nxC ?_
  refine st_split (t := 45) S rfl ?_ ?_
  · clear S; intro h45 S
    refine st_condT S rfl ?_
    refine nxD ?_
    refine st_y S rfl rfl rfl (y_build (ps := []) (pl := [(0, 1), (1, 1), (2, 1), (3, 1), (4, 1), (5, 3), (8, 1), (9, 1), (10, 1), (11, 8), (19, 1), (20, 1), (21, 1), (22, 1), (23, 1)]) (z := [.int .i8 0, .int .i64 0, .int .i64 0, .int .i64 0, .int .i64 0, .int .i64 0, .int .i64 0, .int .i64 0, .int .i64 0, .int .i8 0, .int .i64 0, .int .u8 0, .int .u8 0, .int .u8 0, .int .u8 0, .int .u8 0, .int .u8 0, .int .u8 0, .int .u8 0, .int .i64 0, .bool false, .int .i64 0, .int .i64 0, .slice none 0 0]) (cs := [_, _, _, _, _, _, _, _, _, _, _, _, _, _, _, _, _, _, _, _, _, _, _, _]) S (by kernel_rfl) rfl (rfl)) ?_; clear S a; intro a S
    refine st_store (sz := 24) (us := [_, _, _, _, _, _, _, _, _, _, _, _, _, _, _, _, _, _, _, _, _, _, _, _]) S M 4 rfl (by kernel_rfl) rfl rfl rfl rfl rfl rfl (by first | decide | (simp; done) | (simp; omega)) ?_; clear M; intro w19 M
    simp only [putL, List.set_cons_zero, List.set_cons_succ, Nat.reduceAdd] at M
    refine st_go [1] S rfl (by kernel_rfl) ?_; clear S a; intro a S
    refine nxC ?_
    refine wp_ret ?_
    refine then_ret ?_
    refine sc_ret ?_
    refine end_two S rfl (res_agg (cs := [_, _, _, _, _, _, _, _, _, _, _, _, _, _, _, _, _, _, _, _, _, _, _, _]) (by kernel_rfl) rfl rfl (M.cellsAt (k := 24) 4 rfl rfl)) (res_tmp rfl) ?_
    refine readM_no M (fun m x hm he => ?_)
    obtain ⟨q1, q2, -⟩ := hpr hm he
    have : isKind p0.1.kind = true := by unfold isKind; rw [decide_eq_true ⟨q1, q2⟩]
    rw [this] at h45; simp at h45
  clear S; intro h45 S
  refine st_condF S rfl ?_
  refine wp_skip ?_
  refine then_normal ?_
  refine wp_seq ?_
  refine wp_label ?_
  refine then_normal ?_
  refine wp_cut (fun a w' => ∃ k, k ≤ 10 ∧ Sees 84 a [(0, v), (2, .pointer (some ⟨bO, 0, none⟩)), (6, .pointer (some ⟨bR, 0, none⟩)), (7, .pointer (some ⟨bC, 0, none⟩))] ∧ (∃ bv vx xlo xhi, Mem w w' [.blk bR (rdrC bv (fldsP (khas p0.1.kind) k p0).2.2.2) 105, lfE lo hi bv (fldsP (khas p0.1.kind) k p0).2.2.1, .blk bC ((fldsP (khas p0.1.kind) k p0).1.cells vx) 42, rowE xlo xhi 72 9 vx (fldsP (khas p0.1.kind) k p0).2.1.length (wcells (fldsP (khas p0.1.kind) k p0).2.1), .blk bK (kdL (kdown p0.1.kind) (khas p0.1.kind)).toArray 68, .blk bO (zM.cells (.slice none 0 0)) 42]) ∧ (k = 10 ∨ (fldsP (khas p0.1.kind) k p0).2.2.2 = true)) ?_ ?_
  · skip
    refine nxD ?_
    refine st_go [1] S rfl (by kernel_rfl) ?_; clear S a; intro a S
    refine nxC ?_
    refine wp_block ?_
    refine wp_loop_g (fun q a w' => ∃ (k : Nat), k ≤ 10 ∧ q = 10 - k ∧ Sees 84 a [(0, v), (2, .pointer (some ⟨bO, 0, none⟩)), (6, .pointer (some ⟨bR, 0, none⟩)), (7, .pointer (some ⟨bC, 0, none⟩)), (8, .pointer (some ⟨bK, 0, none⟩)), (47, .int .i64 (k : Int))] ∧ ∃ bv vx xlo xhi, Mem w w' [.blk bR (rdrC bv (fldsP (khas p0.1.kind) k p0).2.2.2) 105, lfE lo hi bv (fldsP (khas p0.1.kind) k p0).2.2.1, .blk bC ((fldsP (khas p0.1.kind) k p0).1.cells vx) 42, rowE xlo xhi 72 9 vx (fldsP (khas p0.1.kind) k p0).2.1.length (wcells (fldsP (khas p0.1.kind) k p0).2.1), .blk bK (kdL (kdown p0.1.kind) (khas p0.1.kind)).toArray 68, .blk bO (zM.cells (.slice none 0 0)) 42]) (10) ?_ ?_
    · skip
      replace M := M.rowNil 72 9
      replace M := M.front 1 rfl
      simp only [List.eraseIdx_cons_succ, List.eraseIdx_cons_zero] at M
      replace M := M.front 1 rfl
      simp only [List.eraseIdx_cons_succ, List.eraseIdx_cons_zero] at M
      replace M := M.front 4 rfl
      simp only [List.eraseIdx_cons_succ, List.eraseIdx_cons_zero] at M
      replace M := M.front 4 rfl
      simp only [List.eraseIdx_cons_succ, List.eraseIdx_cons_zero] at M
      replace M := M.front 4 rfl
      simp only [List.eraseIdx_cons_succ, List.eraseIdx_cons_zero] at M
      exact ⟨0, by omega, rfl, S.sub _ rfl, by rw [show fldsP (khas p0.1.kind) 0 p0 = p0 from rfl, hp0x]; exact ⟨_, _, _, _, M⟩⟩
    clear S M a; intro m a wl
    clear bv1
    rintro ⟨k, hk, rfl, S, bv, vx, xlo, xhi, M⟩
    obtain ⟨p, hp⟩ : ∃ p, fldsP (khas p0.1.kind) k p0 = p := ⟨_, rfl⟩
    have hpl := fldsP_len (khas p0.1.kind) p0 hp0x hk
    rw [hp] at M hpl
    refine nxD ?_
    refine st_go [1] S rfl (by kernel_rfl) ?_; clear S a; intro a S
    refine nxC ?_
    refine wp_seq ?_
    refine st_fi (t := 48) S rfl ?_ ?_
    · clear S; intro h48 S
      refine st_condF S rfl ?_
      refine wp_exit ?_
      refine then_exit ?_
      refine then_exit ?_
      refine block_hit ?_
      refine then_normal ?_
      first
        | (refine ⟨k, hk, S.sub _ rfl, ⟨bv, vx, xlo, xhi, ?_⟩, .inl (by omega)⟩; rw [hp]; exact M)
        | (refine ⟨k, hk, S.sub _ rfl, ⟨bv, vx, xlo, xhi, ?_⟩, .inr (by rw [hp]; exact h50)⟩; rw [hp]; exact M)
    clear S; intro h48 S
    refine st_condT S rfl ?_
    refine wp_skip ?_
    refine then_normal ?_
    refine wp_cut (fun a w' => Sees 84 a [(0, v), (2, .pointer (some ⟨bO, 0, none⟩)), (6, .pointer (some ⟨bR, 0, none⟩)), (7, .pointer (some ⟨bC, 0, none⟩)), (8, .pointer (some ⟨bK, 0, none⟩)), (47, .int .i64 (k : Int))] ∧ ∃ bv vx xlo xhi, Mem w w' [.blk bR (rdrC bv (fldsP (khas p0.1.kind) (k + 1) p0).2.2.2) 105, lfE lo hi bv (fldsP (khas p0.1.kind) (k + 1) p0).2.2.1, .blk bC ((fldsP (khas p0.1.kind) (k + 1) p0).1.cells vx) 42, rowE xlo xhi 72 9 vx (fldsP (khas p0.1.kind) (k + 1) p0).2.1.length (wcells (fldsP (khas p0.1.kind) (k + 1) p0).2.1), .blk bK (kdL (kdown p0.1.kind) (khas p0.1.kind)).toArray 68, .blk bO (zM.cells (.slice none 0 0)) 42]) ?_ ?_
    · skip
      refine wp_block ?_
      refine nxD ?_
      refine st_go [1, 1] S rfl (by kernel_rfl) ?_; clear S a; intro a S
      refine nxC ?_
      refine wp_block ?_
      refine nxD ?_
      refine st_run [1, 1, 2, 1, 1] S M rfl (by kernel_rfl) ?_; clear S a; intro a S
      refine nxC ?_
      refine st_split (t := 50) S rfl ?_ ?_
      · clear S; intro h50 S
        refine st_condT S rfl ?_
        refine wp_exit ?_
        refine block_miss rfl ?_
        refine block_miss rfl ?_
        refine then_exit ?_
        refine then_exit ?_
        refine block_hit ?_
        refine then_normal ?_
        first
          | (refine ⟨k, hk, S.sub _ rfl, ⟨bv, vx, xlo, xhi, ?_⟩, .inl (by omega)⟩; rw [hp]; exact M)
          | (refine ⟨k, hk, S.sub _ rfl, ⟨bv, vx, xlo, xhi, ?_⟩, .inr (by rw [hp]; exact h50)⟩; rw [hp]; exact M)
      clear S; intro h50 S
      refine st_condF S rfl ?_
      refine nxD ?_
      refine st_go [1, 2] S rfl (by kernel_rfl) ?_; clear S a; intro a S
      refine st_y S rfl rfl rfl (y_indexA (m := 10) (sz := 1) S (by kernel_rfl) rfl rfl (by first | omega | (simp; done) | (simp; omega))) ?_; clear S a; intro a S
      try simp only [Int.toNat_natCast, Nat.mul_one, Nat.zero_add] at S
      refine st_y S rfl rfl rfl (y_load S (by kernel_rfl) rfl (M.cell 4 rfl (kd_get (by omega)))) ?_; clear S a; intro a S
      refine st_go [1] S rfl (by kernel_rfl) ?_; clear S a; intro a S
      refine nxC ?_
      refine st_tils (t := 55) S rfl ?_ ?_
      · clear S; intro h55 S
        refine st_condF S rfl ?_
        refine wp_skip ?_
        refine block_normal ?_
        refine block_normal ?_
        refine then_normal ?_
        first
          | (refine ⟨S.sub _ rfl, ?_⟩; rw [fldsP, if_pos h55, hp]; exact ⟨_, _, _, _, M⟩)
          | (refine ⟨S.sub _ rfl, ?_⟩; rw [fldsP, if_neg (by rw [h55]; decide), hp]; exact ⟨_, _, _, _, M⟩)
      clear S; intro h55 S
      refine st_condT S rfl ?_
      refine wp_region_lit ?_
      refine st_go [1, 1] S rfl (by kernel_rfl) ?_; clear S a; intro a S
      refine st_call (xs := [(Operand.tmp 60), (Operand.tmp 7), (Operand.tmp 61)]) S (enters_of Try.func67 (by decide) rfl) rfl rfl rfl (field_any k (by omega) (m := p.1) (x := p.2.1) (l := p.2.2.1) (sh := p.2.2.2) (by omega) M) ?_
      rintro _ w20 ⟨bv1, vx1, xlo1, xhi1, rfl, M1⟩; refine ⟨_, rfl, ?_⟩; clear S a; intro a S; replace M := M1; clear M1
      refine wpList_nil ?_
      refine block_normal ?_
      refine block_normal ?_
      refine then_normal ?_
      first
        | (refine ⟨S.sub _ rfl, ?_⟩; rw [fldsP, if_pos h55, hp]; exact ⟨_, _, _, _, M⟩)
        | (refine ⟨S.sub _ rfl, ?_⟩; rw [fldsP, if_neg (by rw [h55]; decide), hp]; exact ⟨_, _, _, _, M⟩)
    clear S a M; intro a wc
    rintro ⟨S, bv, vx, xlo, xhi, M⟩
    refine wp_region_lit ?_
    (first | refine st_y S rfl rfl rfl (y_addN S rfl rfl (by omega)) ?_ | refine st_y S rfl rfl rfl (y_int S rfl rfl rfl) ?_); clear S a; intro a S
    refine st_go [1] S rfl (by kernel_rfl) ?_; clear S a; intro a S
    refine nxC ?_
    exact ⟨10 - (k + 1), by omega, k + 1, by omega, rfl, S.sub _ rfl, bv, vx, xlo, xhi, M⟩
  clear S a M; intro a wc
  rintro ⟨k, hk, S, ⟨bv, vx, xlo, xhi, M⟩, hor⟩
  obtain ⟨p, hp⟩ : ∃ p, fldsP (khas p0.1.kind) k p0 = p := ⟨_, rfl⟩
  have hpl := fldsP_len (khas p0.1.kind) p0 hp0x hk
  rw [hp] at M hpl hor
  obtain ⟨m, x, l, sh⟩ := p
  simp only at M hpl hor
  obtain ⟨xa, xc, rfl, -, -⟩ := (M.readRow 3 rfl (by unfold maxLen; omega)).form
  refine wp_seq ?_
  refine nxD ?_
  refine st_run [1, 1, 2, 1] S M rfl (by kernel_rfl) ?_; clear S a; intro a S
  refine nxC ?_
  refine st_split (t := 67) S rfl ?_ ?_
  · clear S; intro h67 S
    refine st_condT S rfl ?_
    refine nxD ?_
    refine st_y S rfl rfl rfl (y_build (ps := []) (pl := [(0, 1), (1, 1), (2, 1), (3, 1), (4, 1), (5, 3), (8, 1), (9, 1), (10, 1), (11, 8), (19, 1), (20, 1), (21, 1), (22, 1), (23, 1)]) (z := [.int .i8 0, .int .i64 0, .int .i64 0, .int .i64 0, .int .i64 0, .int .i64 0, .int .i64 0, .int .i64 0, .int .i64 0, .int .i8 0, .int .i64 0, .int .u8 0, .int .u8 0, .int .u8 0, .int .u8 0, .int .u8 0, .int .u8 0, .int .u8 0, .int .u8 0, .int .i64 0, .bool false, .int .i64 0, .int .i64 0, .slice none 0 0]) (cs := [_, _, _, _, _, _, _, _, _, _, _, _, _, _, _, _, _, _, _, _, _, _, _, _]) S (by kernel_rfl) rfl (rfl)) ?_; clear S a; intro a S
    refine st_store (sz := 24) (us := [_, _, _, _, _, _, _, _, _, _, _, _, _, _, _, _, _, _, _, _, _, _, _, _]) S M 5 rfl (by kernel_rfl) rfl rfl rfl rfl rfl rfl (by first | decide | (simp; done) | (simp; omega)) ?_; clear M; intro w21 M
    simp only [putL, List.set_cons_zero, List.set_cons_succ, Nat.reduceAdd] at M
    refine st_go [1] S rfl (by kernel_rfl) ?_; clear S a; intro a S
    refine nxC ?_
    refine wp_ret ?_
    refine then_ret ?_
    refine sc_ret ?_
    refine end_two S rfl (res_agg (cs := [_, _, _, _, _, _, _, _, _, _, _, _, _, _, _, _, _, _, _, _, _, _, _, _]) (by kernel_rfl) rfl rfl (M.cellsAt (k := 24) 5 rfl rfl)) (res_tmp rfl) ?_
    refine readM_no M (fun m x hm he => ?_)
    obtain ⟨-, -, -, q⟩ := hpr hm he
    have q1 := q k hk
    rw [hp] at q1
    simp only at q1
    rw [q1] at h67; cases h67
  clear S; intro h67 S
  refine st_condF S rfl ?_
  refine wp_skip ?_
  refine then_normal ?_
  refine wp_seq ?_
  refine nxD ?_
  refine st_y S rfl rfl rfl (y_loadAgg (cs := [_, _, _, _, _, _, _, _, _, _, _, _, _, _, _, _, _, _, _, _, _, _, _, _]) S (by kernel_rfl) rfl rfl (M.cellsAt (k := 24) 2 rfl rfl)) ?_; clear S a; intro a S
  refine st_call (xs := [(Operand.tmp 70)]) S (enters_of Try.func19 (by decide) rfl) rfl rfl rfl (bytesM_any m xa x.length xc x _ (M.readAll 3 rfl (by unfold maxLen; omega)) (by omega)) ?_
  rintro _ w22 ⟨v7, rfl, hF2⟩; refine ⟨_, rfl, ?_⟩; clear S a; intro a S
  obtain ⟨lo2, hi2, -, M⟩ := M.pushFresh hF2
  refine st_go [1, 1, 1, 1, 1] S rfl (by kernel_rfl) ?_; clear S a; intro a S
  refine nxA ?_
  refine st_go [1, 1, 1] S rfl (by kernel_rfl) ?_; clear S a; intro a S
  refine st_split (t := 76) S rfl ?_ ?_
  · clear S; intro h76 S
    refine st_go [0, 0, 0, 0, 1] S rfl (by kernel_rfl) ?_; clear S a; intro a S
    replace S := S.sub [(0, _), (2, _), (6, _), (7, _), (67, _), (10, _), (11, _), (81, _)] rfl
    refine nxC ?_
    refine st_condT S rfl ?_
    refine nxD ?_
    refine st_y S rfl rfl rfl (y_build (ps := []) (pl := [(0, 1), (1, 1), (2, 1), (3, 1), (4, 1), (5, 3), (8, 1), (9, 1), (10, 1), (11, 8), (19, 1), (20, 1), (21, 1), (22, 1), (23, 1)]) (z := [.int .i8 0, .int .i64 0, .int .i64 0, .int .i64 0, .int .i64 0, .int .i64 0, .int .i64 0, .int .i64 0, .int .i64 0, .int .i8 0, .int .i64 0, .int .u8 0, .int .u8 0, .int .u8 0, .int .u8 0, .int .u8 0, .int .u8 0, .int .u8 0, .int .u8 0, .int .i64 0, .bool false, .int .i64 0, .int .i64 0, .slice none 0 0]) (cs := [_, _, _, _, _, _, _, _, _, _, _, _, _, _, _, _, _, _, _, _, _, _, _, _]) S (by kernel_rfl) rfl (rfl)) ?_; clear S a; intro a S
    refine st_store (sz := 24) (us := [_, _, _, _, _, _, _, _, _, _, _, _, _, _, _, _, _, _, _, _, _, _, _, _]) S M 6 rfl (by kernel_rfl) rfl rfl rfl rfl rfl rfl (by first | decide | (simp; done) | (simp; omega)) ?_; clear M; intro w23 M
    simp only [putL, List.set_cons_zero, List.set_cons_succ, Nat.reduceAdd] at M
    refine st_go [1] S rfl (by kernel_rfl) ?_; clear S a; intro a S
    refine nxC ?_
    refine wp_ret ?_
    refine then_ret ?_
    refine sc_ret ?_
    refine end_two S rfl (res_agg (cs := [_, _, _, _, _, _, _, _, _, _, _, _, _, _, _, _, _, _, _, _, _, _, _, _]) (by kernel_rfl) rfl rfl (M.cellsAt (k := 24) 6 rfl rfl)) (res_tmp rfl) ?_
    refine readM_no M (fun m' x' hm he => ?_)
    obtain ⟨-, -, q, -⟩ := hpr hm he
    obtain rfl : k = 10 := by
      rcases hor with h | h
      · exact h
      · rw [h] at h67; cases h67
    rw [hp] at q
    simp only [Prod.mk.injEq] at q
    obtain ⟨rfl, rfl, -⟩ := q
    first
      | (rw [if_pos hm] at h76; simp at h76; done)
      | (rw [ifL_pos hm, he] at h81; simp at h81; done)
  clear S; intro h76 S
  refine st_go [1, 1] S rfl (by kernel_rfl) ?_; clear S a; intro a S
  refine st_call (xs := [(Operand.tmp 77), (Operand.tmp 78)]) S (enters_of Try.func68 (by decide) rfl) rfl rfl rfl (equalB_any _ _ (ifL (m.may x = true) (sealB (m.enc x))) bs _ (M.readAll 0 rfl (encM_len m x (by omega))) (M.argW hv)) ?_
  rintro _ w24 ⟨rfl, hK⟩; refine ⟨_, rfl, ?_⟩; clear S a; intro a S; replace M := M.grow hK
  refine st_go [1, 1] S rfl (by kernel_rfl) ?_; clear S a; intro a S
  replace S := S.sub [(0, _), (2, _), (6, _), (7, _), (67, _), (10, _), (11, _), (81, _)] rfl
  refine nxC ?_
  refine st_tils (t := 81) S rfl ?_ ?_
  · clear S; intro h81 S
    refine st_condF S rfl ?_
    refine wp_skip ?_
    refine nxE ?_
    refine st_y S rfl rfl rfl (y_loadAgg (cs := [_, _, _, _, _, _, _, _, _, _, _, _, _, _, _, _, _, _, _, _, _, _, _, _]) S (by kernel_rfl) rfl rfl (M.cellsAt (k := 24) 3 rfl rfl)) ?_; clear S a; intro a S
    refine st_store (sz := 24) (us := [_, _, _, _, _, _, _, _, _, _, _, _, _, _, _, _, _, _, _, _, _, _, _, _]) S M 6 rfl (by kernel_rfl) rfl rfl rfl rfl rfl rfl (by first | decide | (simp; done) | (simp; omega)) ?_; clear M; intro w26 M
    simp only [putL, List.set_cons_zero, List.set_cons_succ, Nat.reduceAdd] at M
    refine st_go [1] S rfl (by kernel_rfl) ?_; clear S a; intro a S
    refine nxC ?_
    refine wp_ret ?_
    refine sc_ret ?_
    refine end_two S rfl (res_agg (cs := [_, _, _, _, _, _, _, _, _, _, _, _, _, _, _, _, _, _, _, _, _, _, _, _]) (by kernel_rfl) rfl rfl (M.cellsAt (k := 24) 6 rfl rfl)) (res_tmp rfl) ?_
    have hm : m.may x = true := by
      cases hm : m.may x with
      | true => rfl
      | false => rw [hm] at h76; simp at h76
    have he : sealB (m.enc x) = bs := by rw [ifL_pos hm] at h81; simpa using h81
    exact ⟨m, x, _, 0, rfl, M.fresh 4 rfl, hpl, .inl ⟨rfl, hm, he⟩⟩
  clear S; intro h81 S
  refine st_condT S rfl ?_
  refine nxD ?_
  refine st_y S rfl rfl rfl (y_build (ps := []) (pl := [(0, 1), (1, 1), (2, 1), (3, 1), (4, 1), (5, 3), (8, 1), (9, 1), (10, 1), (11, 8), (19, 1), (20, 1), (21, 1), (22, 1), (23, 1)]) (z := [.int .i8 0, .int .i64 0, .int .i64 0, .int .i64 0, .int .i64 0, .int .i64 0, .int .i64 0, .int .i64 0, .int .i64 0, .int .i8 0, .int .i64 0, .int .u8 0, .int .u8 0, .int .u8 0, .int .u8 0, .int .u8 0, .int .u8 0, .int .u8 0, .int .u8 0, .int .i64 0, .bool false, .int .i64 0, .int .i64 0, .slice none 0 0]) (cs := [_, _, _, _, _, _, _, _, _, _, _, _, _, _, _, _, _, _, _, _, _, _, _, _]) S (by kernel_rfl) rfl (rfl)) ?_; clear S a; intro a S
  refine st_store (sz := 24) (us := [_, _, _, _, _, _, _, _, _, _, _, _, _, _, _, _, _, _, _, _, _, _, _, _]) S M 6 rfl (by kernel_rfl) rfl rfl rfl rfl rfl rfl (by first | decide | (simp; done) | (simp; omega)) ?_; clear M; intro w25 M
  simp only [putL, List.set_cons_zero, List.set_cons_succ, Nat.reduceAdd] at M
  refine st_go [1] S rfl (by kernel_rfl) ?_; clear S a; intro a S
  refine nxC ?_
  refine wp_ret ?_
  refine then_ret ?_
  refine sc_ret ?_
  refine end_two S rfl (res_agg (cs := [_, _, _, _, _, _, _, _, _, _, _, _, _, _, _, _, _, _, _, _, _, _, _, _]) (by kernel_rfl) rfl rfl (M.cellsAt (k := 24) 6 rfl rfl)) (res_tmp rfl) ?_
  refine readM_no M (fun m' x' hm he => ?_)
  obtain ⟨-, -, q, -⟩ := hpr hm he
  obtain rfl : k = 10 := by
    rcases hor with h | h
    · exact h
    · rw [h] at h67; cases h67
  rw [hp] at q
  simp only [Prod.mk.injEq] at q
  obtain ⟨rfl, rfl, -⟩ := q
  first
    | (rw [if_pos hm] at h76; simp at h76; done)
    | (rw [ifL_pos hm, he] at h81; simp at h81; done)

end Go.Proofs.Ytojgcgaoajfihaa
