/-
  Package coord: Hear, Tick, Kept.
-/
import Derived.Test.YtidpeojkkfmgeaaCg
namespace Go.Proofs.Ytidpeojkkfmgeaa
open Go.RowKit Go.Sort

abbrev Out := Dl × Mls × Kl × El
/-- what a call tells: a machine, what it says -/
def OutP (lo hi : Nat) (w : World) (cv mv kv ev : Value) (r : Out) : Prop :=
  (∃ cs, RowC drS cs lo hi w cv r.1) ∧ (∃ cs, RowC msS cs lo hi w mv r.2.1) ∧ (∃ cs, RowC rcS cs lo hi w kv r.2.2.1) ∧ (∃ cs, RowC edS cs lo hi w ev r.2.2.2)
theorem OutP.same {lo hi : Nat} {w w' : World} {cv mv kv ev : Value} {r : Out} (h : OutP lo hi w cv mv kv ev r) (hs : SameOn lo hi w w') : OutP lo hi w' cv mv kv ev r := by
  obtain ⟨⟨c1, h1⟩, ⟨c2, h2⟩, ⟨c3, h3⟩, ⟨c4, h4⟩⟩ := h
  exact ⟨⟨c1, h1.same hs⟩, ⟨c2, h2.same hs⟩, ⟨c3, h3.same hs⟩, ⟨c4, h4.same hs⟩⟩
theorem OutP.wide {lo hi lo' hi' : Nat} {w : World} {cv mv kv ev : Value} {r : Out} (h : OutP lo hi w cv mv kv ev r) (h1 : lo' ≤ lo) (h2 : hi ≤ hi') : OutP lo' hi' w cv mv kv ev r := by
  obtain ⟨⟨c1, g1⟩, ⟨c2, g2⟩, ⟨c3, g3⟩, ⟨c4, g4⟩⟩ := h
  exact ⟨⟨c1, g1.wide h1 h2⟩, ⟨c2, g2.wide h1 h2⟩, ⟨c3, g3.wide h1 h2⟩, ⟨c4, g4.wide h1 h2⟩⟩
theorem OutP.nil {lo hi : Nat} {w : World} : OutP lo hi w (.slice none 0 0) (.slice none 0 0) (.slice none 0 0) (.slice none 0 0) ([], [], [], []) := ⟨⟨_, RowC.nil⟩, ⟨_, RowC.nil⟩, ⟨_, RowC.nil⟩, ⟨_, RowC.nil⟩⟩
theorem OutP.form {lo hi : Nat} {w : World} {cv mv kv ev : Value} {r : Out} (h : OutP lo hi w cv mv kv ev r) :
    ∃ la lc ma mc ka kc ea ec, cv = .slice la r.1.length lc ∧ mv = .slice ma r.2.1.length mc ∧ kv = .slice ka r.2.2.1.length kc ∧ ev = .slice ea r.2.2.2.length ec := by
  obtain ⟨⟨c1, g1⟩, ⟨c2, g2⟩, ⟨c3, g3⟩, ⟨c4, g4⟩⟩ := h
  obtain ⟨la, lc, rfl, -, -⟩ := g1.1.form
  obtain ⟨ma, mc, rfl, -, -⟩ := g2.1.form
  obtain ⟨ka, kc, rfl, -, -⟩ := g3.1.form
  obtain ⟨ea, ec, rfl, -, -⟩ := g4.1.form
  exact ⟨la, lc, ma, mc, ka, kc, ea, ec, rfl, rfl, rfl, rfl⟩
/-- a call's result, an error beside -/
def ResP (w : World) (e : Ending) (w' : World) (er : Int) (r : Out) : Prop :=
  ∃ cv mv kv ev, e = .returned (.tuple #[.agg #[cv], .agg #[mv, kv, ev], .int .i64 er]) ∧ Below w.heap.size w w' ∧ OutP w.heap.size w'.heap.size w' cv mv kv ev r
theorem res_nil {w w' : World} {er : Int} (h : Below w.heap.size w w') : ResP w (.returned (.tuple #[.agg #[.slice none 0 0], .agg #[.slice none 0 0, .slice none 0 0, .slice none 0 0], .int .i64 er])) w' er ([], [], [], []) := ⟨_, _, _, _, rfl, h, OutP.nil⟩
theorem checkE_any {E : Int} (va : Option Addr) (vc : Nat) (cs : List Value) (ds : Dl) (hE : E = if machB ds = true then 0 else 2) (w : World) (hv : RowC drS cs 0 w.heap.size w (.slice va ds.length vc) ds) (hb : ∀ q ∈ ds, q.1.shards ≤ 9223372036854775807) :
    Calls Try.prog 7 #[.agg #[.slice va ds.length vc]] w fun e w' => e = .returned (.int .i64 E) ∧ Below w.heap.size w w' := by subst hE; exact check21_any va vc cs ds w hv hb
theorem machE (ds : Dl) : ∃ E : Int, E = (if machB ds = true then 0 else 2) ∧ (E = 0 ∧ machB ds = true ∨ E = 2 ∧ ¬ machB ds = true) := by
  by_cases h : machB ds = true
  · exact ⟨0, by rw [if_pos h], .inl ⟨rfl, h⟩⟩
  · exact ⟨2, by rw [if_neg h], .inr ⟨rfl, h⟩⟩
theorem mach_short {ds : Dl} (h : machB ds = true) : ds.length ≤ 8 ∧ ∀ q ∈ ds, q.2.length ≤ 1000000 := by
  obtain ⟨h1, h2, -⟩ := machB_iff.1 h
  refine ⟨h1, fun q hq => ?_⟩
  have := (drOk_iff.1 (h2 q hq)).2.2.2.2.2.2.2.2
  unfold writesB writtenB at this
  simp at this
  omega
section
variable {wc w w2 w3 : World} {H Hm : List Ent} {b : Nat} {ds : Dl} {ml : Mls} {kl : Kl} {el : El} {es : List Ent}
theorem MacE.beh (W : MacE w2 w3 [] b ds ml kl el es) (M : Mem w w2 Hm) : MacE w w3 Hm b ds ml kl el es := by
  obtain ⟨la, ln, lc, llo, lhi, lcs, ma, mc, mlo, mhi, mcs, ka, kc, klo, khi, kcs, ea, ec, elo, ehi, ecs, hln, M', h1⟩ := W
  exact ⟨la, ln, lc, llo, lhi, lcs, ma, mc, mlo, mhi, mcs, ka, kc, klo, khi, kcs, ea, ec, elo, ehi, ecs, hln, (M.join M').perm (((((List.perm_append_comm.cons _).cons _).cons _).cons _).cons _), h1⟩
/-- the rows that a machine's own memory holds -/
theorem out_of {lcs mcs kcs ecs : List Value} {lv mv kv ev : Value} {llo lhi mlo mhi klo khi elo ehi : Nat} (M : Mem w w3 H) (h1 : rowE llo lhi 59 10 lv ds.length lcs ∈ H) (h2 : rowE mlo mhi 36 24 mv ml.length mcs ∈ H) (h3 : rowE klo khi 97 12 kv kl.length kcs ∈ H) (h4 : rowE elo ehi 66 4 ev el.length ecs ∈ H)
    (he : ∀ e ∈ es, e ∈ H) (hD : BkG drS lcs ds es) (hM : BkG msS mcs ml es) (hK : BkG rcS kcs kl es) (hE : BkG edS ecs el es) (l1 : ds.length ≤ maxLen) (l2 : ml.length ≤ maxLen) (l3 : kl.length ≤ maxLen) (l4 : el.length ≤ maxLen) : OutP w.heap.size w3.heap.size w3 lv mv kv ev (ds, ml, kl, el) :=
  ⟨⟨_, hD.rowC M h1 he l1⟩, ⟨_, hM.rowC M h2 he l2⟩, ⟨_, hK.rowC M h3 he l3⟩, ⟨_, hE.rowC M h4 he l4⟩⟩
end
theorem bits_small (n : Int) : (bitsK n 4).length ≤ 4 := bitsK_len n 4
/-- what a message makes say is short -/
theorem hear_short {ds : Dl} {m : Msg} {r : Out} (h : HearP ds m r) : r.1.length ≤ ds.length ∧ r.2.1.length ≤ 4 ∧ r.2.2.1.length ≤ 1 ∧ r.2.2.2.length ≤ 1 := by
  have hb := bits_small
  have he : ∀ (k : Nat), (ds.eraseIdx k).length ≤ ds.length := fun k => by rw [List.length_eraseIdx]; split <;> omega
  rcases h with ⟨k, q, -, -, rfl⟩ | ⟨-, rfl⟩
  · unfold hear1 hear2
    repeat' split
    all_goals (simp [hb, he])
  · unfold hear0
    split <;> simp [hb]

/-- may this message be heard? -/
def hearsM (m : Msg) (x : List Wr) : Prop := m.may x = true ∧ (m.kind = 5 ∨ m.kind = 7 ∨ m.kind = 8)
theorem may_from {m : Msg} {x : List Wr} (h : m.may x = true) (hk : m.kind = 5 ∨ m.kind = 7 ∨ m.kind = 8) : 1 ≤ m.frm ∧ m.frm ≤ 4 := by
  unfold Msg.may at h
  split at h
  · rename_i h1
    have h2 := h1.2.2.1
    have hd : kdown m.kind = false := by unfold kdown; rcases hk with h | h | h <;> rw [h] <;> rfl
    rw [hd] at h2
    unfold betweenB at h2
    simp at h2
    omega
  · cases h
set_option maxHeartbeats 1000000 in
theorem hearC_any (va : Option Addr) (vc : Nat) (cs : List Value) (ds : Dl) (m : Msg) (ml : Value) (x : List Wr) (w : World) (hv : RowC drS cs 0 w.heap.size w (.slice va ds.length vc) ds) (hb : ∀ q ∈ ds, q.1.shards ≤ 9223372036854775807) (hw : Ws 0 w.heap.size w ml x) :
    Calls Try.prog 9 #[.agg #[.slice va ds.length vc], .agg (m.cells ml)] w fun e w' => ∃ er r, ResP w e w' er r ∧ ((er = 0 ∧ machB ds = true ∧ hearsM m x ∧ HearP ds m r) ∨ (er = 2 ∧ ¬ (machB ds = true ∧ hearsM m x) ∧ r = ([], [], [], []))) := by
  obtain ⟨xa, xc, rfl, -, -⟩ := hw.form
  obtain ⟨E, hE, hE0⟩ := machE ds
  have M := Mem.start w
  refine calls_enter Try.func9 rfl 46 rfl rfl ?_; intro a S
  refine nxD ?_
  refine st_box S M rfl rfl rfl #[_] rfl ?_; clear S M a; intro a w1 bC S M hB
  refine st_box S M rfl rfl rfl #[_, _, _, _, _, _, _, _, _, _, _, _, _, _, _, _, _, _, _, _, _, _, _, _] rfl ?_; clear S M a; intro a w2 bX S M hB
  refine st_alloc S M rfl rfl #[.slice none 0 0] (by kernel_rfl) ?_; clear S M a; intro a w3 bR S M hB
  refine st_alloc S M rfl rfl #[.slice none 0 0, .slice none 0 0, .slice none 0 0] (by kernel_rfl) ?_; clear S M a; intro a w4 bT S M hB
  refine st_go [1] S rfl (by kernel_rfl) ?_; clear S a; intro a S
  refine nxC ?_
  refine wp_seq ?_
  refine nxD ?_
  refine st_y S rfl rfl rfl (y_loadAgg (cs := [_]) S (by kernel_rfl) rfl rfl (M.cellsAt (k := 1) 3 rfl rfl)) ?_; clear S a; intro a S
  refine st_call (xs := [(Operand.tmp 8)]) S (enters_of Try.func7 (by decide) rfl) rfl rfl rfl (checkE_any va vc cs ds hE _ (M.rowsW hv) hb) ?_
  rintro _ w5 ⟨rfl, hK⟩; refine ⟨_, rfl, ?_⟩; clear S a; intro a S; replace M := M.grow hK
  refine st_go [1, 1] S rfl (by kernel_rfl) ?_; clear S a; intro a S
  refine st_if (t := 11) S rfl ?_ ?_
  · clear S; intro h11 S
    refine st_go [0, 0, 0, 1] S rfl (by kernel_rfl) ?_; clear S a; intro a S
    refine nxC ?_
    refine st_condT S rfl ?_
    refine nxD ?_
    refine st_y S rfl rfl rfl (y_build (ps := []) (pl := [(0, 1)]) (z := [.slice none 0 0]) (cs := [_]) S (by kernel_rfl) rfl (rfl)) ?_; clear S a; intro a S
    refine st_y S rfl rfl rfl (y_build (ps := []) (pl := [(0, 1), (1, 1), (2, 1)]) (z := [.slice none 0 0, .slice none 0 0, .slice none 0 0]) (cs := [_, _, _]) S (by kernel_rfl) rfl (rfl)) ?_; clear S a; intro a S
    refine st_store (sz := 1) (us := [_]) S M 1 rfl (by kernel_rfl) rfl rfl rfl rfl rfl rfl (by first | decide | (simp; done) | (simp; omega)) ?_; clear M; intro w6 M
    simp only [putL, List.set_cons_zero, List.set_cons_succ, Nat.reduceAdd] at M
    refine st_store (sz := 3) (us := [_, _, _]) S M 0 rfl (by kernel_rfl) rfl rfl rfl rfl rfl rfl (by first | decide | (simp; done) | (simp; omega)) ?_; clear M; intro w7 M
    simp only [putL, List.set_cons_zero, List.set_cons_succ, Nat.reduceAdd] at M
    refine st_go [1] S rfl (by kernel_rfl) ?_; clear S a; intro a S
    refine nxC ?_
    refine wp_ret ?_
    refine then_ret ?_
    refine end_three S rfl (res_agg (cs := [_]) (by kernel_rfl) rfl rfl (M.cellsAt (k := 1) 1 rfl rfl)) (res_agg (cs := [_, _, _]) (by kernel_rfl) rfl rfl (M.cellsAt (k := 3) 0 rfl rfl)) (res_tmp rfl) ?_
    refine ⟨2, _, res_nil M.below, .inr ⟨rfl, ?_, rfl⟩⟩
    clear S M; rintro ⟨g1, g2, -⟩; (first | (rcases hE0 with ⟨h, -⟩ | ⟨-, h⟩ <;> omega) | simp_all)
  clear S; intro h11 S
  refine st_y S rfl rfl rfl (y_loadAgg (cs := [_, _, _, _, _, _, _, _, _, _, _, _, _, _, _, _, _, _, _, _, _, _, _, _]) S (by kernel_rfl) rfl rfl (M.cellsAt (k := 24) 2 rfl rfl)) ?_; clear S a; intro a S
  refine st_call (xs := [(Operand.tmp 12)]) S (enters_of Try.func24 (by decide) rfl) rfl rfl rfl (mayM_any m _ _ _ x _ (M.argW hw)) ?_
  rintro _ w8 ⟨rfl, hK⟩; refine ⟨_, rfl, ?_⟩; clear S a; intro a S; replace M := M.grow hK
  refine st_go [1, 1] S rfl (by kernel_rfl) ?_; clear S a; intro a S
  refine nxC ?_
  refine st_if (t := 15) S rfl ?_ ?_
  · clear S; intro h15 S
    refine st_condT S rfl ?_
    refine nxD ?_
    refine st_y S rfl rfl rfl (y_build (ps := []) (pl := [(0, 1)]) (z := [.slice none 0 0]) (cs := [_]) S (by kernel_rfl) rfl (rfl)) ?_; clear S a; intro a S
    refine st_y S rfl rfl rfl (y_build (ps := []) (pl := [(0, 1), (1, 1), (2, 1)]) (z := [.slice none 0 0, .slice none 0 0, .slice none 0 0]) (cs := [_, _, _]) S (by kernel_rfl) rfl (rfl)) ?_; clear S a; intro a S
    refine st_store (sz := 1) (us := [_]) S M 1 rfl (by kernel_rfl) rfl rfl rfl rfl rfl rfl (by first | decide | (simp; done) | (simp; omega)) ?_; clear M; intro w9 M
    simp only [putL, List.set_cons_zero, List.set_cons_succ, Nat.reduceAdd] at M
    refine st_store (sz := 3) (us := [_, _, _]) S M 0 rfl (by kernel_rfl) rfl rfl rfl rfl rfl rfl (by first | decide | (simp; done) | (simp; omega)) ?_; clear M; intro w10 M
    simp only [putL, List.set_cons_zero, List.set_cons_succ, Nat.reduceAdd] at M
    refine st_go [1] S rfl (by kernel_rfl) ?_; clear S a; intro a S
    refine nxC ?_
    refine wp_ret ?_
    refine then_ret ?_
    refine end_three S rfl (res_agg (cs := [_]) (by kernel_rfl) rfl rfl (M.cellsAt (k := 1) 1 rfl rfl)) (res_agg (cs := [_, _, _]) (by kernel_rfl) rfl rfl (M.cellsAt (k := 3) 0 rfl rfl)) (res_tmp rfl) ?_
    refine ⟨2, _, res_nil M.below, .inr ⟨rfl, ?_, rfl⟩⟩
    clear S M; rintro ⟨g1, g2, -⟩; (first | (rcases hE0 with ⟨h, -⟩ | ⟨-, h⟩ <;> omega) | simp_all)
  clear S; intro h15 S
  refine st_condF S rfl ?_
  refine wp_skip ?_
  refine then_normal ?_
  refine wp_seq ?_
  refine nxD ?_
  refine st_run [1, 3, 1, 1] S M rfl (by kernel_rfl) ?_; clear S a; intro a S
  refine st_fi (t := 21) S rfl ?_ ?_
  · clear S; intro h21 S
    refine st_go [0, 0, 0, 1, 1, 0, 0, 0, 1] S rfl (by kernel_rfl) ?_; clear S a; intro a S
    replace S := S.sub [(0, _), (1, _), (2, _), (3, _), (4, _), (5, _), (6, _), (15, _), (30, _)] rfl
    refine nxC ?_
    refine st_condF S rfl ?_
    refine wp_skip ?_
    refine then_normal ?_
    refine wp_seq ?_
    have hmac : machB ds = true := by
      rcases hE0 with ⟨-, h⟩ | ⟨h, -⟩
      · exact h
      · exfalso; omega
    have hks : m.kind = 5 ∨ m.kind = 7 ∨ m.kind = 8 := by omega
    have hmay : m.may x = true := by simp_all
    obtain ⟨hl8, hx8⟩ := mach_short hmac
    have hfr := may_from hmay hks
    refine wp_region_lit ?_
    refine st_y S rfl rfl rfl (y_loadAgg (cs := [_]) S (by kernel_rfl) rfl rfl (M.cellsAt (k := 1) 3 rfl rfl)) ?_; clear S a; intro a S
    refine st_call (xs := [(Operand.tmp 33)]) S (enters_of Try.func25 (by decide) rfl) rfl rfl rfl (begin_any va vc cs ds _ (M.rowsW hv) (by omega) hx8) ?_
    rintro _ w23 ⟨bB, es, rfl, W1⟩; refine ⟨_, rfl, ?_⟩; clear S a; intro a S; replace W1 := W1.beh M; clear M; have W2 := W1
    obtain ⟨la, ln, lc, llo, lhi, lcs, ma, mc, mlo, mhi, mcs, ka, kc, klo, khi, kcs, ea, ec, elo, ehi, ecs, hln, M, hD, hM, hK0, hEn⟩ := W2
    subst hln
    refine st_go [1] S rfl (by kernel_rfl) ?_; clear S a; intro a S
    refine nxA ?_
    refine st_go [1] S rfl (by kernel_rfl) ?_; clear S a; intro a S
    refine st_y S rfl rfl rfl (y_loadAgg (cs := [_, _, _, _, _, _, _, _, _, _, _, _, _, _, _, _, _, _, _, _, _, _, _, _]) S (by kernel_rfl) rfl rfl (M.cellsAt (k := 24) 7 rfl rfl)) ?_; clear S a; intro a S
    refine st_call (xs := [(Operand.tmp 35), (Operand.tmp 36)]) S (enters_of Try.func26 (by decide) rfl) rfl rfl rfl (hear_any W1 hmac m _ (by omega)) ?_
    rintro _ w24 ⟨rfl, r, es2, hR, W2⟩; refine ⟨_, rfl, ?_⟩; clear S a M hD hM hK0 hEn; intro a S
    obtain ⟨r1, r2, r3, r4⟩ := r
    obtain ⟨la, ln, lc, llo, lhi, lcs, ma, mc, mlo, mhi, mcs, ka, kc, klo, khi, kcs, ea, ec, elo, ehi, ecs, hln, M, hD, hM, hK0, hEn⟩ := W2
    simp only at hln M hD hM hK0 hEn
    subst hln
    refine nxC ?_
    refine wp_seq ?_
    refine wp_regionKC (C := fun W => Blk W bB #[.slice la r1.length lc, .slice ma r2.length mc, .slice ka r3.length kc, .slice ea r4.length ec] 71) [8, 9] #[false, false, false, false, false, false, false, false, false, false, false] rfl M (by kernel_rfl) ?_; clear M; intro w25 M; have hC := M.blk 0 rfl
    refine kc_readC (listed' := #[true, false, false, false, false, false, false, false, false, false, false]) 0 S rfl rfl rfl rfl (by kernel_rfl) rfl (fun _ d _ _ _ h => by cases d <;> exact h) hC (fun w _ => y_move S rfl) ?_; clear S a; intro a S
    refine kc_readC (listed' := #[true, true, false, false, false, false, false, false, false, false, false]) 1 S rfl rfl rfl rfl (by kernel_rfl) rfl (fun _ d _ _ _ h => by cases d <;> exact h) hC (fun w _ => y_nilCheck S rfl) ?_; clear S a; intro a S
    refine kc_readC (listed' := #[true, true, true, false, false, false, false, false, false, false, false]) 2 S rfl rfl rfl rfl (by kernel_rfl) rfl (fun _ d _ _ _ h => by cases d <;> exact h) hC (fun w _ => y_fieldAddr (k := 0) S (by kernel_rfl) rfl) ?_; clear S a; intro a S
    refine kc_readC (listed' := #[true, true, true, true, false, false, false, false, false, false, false]) 3 S rfl rfl rfl rfl (by kernel_rfl) rfl (fun _ d _ _ _ h => by cases d <;> exact h) hC (fun w hC => y_loadAgg (cs := [_]) S (by kernel_rfl) rfl rfl (Blk.cellsAt (o := 0) (k := 1) hC rfl)) ?_; clear S a; intro a S
    refine kc_readC (listed' := #[true, true, true, true, true, false, false, false, false, false, false]) 4 S rfl rfl rfl rfl (by kernel_rfl) rfl (fun _ d _ _ _ h => by cases d <;> exact h) hC (fun w _ => y_move S rfl) ?_; clear S a; intro a S
    refine kc_readC (listed' := #[true, true, true, true, true, true, false, false, false, false, false]) 5 S rfl rfl rfl rfl (by kernel_rfl) rfl (fun _ d _ _ _ h => by cases d <;> exact h) hC (fun w _ => y_nilCheck S rfl) ?_; clear S a; intro a S
    refine kc_readC (listed' := #[true, true, true, true, true, true, true, false, false, false, false]) 6 S rfl rfl rfl rfl (by kernel_rfl) rfl (fun _ d _ _ _ h => by cases d <;> exact h) hC (fun w _ => y_fieldAddr (k := 1) S (by kernel_rfl) rfl) ?_; clear S a; intro a S
    refine kc_readC (listed' := #[true, true, true, true, true, true, true, true, false, false, false]) 7 S rfl rfl rfl rfl (by kernel_rfl) rfl (fun _ d _ _ _ h => by cases d <;> exact h) hC (fun w hC => y_loadAgg (cs := [_, _, _]) S (by kernel_rfl) rfl rfl (Blk.cellsAt (o := 1) (k := 3) hC rfl)) ?_; clear S a; intro a S
    refine kc_one (listed' := #[true, true, true, true, true, true, true, true, true, false, false]) 8 rfl (by kernel_rfl) rfl ?_
    refine st_store (sz := 1) (us := [_]) S M 6 rfl (by kernel_rfl) rfl rfl rfl rfl rfl rfl (by first | decide | (simp; done) | (simp; omega)) ?_; clear M; intro w26 M
    simp only [putL, List.set_cons_zero, List.set_cons_succ, Nat.reduceAdd] at M
    replace hC := M.blk 0 rfl
    refine wpList_nil ?_; refine then_normal ?_; refine ⟨fun h => absurd h (by decide), hC, ?_⟩
    refine kc_one (listed' := #[true, true, true, true, true, true, true, true, true, true, false]) 9 rfl (by kernel_rfl) rfl ?_
    refine st_store (sz := 3) (us := [_, _, _]) S M 5 rfl (by kernel_rfl) rfl rfl rfl rfl rfl rfl (by first | decide | (simp; done) | (simp; omega)) ?_; clear M; intro w27 M
    simp only [putL, List.set_cons_zero, List.set_cons_succ, Nat.reduceAdd] at M
    replace hC := M.blk 0 rfl
    refine wpList_nil ?_; refine then_normal ?_; refine ⟨fun h => absurd h (by decide), hC, ?_⟩
    refine kc_readC (listed' := #[true, true, true, true, true, true, true, true, true, true, true]) 10 S rfl rfl rfl rfl (by kernel_rfl) rfl (fun _ d _ _ _ h => by cases d <;> exact h) hC (fun w _ => y_assign S rfl) ?_; clear S a; intro a S
    refine kc_end (by kernel_rfl) ?_
    replace S := S.sub [(0, _), (1, _), (2, _), (3, _), (4, _), (5, _), (15, _), (30, _), (7, _), (6, _)] rfl
    refine then_normal ?_
    refine wp_ret ?_
    refine end_three S rfl (res_agg (cs := [_]) (by kernel_rfl) rfl rfl (M.cellsAt (k := 1) 6 rfl rfl)) (res_agg (cs := [_, _, _]) (by kernel_rfl) rfl rfl (M.cellsAt (k := 3) 5 rfl rfl)) (res_tmp rfl) ?_
    have hsh := hear_short hR
    simp only at hsh
    exact ⟨0, (r1, r2, r3, r4), ⟨_, _, _, _, rfl, M.below, out_of M (List.mem_of_getElem? (show _[1]? = _ from rfl)) (List.mem_of_getElem? (show _[2]? = _ from rfl)) (List.mem_of_getElem? (show _[3]? = _ from rfl)) (List.mem_of_getElem? (show _[4]? = _ from rfl)) (fun e he => by simp [he]) hD hM hK0 hEn (by unfold maxLen; omega) (by unfold maxLen; omega) (by unfold maxLen; omega) (by unfold maxLen; omega)⟩, .inl ⟨rfl, hmac, ⟨hmay, hks⟩, hR⟩⟩
  clear S; intro h21 S
  refine st_run [1, 3, 1, 1, 1] S M rfl (by kernel_rfl) ?_; clear S a; intro a S
  refine st_fi (t := 26) S rfl ?_ ?_
  · clear S; intro h26 S
    refine st_go [0, 0, 0, 1] S rfl (by kernel_rfl) ?_; clear S a; intro a S
    replace S := S.sub [(0, _), (1, _), (2, _), (3, _), (4, _), (5, _), (6, _), (15, _), (30, _)] rfl
    refine nxC ?_
    refine st_condF S rfl ?_
    refine wp_skip ?_
    refine then_normal ?_
    refine wp_seq ?_
    have hmac : machB ds = true := by
      rcases hE0 with ⟨-, h⟩ | ⟨h, -⟩
      · exact h
      · exfalso; omega
    have hks : m.kind = 5 ∨ m.kind = 7 ∨ m.kind = 8 := by omega
    have hmay : m.may x = true := by simp_all
    obtain ⟨hl8, hx8⟩ := mach_short hmac
    have hfr := may_from hmay hks
    refine wp_region_lit ?_
    refine st_y S rfl rfl rfl (y_loadAgg (cs := [_]) S (by kernel_rfl) rfl rfl (M.cellsAt (k := 1) 3 rfl rfl)) ?_; clear S a; intro a S
    refine st_call (xs := [(Operand.tmp 33)]) S (enters_of Try.func25 (by decide) rfl) rfl rfl rfl (begin_any va vc cs ds _ (M.rowsW hv) (by omega) hx8) ?_
    rintro _ w18 ⟨bB, es, rfl, W1⟩; refine ⟨_, rfl, ?_⟩; clear S a; intro a S; replace W1 := W1.beh M; clear M; have W2 := W1
    obtain ⟨la, ln, lc, llo, lhi, lcs, ma, mc, mlo, mhi, mcs, ka, kc, klo, khi, kcs, ea, ec, elo, ehi, ecs, hln, M, hD, hM, hK0, hEn⟩ := W2
    subst hln
    refine st_go [1] S rfl (by kernel_rfl) ?_; clear S a; intro a S
    refine nxA ?_
    refine st_go [1] S rfl (by kernel_rfl) ?_; clear S a; intro a S
    refine st_y S rfl rfl rfl (y_loadAgg (cs := [_, _, _, _, _, _, _, _, _, _, _, _, _, _, _, _, _, _, _, _, _, _, _, _]) S (by kernel_rfl) rfl rfl (M.cellsAt (k := 24) 7 rfl rfl)) ?_; clear S a; intro a S
    refine st_call (xs := [(Operand.tmp 35), (Operand.tmp 36)]) S (enters_of Try.func26 (by decide) rfl) rfl rfl rfl (hear_any W1 hmac m _ (by omega)) ?_
    rintro _ w19 ⟨rfl, r, es2, hR, W2⟩; refine ⟨_, rfl, ?_⟩; clear S a M hD hM hK0 hEn; intro a S
    obtain ⟨r1, r2, r3, r4⟩ := r
    obtain ⟨la, ln, lc, llo, lhi, lcs, ma, mc, mlo, mhi, mcs, ka, kc, klo, khi, kcs, ea, ec, elo, ehi, ecs, hln, M, hD, hM, hK0, hEn⟩ := W2
    simp only at hln M hD hM hK0 hEn
    subst hln
    refine nxC ?_
    refine wp_seq ?_
    refine wp_regionKC (C := fun W => Blk W bB #[.slice la r1.length lc, .slice ma r2.length mc, .slice ka r3.length kc, .slice ea r4.length ec] 71) [8, 9] #[false, false, false, false, false, false, false, false, false, false, false] rfl M (by kernel_rfl) ?_; clear M; intro w20 M; have hC := M.blk 0 rfl
    refine kc_readC (listed' := #[true, false, false, false, false, false, false, false, false, false, false]) 0 S rfl rfl rfl rfl (by kernel_rfl) rfl (fun _ d _ _ _ h => by cases d <;> exact h) hC (fun w _ => y_move S rfl) ?_; clear S a; intro a S
    refine kc_readC (listed' := #[true, true, false, false, false, false, false, false, false, false, false]) 1 S rfl rfl rfl rfl (by kernel_rfl) rfl (fun _ d _ _ _ h => by cases d <;> exact h) hC (fun w _ => y_nilCheck S rfl) ?_; clear S a; intro a S
    refine kc_readC (listed' := #[true, true, true, false, false, false, false, false, false, false, false]) 2 S rfl rfl rfl rfl (by kernel_rfl) rfl (fun _ d _ _ _ h => by cases d <;> exact h) hC (fun w _ => y_fieldAddr (k := 0) S (by kernel_rfl) rfl) ?_; clear S a; intro a S
    refine kc_readC (listed' := #[true, true, true, true, false, false, false, false, false, false, false]) 3 S rfl rfl rfl rfl (by kernel_rfl) rfl (fun _ d _ _ _ h => by cases d <;> exact h) hC (fun w hC => y_loadAgg (cs := [_]) S (by kernel_rfl) rfl rfl (Blk.cellsAt (o := 0) (k := 1) hC rfl)) ?_; clear S a; intro a S
    refine kc_readC (listed' := #[true, true, true, true, true, false, false, false, false, false, false]) 4 S rfl rfl rfl rfl (by kernel_rfl) rfl (fun _ d _ _ _ h => by cases d <;> exact h) hC (fun w _ => y_move S rfl) ?_; clear S a; intro a S
    refine kc_readC (listed' := #[true, true, true, true, true, true, false, false, false, false, false]) 5 S rfl rfl rfl rfl (by kernel_rfl) rfl (fun _ d _ _ _ h => by cases d <;> exact h) hC (fun w _ => y_nilCheck S rfl) ?_; clear S a; intro a S
    refine kc_readC (listed' := #[true, true, true, true, true, true, true, false, false, false, false]) 6 S rfl rfl rfl rfl (by kernel_rfl) rfl (fun _ d _ _ _ h => by cases d <;> exact h) hC (fun w _ => y_fieldAddr (k := 1) S (by kernel_rfl) rfl) ?_; clear S a; intro a S
    refine kc_readC (listed' := #[true, true, true, true, true, true, true, true, false, false, false]) 7 S rfl rfl rfl rfl (by kernel_rfl) rfl (fun _ d _ _ _ h => by cases d <;> exact h) hC (fun w hC => y_loadAgg (cs := [_, _, _]) S (by kernel_rfl) rfl rfl (Blk.cellsAt (o := 1) (k := 3) hC rfl)) ?_; clear S a; intro a S
    refine kc_one (listed' := #[true, true, true, true, true, true, true, true, true, false, false]) 8 rfl (by kernel_rfl) rfl ?_
    refine st_store (sz := 1) (us := [_]) S M 6 rfl (by kernel_rfl) rfl rfl rfl rfl rfl rfl (by first | decide | (simp; done) | (simp; omega)) ?_; clear M; intro w21 M
    simp only [putL, List.set_cons_zero, List.set_cons_succ, Nat.reduceAdd] at M
    replace hC := M.blk 0 rfl
    refine wpList_nil ?_; refine then_normal ?_; refine ⟨fun h => absurd h (by decide), hC, ?_⟩
    refine kc_one (listed' := #[true, true, true, true, true, true, true, true, true, true, false]) 9 rfl (by kernel_rfl) rfl ?_
    refine st_store (sz := 3) (us := [_, _, _]) S M 5 rfl (by kernel_rfl) rfl rfl rfl rfl rfl rfl (by first | decide | (simp; done) | (simp; omega)) ?_; clear M; intro w22 M
    simp only [putL, List.set_cons_zero, List.set_cons_succ, Nat.reduceAdd] at M
    replace hC := M.blk 0 rfl
    refine wpList_nil ?_; refine then_normal ?_; refine ⟨fun h => absurd h (by decide), hC, ?_⟩
    refine kc_readC (listed' := #[true, true, true, true, true, true, true, true, true, true, true]) 10 S rfl rfl rfl rfl (by kernel_rfl) rfl (fun _ d _ _ _ h => by cases d <;> exact h) hC (fun w _ => y_assign S rfl) ?_; clear S a; intro a S
    refine kc_end (by kernel_rfl) ?_
    replace S := S.sub [(0, _), (1, _), (2, _), (3, _), (4, _), (5, _), (15, _), (30, _), (7, _), (6, _)] rfl
    refine then_normal ?_
    refine wp_ret ?_
    refine end_three S rfl (res_agg (cs := [_]) (by kernel_rfl) rfl rfl (M.cellsAt (k := 1) 6 rfl rfl)) (res_agg (cs := [_, _, _]) (by kernel_rfl) rfl rfl (M.cellsAt (k := 3) 5 rfl rfl)) (res_tmp rfl) ?_
    have hsh := hear_short hR
    simp only at hsh
    exact ⟨0, (r1, r2, r3, r4), ⟨_, _, _, _, rfl, M.below, out_of M (List.mem_of_getElem? (show _[1]? = _ from rfl)) (List.mem_of_getElem? (show _[2]? = _ from rfl)) (List.mem_of_getElem? (show _[3]? = _ from rfl)) (List.mem_of_getElem? (show _[4]? = _ from rfl)) (fun e he => by simp [he]) hD hM hK0 hEn (by unfold maxLen; omega) (by unfold maxLen; omega) (by unfold maxLen; omega) (by unfold maxLen; omega)⟩, .inl ⟨rfl, hmac, ⟨hmay, hks⟩, hR⟩⟩
  clear S; intro h26 S
  refine st_run [1, 3, 1, 1] S M rfl (by kernel_rfl) ?_; clear S a; intro a S
  replace S := S.sub [(0, _), (1, _), (2, _), (3, _), (4, _), (5, _), (6, _), (15, _), (30, _)] rfl
  refine nxC ?_
  refine st_if (t := 30) S rfl ?_ ?_
  · clear S; intro h30 S
    refine st_condT S rfl ?_
    refine nxD ?_
    refine st_y S rfl rfl rfl (y_build (ps := []) (pl := [(0, 1)]) (z := [.slice none 0 0]) (cs := [_]) S (by kernel_rfl) rfl (rfl)) ?_; clear S a; intro a S
    refine st_y S rfl rfl rfl (y_build (ps := []) (pl := [(0, 1), (1, 1), (2, 1)]) (z := [.slice none 0 0, .slice none 0 0, .slice none 0 0]) (cs := [_, _, _]) S (by kernel_rfl) rfl (rfl)) ?_; clear S a; intro a S
    refine st_store (sz := 1) (us := [_]) S M 1 rfl (by kernel_rfl) rfl rfl rfl rfl rfl rfl (by first | decide | (simp; done) | (simp; omega)) ?_; clear M; intro w11 M
    simp only [putL, List.set_cons_zero, List.set_cons_succ, Nat.reduceAdd] at M
    refine st_store (sz := 3) (us := [_, _, _]) S M 0 rfl (by kernel_rfl) rfl rfl rfl rfl rfl rfl (by first | decide | (simp; done) | (simp; omega)) ?_; clear M; intro w12 M
    simp only [putL, List.set_cons_zero, List.set_cons_succ, Nat.reduceAdd] at M
    refine st_go [1] S rfl (by kernel_rfl) ?_; clear S a; intro a S
    refine nxC ?_
    refine wp_ret ?_
    refine then_ret ?_
    refine end_three S rfl (res_agg (cs := [_]) (by kernel_rfl) rfl rfl (M.cellsAt (k := 1) 1 rfl rfl)) (res_agg (cs := [_, _, _]) (by kernel_rfl) rfl rfl (M.cellsAt (k := 3) 0 rfl rfl)) (res_tmp rfl) ?_
    refine ⟨2, _, res_nil M.below, .inr ⟨rfl, ?_, rfl⟩⟩
    clear S M; rintro ⟨-, -, g3⟩; omega
  clear S; intro h30 S
  refine st_condF S rfl ?_
  refine wp_skip ?_
  refine then_normal ?_
  refine wp_seq ?_
  have hmac : machB ds = true := by
    rcases hE0 with ⟨-, h⟩ | ⟨h, -⟩
    · exact h
    · exfalso; omega
  have hks : m.kind = 5 ∨ m.kind = 7 ∨ m.kind = 8 := by omega
  have hmay : m.may x = true := by simp_all
  obtain ⟨hl8, hx8⟩ := mach_short hmac
  have hfr := may_from hmay hks
  refine wp_region_lit ?_
  refine st_y S rfl rfl rfl (y_loadAgg (cs := [_]) S (by kernel_rfl) rfl rfl (M.cellsAt (k := 1) 3 rfl rfl)) ?_; clear S a; intro a S
  refine st_call (xs := [(Operand.tmp 33)]) S (enters_of Try.func25 (by decide) rfl) rfl rfl rfl (begin_any va vc cs ds _ (M.rowsW hv) (by omega) hx8) ?_
  rintro _ w13 ⟨bB, es, rfl, W1⟩; refine ⟨_, rfl, ?_⟩; clear S a; intro a S; replace W1 := W1.beh M; clear M; have W2 := W1
  obtain ⟨la, ln, lc, llo, lhi, lcs, ma, mc, mlo, mhi, mcs, ka, kc, klo, khi, kcs, ea, ec, elo, ehi, ecs, hln, M, hD, hM, hK0, hEn⟩ := W2
  subst hln
  refine st_go [1] S rfl (by kernel_rfl) ?_; clear S a; intro a S
  refine nxA ?_
  refine st_go [1] S rfl (by kernel_rfl) ?_; clear S a; intro a S
  refine st_y S rfl rfl rfl (y_loadAgg (cs := [_, _, _, _, _, _, _, _, _, _, _, _, _, _, _, _, _, _, _, _, _, _, _, _]) S (by kernel_rfl) rfl rfl (M.cellsAt (k := 24) 7 rfl rfl)) ?_; clear S a; intro a S
  refine st_call (xs := [(Operand.tmp 35), (Operand.tmp 36)]) S (enters_of Try.func26 (by decide) rfl) rfl rfl rfl (hear_any W1 hmac m _ (by omega)) ?_
  rintro _ w14 ⟨rfl, r, es2, hR, W2⟩; refine ⟨_, rfl, ?_⟩; clear S a M hD hM hK0 hEn; intro a S
  obtain ⟨r1, r2, r3, r4⟩ := r
  obtain ⟨la, ln, lc, llo, lhi, lcs, ma, mc, mlo, mhi, mcs, ka, kc, klo, khi, kcs, ea, ec, elo, ehi, ecs, hln, M, hD, hM, hK0, hEn⟩ := W2
  simp only at hln M hD hM hK0 hEn
  subst hln
  refine nxC ?_
  refine wp_seq ?_
  refine wp_regionKC (C := fun W => Blk W bB #[.slice la r1.length lc, .slice ma r2.length mc, .slice ka r3.length kc, .slice ea r4.length ec] 71) [8, 9] #[false, false, false, false, false, false, false, false, false, false, false] rfl M (by kernel_rfl) ?_; clear M; intro w15 M; have hC := M.blk 0 rfl
  refine kc_readC (listed' := #[true, false, false, false, false, false, false, false, false, false, false]) 0 S rfl rfl rfl rfl (by kernel_rfl) rfl (fun _ d _ _ _ h => by cases d <;> exact h) hC (fun w _ => y_move S rfl) ?_; clear S a; intro a S
  refine kc_readC (listed' := #[true, true, false, false, false, false, false, false, false, false, false]) 1 S rfl rfl rfl rfl (by kernel_rfl) rfl (fun _ d _ _ _ h => by cases d <;> exact h) hC (fun w _ => y_nilCheck S rfl) ?_; clear S a; intro a S
  refine kc_readC (listed' := #[true, true, true, false, false, false, false, false, false, false, false]) 2 S rfl rfl rfl rfl (by kernel_rfl) rfl (fun _ d _ _ _ h => by cases d <;> exact h) hC (fun w _ => y_fieldAddr (k := 0) S (by kernel_rfl) rfl) ?_; clear S a; intro a S
  refine kc_readC (listed' := #[true, true, true, true, false, false, false, false, false, false, false]) 3 S rfl rfl rfl rfl (by kernel_rfl) rfl (fun _ d _ _ _ h => by cases d <;> exact h) hC (fun w hC => y_loadAgg (cs := [_]) S (by kernel_rfl) rfl rfl (Blk.cellsAt (o := 0) (k := 1) hC rfl)) ?_; clear S a; intro a S
  refine kc_readC (listed' := #[true, true, true, true, true, false, false, false, false, false, false]) 4 S rfl rfl rfl rfl (by kernel_rfl) rfl (fun _ d _ _ _ h => by cases d <;> exact h) hC (fun w _ => y_move S rfl) ?_; clear S a; intro a S
  refine kc_readC (listed' := #[true, true, true, true, true, true, false, false, false, false, false]) 5 S rfl rfl rfl rfl (by kernel_rfl) rfl (fun _ d _ _ _ h => by cases d <;> exact h) hC (fun w _ => y_nilCheck S rfl) ?_; clear S a; intro a S
  refine kc_readC (listed' := #[true, true, true, true, true, true, true, false, false, false, false]) 6 S rfl rfl rfl rfl (by kernel_rfl) rfl (fun _ d _ _ _ h => by cases d <;> exact h) hC (fun w _ => y_fieldAddr (k := 1) S (by kernel_rfl) rfl) ?_; clear S a; intro a S
  refine kc_readC (listed' := #[true, true, true, true, true, true, true, true, false, false, false]) 7 S rfl rfl rfl rfl (by kernel_rfl) rfl (fun _ d _ _ _ h => by cases d <;> exact h) hC (fun w hC => y_loadAgg (cs := [_, _, _]) S (by kernel_rfl) rfl rfl (Blk.cellsAt (o := 1) (k := 3) hC rfl)) ?_; clear S a; intro a S
  refine kc_one (listed' := #[true, true, true, true, true, true, true, true, true, false, false]) 8 rfl (by kernel_rfl) rfl ?_
  refine st_store (sz := 1) (us := [_]) S M 6 rfl (by kernel_rfl) rfl rfl rfl rfl rfl rfl (by first | decide | (simp; done) | (simp; omega)) ?_; clear M; intro w16 M
  simp only [putL, List.set_cons_zero, List.set_cons_succ, Nat.reduceAdd] at M
  replace hC := M.blk 0 rfl
  refine wpList_nil ?_; refine then_normal ?_; refine ⟨fun h => absurd h (by decide), hC, ?_⟩
  refine kc_one (listed' := #[true, true, true, true, true, true, true, true, true, true, false]) 9 rfl (by kernel_rfl) rfl ?_
  refine st_store (sz := 3) (us := [_, _, _]) S M 5 rfl (by kernel_rfl) rfl rfl rfl rfl rfl rfl (by first | decide | (simp; done) | (simp; omega)) ?_; clear M; intro w17 M
  simp only [putL, List.set_cons_zero, List.set_cons_succ, Nat.reduceAdd] at M
  replace hC := M.blk 0 rfl
  refine wpList_nil ?_; refine then_normal ?_; refine ⟨fun h => absurd h (by decide), hC, ?_⟩
  refine kc_readC (listed' := #[true, true, true, true, true, true, true, true, true, true, true]) 10 S rfl rfl rfl rfl (by kernel_rfl) rfl (fun _ d _ _ _ h => by cases d <;> exact h) hC (fun w _ => y_assign S rfl) ?_; clear S a; intro a S
  refine kc_end (by kernel_rfl) ?_
  replace S := S.sub [(0, _), (1, _), (2, _), (3, _), (4, _), (5, _), (15, _), (30, _), (7, _), (6, _)] rfl
  refine then_normal ?_
  refine wp_ret ?_
  refine end_three S rfl (res_agg (cs := [_]) (by kernel_rfl) rfl rfl (M.cellsAt (k := 1) 6 rfl rfl)) (res_agg (cs := [_, _, _]) (by kernel_rfl) rfl rfl (M.cellsAt (k := 3) 5 rfl rfl)) (res_tmp rfl) ?_
  have hsh := hear_short hR
  simp only at hsh
  exact ⟨0, (r1, r2, r3, r4), ⟨_, _, _, _, rfl, M.below, out_of M (List.mem_of_getElem? (show _[1]? = _ from rfl)) (List.mem_of_getElem? (show _[2]? = _ from rfl)) (List.mem_of_getElem? (show _[3]? = _ from rfl)) (List.mem_of_getElem? (show _[4]? = _ from rfl)) (fun e he => by simp [he]) hD hM hK0 hEn (by unfold maxLen; omega) (by unfold maxLen; omega) (by unfold maxLen; omega) (by unfold maxLen; omega)⟩, .inl ⟨rfl, hmac, ⟨hmay, hks⟩, hR⟩⟩

end Go.Proofs.Ytidpeojkkfmgeaa
