/-
  The document's SameSaid of what says the same; law21's name, vote, wakes.
-/
import Derived.Test.YtidpeojkkfmgeaaCl
namespace Go.Proofs.Ytidpeojkkfmgeaa
open Go.RowKit Go.Sort

set_option maxHeartbeats 1000000 in
theorem sameSaid_any (ma mb ka kb ea eb : Option Addr) (mc md kc kd ec ed : Nat) (c1 c2 : List Value) (ml : Mls) (w : World) (h1 : RowC msS c1 0 w.heap.size w (.slice ma ml.length mc) ml) (h2 : RowC msS c2 0 w.heap.size w (.slice mb ml.length md) ml) :
    Calls Try.prog 18 #[.agg #[.slice ma ml.length mc, .slice ka 0 kc, .slice ea 0 ec], .agg #[.slice mb ml.length md, .slice kb 0 kd, .slice eb 0 ed]] w (fun e w' => e = .returned (.bool true) ∧ Below w.heap.size w w') := by
  have M := Mem.start w
  have hl := h1.1.2.1
  unfold maxLen at hl
  refine calls_enter Try.func18 rfl 89 rfl rfl ?_; intro a S
  refine nxD ?_
  refine st_box S M rfl rfl rfl #[_, _, _] rfl ?_; clear S M a; intro a w1 bA S M hB
  refine st_box S M rfl rfl rfl #[_, _, _] rfl ?_; clear S M a; intro a w2 bB S M hB
  refine st_go [1] S rfl (by kernel_rfl) ?_; clear S a; intro a S
  refine nxC ?_
  refine wp_seq ?_
  refine nxD ?_
  refine st_run [1, 2] S M rfl (by kernel_rfl) ?_; clear S a; intro a S
  refine st_y S rfl rfl rfl (y_lenS (E := 36) S rfl (by kernel_rfl)) ?_; clear S a; intro a S
  refine st_run [1, 1] S M rfl (by kernel_rfl) ?_; clear S a; intro a S
  refine st_y S rfl rfl rfl (y_lenS (E := 36) S rfl (by kernel_rfl)) ?_; clear S a; intro a S
  refine st_go [1, 1] S rfl (by kernel_rfl) ?_; clear S a; intro a S
  refine st_if (t := 15) S rfl ?_ ?_
  · clear S; intro h15 S
    exfalso; omega
  clear S; intro h15 S
  refine st_run [2, 2] S M rfl (by kernel_rfl) ?_; clear S a; intro a S
  refine st_y S rfl rfl rfl (y_lenS (E := 97) S rfl (by kernel_rfl)) ?_; clear S a; intro a S
  refine st_run [2, 1] S M rfl (by kernel_rfl) ?_; clear S a; intro a S
  refine st_y S rfl rfl rfl (y_lenS (E := 97) S rfl (by kernel_rfl)) ?_; clear S a; intro a S
  refine st_go [1, 1, 1] S rfl (by kernel_rfl) ?_; clear S a; intro a S
  refine st_if (t := 24) S rfl ?_ ?_
  · clear S; intro h24 S
    exfalso; omega
  clear S; intro h24 S
  refine st_run [3, 2] S M rfl (by kernel_rfl) ?_; clear S a; intro a S
  refine st_y S rfl rfl rfl (y_lenS (E := 66) S rfl (by kernel_rfl)) ?_; clear S a; intro a S
  refine st_run [3, 1] S M rfl (by kernel_rfl) ?_; clear S a; intro a S
  refine st_y S rfl rfl rfl (y_lenS (E := 66) S rfl (by kernel_rfl)) ?_; clear S a; intro a S
  refine st_go [1, 1] S rfl (by kernel_rfl) ?_; clear S a; intro a S
  replace S := S.sub [(0, _), (1, _), (2, _), (3, _), (4, _), (32, _)] rfl
  refine nxC ?_
  refine st_if (t := 32) S rfl ?_ ?_
  · clear S; intro h32 S
    exfalso; omega
  clear S; intro h32 S
  refine st_condF S rfl ?_
  refine wp_skip ?_
  refine then_normal ?_
  refine wp_seq ?_
  refine nxD ?_
  refine st_go [1] S rfl (by kernel_rfl) ?_; clear S a; intro a S
  refine nxC ?_
  refine wp_block ?_
  refine wp_loop_g (fun m a w' => ∃ (k : Nat), k ≤ ml.length ∧ m = ml.length - k ∧ Sees 89 a [(2, .pointer (some ⟨bA, 0, none⟩)), (3, .pointer (some ⟨bB, 0, none⟩)), (5, .int .i64 (k : Int))] ∧ Mem w w' [.blk bB #[.slice mb ml.length md, .slice kb 0 kd, .slice eb 0 ed] 41, .blk bA #[.slice ma ml.length mc, .slice ka 0 kc, .slice ea 0 ec] 41]) (ml.length) ?_ ?_
  · skip
    exact ⟨0, Nat.zero_le _, rfl, S.sub _ rfl, M⟩
  clear S M a; intro m a wl
  rintro ⟨k, hk, rfl, S, M⟩
  refine wp_seq ?_
  refine nxD ?_
  refine st_run [1, 1, 2] S M rfl (by kernel_rfl) ?_; clear S a; intro a S
  refine st_y S rfl rfl rfl (y_lenS (E := 36) S rfl (by kernel_rfl)) ?_; clear S a; intro a S
  refine st_go [1] S rfl (by kernel_rfl) ?_; clear S a; intro a S
  refine nxC ?_
  refine st_if (t := 37) S rfl ?_ ?_
  · clear S; intro h37 S
    refine st_condT S rfl ?_
    refine wp_skip ?_
    refine then_normal ?_
    refine wp_seq ?_
    refine wp_block ?_
    refine wp_seq ?_
    obtain ⟨q, hq⟩ : ∃ q, ml[k]? = some q := ⟨_, List.getElem?_eq_getElem (by omega)⟩
    obtain ⟨xa, xc, hrow1, hw1⟩ := h1.sl hq
    obtain ⟨ya, yc, hrow2, hw2⟩ := h2.sl hq
    refine wp_quiet M (by kernel_rfl) (by kernel_rfl) ?_
    refine qt_y S rfl rfl rfl (fun w M => y_fieldAddr (k := 0) S (by kernel_rfl) rfl) ?_; clear S a; intro a S
    refine qt_y S rfl rfl rfl (fun w M => y_load S (by kernel_rfl) rfl (M.cell 1 rfl rfl)) ?_; clear S a; intro a S
    refine qt_y S rfl rfl rfl (fun w M => y_move S rfl) ?_; clear S a; intro a S
    refine qt_y S rfl rfl rfl (fun w M => y_indexR (e := 36) (sz := 24) S (by kernel_rfl) rfl ((M.rows h1).1) rfl (by first | omega | (simp; done) | (simp; omega))) ?_; clear S a; intro a S
    try simp only [Int.toNat_natCast, Nat.mul_one, Nat.zero_add] at S
    refine qt_y S rfl rfl rfl (fun w M => y_loadAgg S (by kernel_rfl) rfl rfl ((M.rows h1).1.at_.row (i := k) hrow1 rfl)) ?_; clear S a; intro a S
    refine qt_y S rfl rfl rfl (fun w M => y_fieldAddr (k := 0) S (by kernel_rfl) rfl) ?_; clear S a; intro a S
    refine qt_y S rfl rfl rfl (fun w M => y_load S (by kernel_rfl) rfl (M.cell 0 rfl rfl)) ?_; clear S a; intro a S
    refine qt_y S rfl rfl rfl (fun w M => y_move S rfl) ?_; clear S a; intro a S
    refine qt_y S rfl rfl rfl (fun w M => y_indexR (e := 36) (sz := 24) S (by kernel_rfl) rfl ((M.rows h2).1) rfl (by first | omega | (simp; done) | (simp; omega))) ?_; clear S a; intro a S
    try simp only [Int.toNat_natCast, Nat.mul_one, Nat.zero_add] at S
    refine qt_y S rfl rfl rfl (fun w M => y_loadAgg S (by kernel_rfl) rfl rfl ((M.rows h2).1.at_.row (i := k) hrow2 rfl)) ?_; clear S a; intro a S
    refine qt_call (xs := [(Operand.tmp 44), (Operand.tmp 49)]) S (enters_of Try.func27 (by decide) rfl) rfl rfl rfl (quiet_of fun w M => fSame_any q.1 q.1 _ _ q.2 q.2 _ (M.argW hw1) (M.argW hw2)) ?_; clear S a; intro a S
    refine qt_y S rfl rfl rfl (fun w M => y_not S rfl) ?_; clear S a; intro a S
    refine wpQuiet_nil ?_; clear M; intro w4 M
    replace S := S.sub [(2, _), (3, _), (5, _), (37, _), (51, _)] rfl
    refine then_normal ?_
    refine st_split (t := 51) S rfl ?_ ?_
    · clear S; intro h51 S
      exfalso
      rw [Msg.same_iff.2 ⟨rfl, rfl⟩] at h51; cases h51
    clear S; intro h51 S
    refine st_condF S rfl ?_
    refine wp_skip ?_
    refine block_normal ?_
    refine nxF ?_
    refine st_go [1] S rfl (by kernel_rfl) ?_; clear S a; intro a S
    (first | refine st_y S rfl rfl rfl (y_addN S rfl rfl (by omega)) ?_ | refine st_y S rfl rfl rfl (y_int S rfl rfl rfl) ?_); clear S a; intro a S
    refine st_go [1] S rfl (by kernel_rfl) ?_; clear S a; intro a S
    refine nxC ?_
    exact ⟨ml.length - (k + 1), by omega, k + 1, by omega, rfl, S.sub _ rfl, M⟩
  clear S; intro h37 S
  refine st_condF S rfl ?_
  refine wp_exit ?_
  refine then_exit ?_
  refine then_exit ?_
  refine block_hit ?_
  refine then_normal ?_
  refine wp_seq ?_
  refine nxD ?_
  refine st_go [1] S rfl (by kernel_rfl) ?_; clear S a; intro a S
  refine nxC ?_
  refine wp_block ?_
  refine wp_loop_g (fun m a w' => m = 0 ∧ Sees 89 a [(2, .pointer (some ⟨bA, 0, none⟩)), (3, .pointer (some ⟨bB, 0, none⟩)), (6, .int .i64 0)] ∧ Mem w w' [.blk bB #[.slice mb ml.length md, .slice kb 0 kd, .slice eb 0 ed] 41, .blk bA #[.slice ma ml.length mc, .slice ka 0 kc, .slice ea 0 ec] 41]) (0) ?_ ?_
  · skip
    exact ⟨rfl, S.sub _ rfl, M⟩
  clear S M a; intro m a wl
  rintro ⟨rfl, S, M⟩
  refine wp_seq ?_
  refine nxD ?_
  refine st_run [1, 2, 2] S M rfl (by kernel_rfl) ?_; clear S a; intro a S
  refine st_y S rfl rfl rfl (y_lenS (E := 97) S rfl (by kernel_rfl)) ?_; clear S a; intro a S
  refine st_go [1] S rfl (by kernel_rfl) ?_; clear S a; intro a S
  refine nxC ?_
  refine st_if (t := 56) S rfl ?_ ?_
  · clear S; intro h56 S
    exfalso; omega
  clear S; intro h56 S
  refine st_condF S rfl ?_
  refine wp_exit ?_
  refine then_exit ?_
  refine then_exit ?_
  refine block_hit ?_
  refine then_normal ?_
  refine wp_seq ?_
  refine nxD ?_
  refine st_go [1] S rfl (by kernel_rfl) ?_; clear S a; intro a S
  refine nxC ?_
  refine wp_block ?_
  refine wp_loop_g (fun m a w' => m = 0 ∧ Sees 89 a [(2, .pointer (some ⟨bA, 0, none⟩)), (3, .pointer (some ⟨bB, 0, none⟩)), (7, .int .i64 0)] ∧ Mem w w' [.blk bB #[.slice mb ml.length md, .slice kb 0 kd, .slice eb 0 ed] 41, .blk bA #[.slice ma ml.length mc, .slice ka 0 kc, .slice ea 0 ec] 41]) (0) ?_ ?_
  · skip
    exact ⟨rfl, S.sub _ rfl, M⟩
  clear S M a; intro m a wl
  rintro ⟨rfl, S, M⟩
  refine wp_seq ?_
  refine nxD ?_
  refine st_run [1, 3, 2] S M rfl (by kernel_rfl) ?_; clear S a; intro a S
  refine st_y S rfl rfl rfl (y_lenS (E := 66) S rfl (by kernel_rfl)) ?_; clear S a; intro a S
  refine st_go [1] S rfl (by kernel_rfl) ?_; clear S a; intro a S
  refine nxC ?_
  refine st_if (t := 75) S rfl ?_ ?_
  · clear S; intro h75 S
    exfalso; omega
  clear S; intro h75 S
  refine st_condF S rfl ?_
  refine wp_exit ?_
  refine then_exit ?_
  refine then_exit ?_
  refine block_hit ?_
  refine nxE ?_
  refine st_go [1] S rfl (by kernel_rfl) ?_; clear S a; intro a S
  refine nxC ?_
  refine wp_ret ?_
  refine end_one S rfl (res_tmp rfl) ?_
  exact ⟨rfl, M.below⟩

theorem name21_any (n : Int) (w : World) : Calls Try.prog 14 #[.int .i64 n] w fun e w' => e = .returned (.agg (⟨n, 1, 1⟩ : Nm).cells) ∧ Below w.heap.size w w' := by
  have M := Mem.start w
  refine calls_enter Try.func14 rfl 5 rfl rfl ?_; intro a S
  refine nxD ?_
  refine st_alloc S M rfl rfl #[.int .i64 0, .int .i64 0, .int .i64 0] (by kernel_rfl) ?_; clear S M a; intro a w1 b1 S M hB
  refine nxA ?_
  refine st_go [1] S rfl (by kernel_rfl) ?_; clear S a; intro a S
  refine st_y S rfl rfl rfl (y_build (ps := [(0, (Operand.tmp 3)), (1, (Operand.const (Value.int IntKind.i64 1))), (2, (Operand.const (Value.int IntKind.i64 1)))]) (pl := [(0, 1), (1, 1), (2, 1)]) (z := [.int .i64 0, .int .i64 0, .int .i64 0]) (cs := [_, _, _]) S (by kernel_rfl) rfl (rfl)) ?_; clear S a; intro a S
  refine st_store (sz := 3) (us := [_, _, _]) S M 0 rfl (by kernel_rfl) rfl rfl rfl rfl rfl rfl (by first | decide | (simp; done) | (simp; omega)) ?_; clear M; intro w2 M
  simp only [putL, List.set_cons_zero, List.set_cons_succ, Nat.reduceAdd] at M
  refine nxC ?_
  refine wp_ret ?_
  refine end_one S rfl (res_agg (cs := [_, _, _]) (by kernel_rfl) rfl rfl (M.cellsAt (k := 3) 0 rfl rfl)) ?_
  exact ⟨rfl, M.below⟩
def voteM (f : Int) (y : Bool) : Msg := ⟨5, f, 0, 1, 0, ⟨1, 1, 1⟩, 0, 0, 0, ⟨0, 0, 0, 0, 0, 0, 0, 0⟩, 0, y, 0, 0⟩
theorem vote_any (f : Int) (y : Bool) (w : World) : Calls Try.prog 15 #[.int .i64 f, .bool y] w fun e w' => e = .returned (.agg ((voteM f y).cells (.slice none 0 0))) ∧ Below w.heap.size w w' := by
  have M := Mem.start w
  refine calls_enter Try.func15 rfl 9 rfl rfl ?_; intro a S
  refine nxD ?_
  refine st_alloc S M rfl rfl #[.int .i8 0, .int .i64 0, .int .i64 0, .int .i64 0, .int .i64 0, .int .i64 0, .int .i64 0, .int .i64 0, .int .i64 0, .int .i8 0, .int .i64 0, .int .u8 0, .int .u8 0, .int .u8 0, .int .u8 0, .int .u8 0, .int .u8 0, .int .u8 0, .int .u8 0, .int .i64 0, .bool false, .int .i64 0, .int .i64 0, .slice none 0 0] (by kernel_rfl) ?_; clear S M a; intro a w1 b1 S M hB
  refine nxA ?_
  refine st_go [1] S rfl (by kernel_rfl) ?_; clear S a; intro a S
  refine st_call (xs := [(Operand.const (Value.int IntKind.i64 1))]) S (enters_of Try.func14 (by decide) rfl) rfl rfl rfl (name21_any 1 _) ?_
  rintro _ w2 ⟨rfl, hK⟩; refine ⟨_, rfl, ?_⟩; clear S a; intro a S; replace M := M.grow hK
  refine st_go [1] S rfl (by kernel_rfl) ?_; clear S a; intro a S
  refine st_y S rfl rfl rfl (y_build (ps := [(0, (Operand.const (Value.int IntKind.i8 5))), (1, (Operand.tmp 5)), (3, (Operand.const (Value.int IntKind.i64 1))), (5, (Operand.tmp 6)), (11, (Operand.tmp 7))]) (pl := [(0, 1), (1, 1), (2, 1), (3, 1), (4, 1), (5, 3), (8, 1), (9, 1), (10, 1), (11, 8), (19, 1), (20, 1), (21, 1), (22, 1), (23, 1)]) (z := [.int .i8 0, .int .i64 0, .int .i64 0, .int .i64 0, .int .i64 0, .int .i64 0, .int .i64 0, .int .i64 0, .int .i64 0, .int .i8 0, .int .i64 0, .int .u8 0, .int .u8 0, .int .u8 0, .int .u8 0, .int .u8 0, .int .u8 0, .int .u8 0, .int .u8 0, .int .i64 0, .bool false, .int .i64 0, .int .i64 0, .slice none 0 0]) (cs := [_, _, _, _, _, _, _, _, _, _, _, _, _, _, _, _, _, _, _, _, _, _, _, _]) S (by kernel_rfl) rfl (rfl)) ?_; clear S a; intro a S
  refine st_store (sz := 24) (us := [_, _, _, _, _, _, _, _, _, _, _, _, _, _, _, _, _, _, _, _, _, _, _, _]) S M 0 rfl (by kernel_rfl) rfl rfl rfl rfl rfl rfl (by first | decide | (simp; done) | (simp; omega)) ?_; clear M; intro w3 M
  simp only [putL, List.set_cons_zero, List.set_cons_succ, Nat.reduceAdd] at M
  refine nxC ?_
  refine wp_ret ?_
  refine end_one S rfl (res_agg (cs := [_, _, _, _, _, _, _, _, _, _, _, _, _, _, _, _, _, _, _, _, _, _, _, _]) (by kernel_rfl) rfl rfl (M.cellsAt (k := 24) 0 rfl rfl)) ?_
  exact ⟨rfl, M.below⟩
def OutC (c1 c2 c3 c4 : List Value) (lo hi : Nat) (w : World) (cv mv kv ev : Value) (r : Out) : Prop := RowC drS c1 lo hi w cv r.1 ∧ RowC msS c2 lo hi w mv r.2.1 ∧ RowC rcS c3 lo hi w kv r.2.2.1 ∧ RowC edS c4 lo hi w ev r.2.2.2
theorem OutP.cells {lo hi : Nat} {w : World} {cv mv kv ev : Value} {r : Out} (h : OutP lo hi w cv mv kv ev r) : ∃ c1 c2 c3 c4, OutC c1 c2 c3 c4 lo hi w cv mv kv ev r := by
  obtain ⟨⟨c1, h1⟩, ⟨c2, h2⟩, ⟨c3, h3⟩, ⟨c4, h4⟩⟩ := h
  exact ⟨c1, c2, c3, c4, h1, h2, h3, h4⟩
abbrev outE (c1 c2 c3 c4 : List Value) (lo hi : Nat) (cv mv kv ev : Value) (r : Out) : Ent := .own lo hi fun W => OutC c1 c2 c3 c4 lo hi W cv mv kv ev r
section
variable {w0 w w' : World} {H : List Ent} {cv mv kv ev : Value} {r : Out} {c1 c2 c3 c4 : List Value}
theorem Mem.out (M : Mem w0 w H) (h : Below w.heap.size w w') (hO : OutC c1 c2 c3 c4 w.heap.size w'.heap.size w' cv mv kv ev r) : Mem w0 w' (outE c1 c2 c3 c4 w.heap.size w'.heap.size cv mv kv ev r :: H) :=
  M.push h _ (fun W hs => ⟨hO.1.same hs, hO.2.1.same hs, hO.2.2.1.same hs, hO.2.2.2.same hs⟩) (Nat.le_refl _) (Nat.le_refl _)
theorem Mem.outAt {lo hi : Nat} (M : Mem w0 w H) (p : Nat) (hp : H[p]? = some (outE c1 c2 c3 c4 lo hi cv mv kv ev r)) : OutC c1 c2 c3 c4 0 w.heap.size w cv mv kv ev r := by
  have h := M.own p hp
  have f := (M.fits _ (List.mem_of_getElem? hp)).2
  exact ⟨h.1.wide (Nat.zero_le _) f, h.2.1.wide (Nat.zero_le _) f, h.2.2.1.wide (Nat.zero_le _) f, h.2.2.2.wide (Nat.zero_le _) f⟩
end
theorem phaseIs_any {ph : Int} (va : Option Addr) (vc : Nat) (cs : List Value) (ds : Dl) (nm : Nm) (w : World) (hv : RowC drS cs 0 w.heap.size w (.slice va ds.length vc) ds) (hp : ∀ p, PhaseP ds nm p → p = ph) :
    Calls Try.prog 12 #[.agg #[.slice va ds.length vc], .agg nm.cells] w (fun e w' => e = .returned (.int .i8 ph) ∧ Below w.heap.size w w') :=
  (phase_any va vc cs ds nm w hv).mono fun e w' ⟨p, he, hb, h⟩ => ⟨by rw [he, hp p h], hb⟩
theorem phase_one {ds : Dl} {nm : Nm} {p q : Int} (hr : risesB ds = true) (h1 : PhaseP ds nm p) (h2 : PhaseP ds nm q) : p = q := by
  rcases h1 with ⟨k, x, hx, hn, rfl⟩ | ⟨rfl, h1⟩
  · rcases h2 with ⟨j, y, hy, hm, rfl⟩ | ⟨rfl, h2⟩
    · have := rises_one hr hx hy (hn.trans hm.symm)
      subst this
      rw [hx] at hy; obtain rfl := Option.some.inj hy; rfl
    · exact absurd hn (h2 k x hx)
  · rcases h2 with ⟨j, y, hy, hm, rfl⟩ | ⟨rfl, -⟩
    · exact absurd hm (h1 j y hy)
    · rfl
abbrev dW : Dr := ⟨⟨1, 1, 1⟩, 1, 6, 0, 0, -1, 0⟩
theorem wake_hear {r : Out} (h : HearP [(dW, [])] (voteM 2 false) r) : r = ([], [decM ⟨1, 1, 1⟩ false 1, decM ⟨1, 1, 1⟩ false 2], [], [(⟨1, 1, 1⟩, false)]) := by
  rcases h with ⟨k, q, hq, -, rfl⟩ | ⟨h, -⟩
  · have hk : k = 0 := by have := (List.getElem?_eq_some_iff.1 hq).1; simpa using this
    subst hk
    obtain rfl : (dW, []) = q := by simpa using hq
    unfold hear1
    rw [if_neg (by show ¬ ((1 : Int) = 3 ∧ _); omega), if_pos ⟨rfl, rfl, by decide, rfl⟩]
    rfl
  · exact absurd rfl (h 0 (dW, []) rfl)
theorem wake_com : comR ⟨1, 1, 1⟩ 6 = ([(dW, [])], [prepM dW [] 1, prepM dW [] 2], [], []) := rfl
set_option maxHeartbeats 1000000 in
theorem wakes21_any (w : World) : Calls Try.prog 8 #[] w fun e w' => e = .returned (.bool true) ∧ Below w.heap.size w w' := by
  have M := Mem.start w
  refine calls_enter Try.func8 rfl 90 rfl rfl ?_; intro a S
  refine nxD ?_
  refine st_go [1] S rfl (by kernel_rfl) ?_; clear S a; intro a S
  refine nxA ?_
  refine st_y S rfl rfl rfl (y_build (ps := []) (pl := [(0, 1)]) (z := [.slice none 0 0]) (cs := [_]) S (by kernel_rfl) rfl (rfl)) ?_; clear S a; intro a S
  refine st_call (xs := [(Operand.const (Value.int IntKind.i64 1))]) S (enters_of Try.func14 (by decide) rfl) rfl rfl rfl (name21_any 1 _) ?_
  rintro _ w1 ⟨rfl, hK⟩; refine ⟨_, rfl, ?_⟩; clear S a; intro a S; replace M := M.grow hK
  refine st_y S rfl rfl rfl (y_build (ps := [(0, (Operand.const (Value.int IntKind.i64 (-1))))]) (pl := [(0, 1), (1, 1)]) (z := [.int .i64 0, .int .i64 0]) (cs := [_, _]) S (by kernel_rfl) rfl (rfl)) ?_; clear S a; intro a S
  refine st_call (xs := [(Operand.tmp 8), (Operand.tmp 9), (Operand.const (Value.int IntKind.i64 6)), (Operand.tmp 10), (Operand.const (Value.slice none 0 0))]) S (enters_of Try.func13 (by decide) rfl) rfl rfl rfl (commit0_any ⟨1, 1, 1⟩ 6 _ (by omega)) ?_
  rintro _ w2 ⟨er, r, hR, hc⟩
  obtain ⟨rfl, rfl⟩ : er = 0 ∧ r = comR ⟨1, 1, 1⟩ 6 := by
    rcases hc with ⟨h1, -, -, h2⟩ | ⟨-, h⟩
    · exact ⟨h1, h2⟩
    · exact absurd ⟨by decide, by decide⟩ h
  rw [wake_com] at hR
  obtain ⟨cv, mv, kv, ev, rfl, hK, hO⟩ := hR
  obtain ⟨la, lc, ma, mc, ka, kc, ea, ec, rfl, rfl, rfl, rfl⟩ := hO.form
  obtain ⟨c1, c2, c3, c4, hO⟩ := hO.cells
  refine ⟨_, rfl, ?_⟩; clear S a; intro a S; replace M := M.out hK hO
  refine st_go [1, 1, 1, 1] S rfl (by kernel_rfl) ?_; clear S a; intro a S
  refine st_alloc S M rfl rfl #[.slice none 0 0] (by kernel_rfl) ?_; clear S M a; intro a w3 bC S M hB
  refine st_alloc S M rfl rfl #[.slice none 0 0, .slice none 0 0, .slice none 0 0] (by kernel_rfl) ?_; clear S M a; intro a w4 bS S M hB
  refine st_store (sz := 1) (us := [_]) S M 1 rfl (by kernel_rfl) rfl rfl rfl rfl rfl rfl (by first | decide | (simp; done) | (simp; omega)) ?_; clear M; intro w5 M
  simp only [putL, List.set_cons_zero, List.set_cons_succ, Nat.reduceAdd] at M
  refine st_store (sz := 3) (us := [_, _, _]) S M 0 rfl (by kernel_rfl) rfl rfl rfl rfl rfl rfl (by first | decide | (simp; done) | (simp; omega)) ?_; clear M; intro w6 M
  simp only [putL, List.set_cons_zero, List.set_cons_succ, Nat.reduceAdd] at M
  refine st_go [1] S rfl (by kernel_rfl) ?_; clear S a; intro a S
  refine nxC ?_
  refine wp_cut (fun a w' => ∃ (bD bT : Nat) (la2 ma2 ka2 ea2 : Option Addr) (lc2 mc2 kc2 ec2 lo hi lo2 hi2 : Nat) (d1 d2 d3 d4 : List Value), Sees 90 a [(1, .pointer (some ⟨bC, 0, none⟩)), (2, .pointer (some ⟨bS, 0, none⟩)), (3, .int .i64 0), (4, .pointer (some ⟨bD, 0, none⟩)), (5, .pointer (some ⟨bT, 0, none⟩)), (6, .int .i64 0)] ∧ Mem w w' [outE d1 d2 d3 d4 lo2 hi2 (.slice la2 0 lc2) (.slice ma2 2 mc2) (.slice ka2 0 kc2) (.slice ea2 1 ec2) ([], [decM ⟨1, 1, 1⟩ false 1, decM ⟨1, 1, 1⟩ false 2], [], [(⟨1, 1, 1⟩, false)]), .blk bT #[.slice ma2 2 mc2, .slice ka2 0 kc2, .slice ea2 1 ec2] 41, .blk bD #[.slice la2 0 lc2] 24, .blk bS #[.slice ma 2 mc, .slice ka 0 kc, .slice ea 0 ec] 41, .blk bC #[.slice la 1 lc] 24, outE c1 c2 c3 c4 lo hi (.slice la 1 lc) (.slice ma 2 mc) (.slice ka 0 kc) (.slice ea 0 ec) ([(dW, [])], [prepM dW [] 1, prepM dW [] 2], [], [])]) ?_ ?_
  · skip
    refine wp_regionK [9, 10] #[false, false, false, false, false, false, false, false, false, false, false, false] rfl M (by kernel_rfl) ?_; clear M; intro w7 M
    refine k_read (listed' := #[true, false, false, false, false, false, false, false, false, false, false, false]) 0 S rfl rfl rfl rfl (by kernel_rfl) rfl (fun _ d _ _ _ h => by cases d <;> exact h) (fun w hW => have M := M.grow hW; y_loadAgg (cs := [_]) S (by kernel_rfl) rfl rfl (M.cellsAt (k := 1) 1 rfl rfl)) ?_; clear S a; intro a S
    refine k_three (l1 := #[true, true, false, false, false, false, false, false, false, false, false, false]) (l2 := #[true, false, false, false, false, false, false, true, false, false, false, false]) (l3 := #[true, false, false, false, false, false, false, false, true, false, false, false]) 1 7 8 rfl rfl rfl (by kernel_rfl) rfl rfl rfl ?_ ?_ ?_
    · skip
      refine st_call (xs := [(Operand.const (Value.int IntKind.i64 2)), (Operand.const (Value.bool false))]) S (enters_of Try.func15 (by decide) rfl) rfl rfl rfl (vote_any 2 false _) ?_
      rintro _ w8 ⟨rfl, hK⟩; refine ⟨_, rfl, ?_⟩; clear S a; intro a S; replace M := M.grow hK
      refine wpList_nil ?_; refine then_normal ?_; refine ⟨fun _ => hK, ?_⟩
      refine k_three (l1 := #[true, true, true, false, false, false, false, false, false, false, false, false]) (l2 := #[true, true, false, false, false, false, false, true, false, false, false, false]) (l3 := #[true, true, false, false, false, false, false, false, true, false, false, false]) 2 7 8 rfl rfl rfl (by kernel_rfl) rfl rfl rfl ?_ ?_ ?_
      · skip
        refine st_call (xs := [(Operand.tmp 16), (Operand.tmp 17)]) S (enters_of Try.func9 (by decide) rfl) rfl rfl rfl (hearC_any la lc _ [(dW, [])] (voteM 2 false) _ [] _ (M.outAt 2 rfl).1 (fun q hq => by simp at hq; subst hq; decide) (Rd.nil _ _ _ _)) ?_
        rintro _ w9 ⟨er2, r2, hR, hc2⟩
        obtain ⟨rfl, rfl⟩ : er2 = 0 ∧ r2 = ([], [decM ⟨1, 1, 1⟩ false 1, decM ⟨1, 1, 1⟩ false 2], [], [(⟨1, 1, 1⟩, false)]) := by
          rcases hc2 with ⟨h1, -, -, h2⟩ | ⟨-, h, -⟩
          · exact ⟨h1, wake_hear h2⟩
          · exact absurd ⟨by decide, by decide, .inl rfl⟩ h
        obtain ⟨cv2, mv2, kv2, ev2, rfl, hK, hO2⟩ := hR
        obtain ⟨la2, lc2, ma2, mc2, ka2, kc2, ea2, ec2, rfl, rfl, rfl, rfl⟩ := hO2.form
        obtain ⟨d1, d2, d3, d4, hO2⟩ := hO2.cells
        refine ⟨_, rfl, ?_⟩; clear S a; intro a S; replace M := M.out hK hO2
        refine wpList_nil ?_; refine then_normal ?_; refine ⟨fun _ => hK, ?_⟩
        refine k_pure (listed' := #[true, true, true, true, false, false, false, false, false, false, false, false]) 3 S rfl rfl rfl rfl (by kernel_rfl) rfl (fun _ d _ _ _ h => by cases d <;> exact h) (fun w => y_move S rfl) ?_; clear S a; intro a S
        refine k_pure (listed' := #[true, true, true, true, true, false, false, false, false, false, false, false]) 4 S rfl rfl rfl rfl (by kernel_rfl) rfl (fun _ d _ _ _ h => by cases d <;> exact h) (fun w => y_extract S rfl rfl) ?_; clear S a; intro a S
        refine k_pure (listed' := #[true, true, true, true, true, true, false, false, false, false, false, false]) 5 S rfl rfl rfl rfl (by kernel_rfl) rfl (fun _ d _ _ _ h => by cases d <;> exact h) (fun w => y_extract S rfl rfl) ?_; clear S a; intro a S
        refine k_pure (listed' := #[true, true, true, true, true, true, true, false, false, false, false, false]) 6 S rfl rfl rfl rfl (by kernel_rfl) rfl (fun _ d _ _ _ h => by cases d <;> exact h) (fun w => y_extract S rfl rfl) ?_; clear S a; intro a S
        refine k_two (l1 := #[true, true, true, true, true, true, true, true, false, false, false, false]) (l2 := #[true, true, true, true, true, true, true, false, true, false, false, false]) 7 8 rfl rfl (by kernel_rfl) rfl rfl ?_ ?_
        · skip
          refine st_alloc S M rfl rfl #[.slice none 0 0] (by kernel_rfl) ?_; clear S M a; intro a w10 bD S M hB
          refine wpList_nil ?_; refine then_normal ?_; refine ⟨fun _ => hB, ?_⟩
          refine k_one (listed' := #[true, true, true, true, true, true, true, true, true, false, false, false]) 8 rfl (by kernel_rfl) rfl ?_
          refine st_alloc S M rfl rfl #[.slice none 0 0, .slice none 0 0, .slice none 0 0] (by kernel_rfl) ?_; clear S M a; intro a w11 bT S M hB
          refine wpList_nil ?_; refine then_normal ?_; refine ⟨fun _ => hB, ?_⟩
          refine k_one (listed' := #[true, true, true, true, true, true, true, true, true, true, false, false]) 9 rfl (by kernel_rfl) rfl ?_
          refine st_store (sz := 1) (us := [_]) S M 1 rfl (by kernel_rfl) rfl rfl rfl rfl rfl rfl (by first | decide | (simp; done) | (simp; omega)) ?_; clear M; intro w12 M
          simp only [putL, List.set_cons_zero, List.set_cons_succ, Nat.reduceAdd] at M
          refine wpList_nil ?_; refine then_normal ?_; refine ⟨fun h => absurd h (by decide), ?_⟩
          refine k_one (listed' := #[true, true, true, true, true, true, true, true, true, true, true, false]) 10 rfl (by kernel_rfl) rfl ?_
          refine st_store (sz := 3) (us := [_, _, _]) S M 0 rfl (by kernel_rfl) rfl rfl rfl rfl rfl rfl (by first | decide | (simp; done) | (simp; omega)) ?_; clear M; intro w13 M
          simp only [putL, List.set_cons_zero, List.set_cons_succ, Nat.reduceAdd] at M
          refine wpList_nil ?_; refine then_normal ?_; refine ⟨fun h => absurd h (by decide), ?_⟩
          refine k_pure (listed' := #[true, true, true, true, true, true, true, true, true, true, true, true]) 11 S rfl rfl rfl rfl (by kernel_rfl) rfl (fun _ d _ _ _ h => by cases d <;> exact h) (fun w => y_assign S rfl) ?_; clear S a; intro a S
          refine k_end (by kernel_rfl) ?_
          replace S := S.sub [(0, _), (1, _), (2, _), (3, _), (4, _), (5, _), (6, _)] rfl
          refine then_normal ?_
          replace M := M.front 1 rfl
          simp only [List.eraseIdx_cons_succ, List.eraseIdx_cons_zero] at M
          replace M := M.front 1 rfl
          simp only [List.eraseIdx_cons_succ, List.eraseIdx_cons_zero] at M
          replace M := M.front 2 rfl
          simp only [List.eraseIdx_cons_succ, List.eraseIdx_cons_zero] at M
          exact ⟨bD, bT, la2, ma2, ka2, ea2, lc2, mc2, kc2, ec2, _, _, _, _, d1, d2, d3, d4, S.sub _ rfl, M⟩
        · skip
          refine st_alloc S M rfl rfl #[.slice none 0 0, .slice none 0 0, .slice none 0 0] (by kernel_rfl) ?_; clear S M a; intro a w14 bT S M hB
          refine wpList_nil ?_; refine then_normal ?_; refine ⟨fun _ => hB, ?_⟩
          refine k_one (listed' := #[true, true, true, true, true, true, true, true, true, false, false, false]) 7 rfl (by kernel_rfl) rfl ?_
          refine st_alloc S M rfl rfl #[.slice none 0 0] (by kernel_rfl) ?_; clear S M a; intro a w15 bD S M hB
          refine wpList_nil ?_; refine then_normal ?_; refine ⟨fun _ => hB, ?_⟩
          refine k_one (listed' := #[true, true, true, true, true, true, true, true, true, true, false, false]) 9 rfl (by kernel_rfl) rfl ?_
          refine st_store (sz := 1) (us := [_]) S M 0 rfl (by kernel_rfl) rfl rfl rfl rfl rfl rfl (by first | decide | (simp; done) | (simp; omega)) ?_; clear M; intro w16 M
          simp only [putL, List.set_cons_zero, List.set_cons_succ, Nat.reduceAdd] at M
          refine wpList_nil ?_; refine then_normal ?_; refine ⟨fun h => absurd h (by decide), ?_⟩
          refine k_one (listed' := #[true, true, true, true, true, true, true, true, true, true, true, false]) 10 rfl (by kernel_rfl) rfl ?_
          refine st_store (sz := 3) (us := [_, _, _]) S M 1 rfl (by kernel_rfl) rfl rfl rfl rfl rfl rfl (by first | decide | (simp; done) | (simp; omega)) ?_; clear M; intro w17 M
          simp only [putL, List.set_cons_zero, List.set_cons_succ, Nat.reduceAdd] at M
          refine wpList_nil ?_; refine then_normal ?_; refine ⟨fun h => absurd h (by decide), ?_⟩
          refine k_pure (listed' := #[true, true, true, true, true, true, true, true, true, true, true, true]) 11 S rfl rfl rfl rfl (by kernel_rfl) rfl (fun _ d _ _ _ h => by cases d <;> exact h) (fun w => y_assign S rfl) ?_; clear S a; intro a S
          refine k_end (by kernel_rfl) ?_
          replace S := S.sub [(0, _), (1, _), (2, _), (3, _), (5, _), (4, _), (6, _)] rfl
          refine then_normal ?_
          replace M := M.front 1 rfl
          simp only [List.eraseIdx_cons_succ, List.eraseIdx_cons_zero] at M
          replace M := M.front 2 rfl
          simp only [List.eraseIdx_cons_succ, List.eraseIdx_cons_zero] at M
          exact ⟨bD, bT, la2, ma2, ka2, ea2, lc2, mc2, kc2, ec2, _, _, _, _, d1, d2, d3, d4, S.sub _ rfl, M⟩
      · skip
        refine st_alloc S M rfl rfl #[.slice none 0 0] (by kernel_rfl) ?_; clear S M a; intro a w18 bD S M hB
        refine wpList_nil ?_; refine then_normal ?_; refine ⟨fun _ => hB, ?_⟩
        refine k_two (l1 := #[true, true, true, false, false, false, false, true, false, false, false, false]) (l2 := #[true, true, false, false, false, false, false, true, true, false, false, false]) 2 8 rfl rfl (by kernel_rfl) rfl rfl ?_ ?_
        · skip
          refine st_call (xs := [(Operand.tmp 16), (Operand.tmp 17)]) S (enters_of Try.func9 (by decide) rfl) rfl rfl rfl (hearC_any la lc _ [(dW, [])] (voteM 2 false) _ [] _ (M.outAt 3 rfl).1 (fun q hq => by simp at hq; subst hq; decide) (Rd.nil _ _ _ _)) ?_
          rintro _ w19 ⟨er2, r2, hR, hc2⟩
          obtain ⟨rfl, rfl⟩ : er2 = 0 ∧ r2 = ([], [decM ⟨1, 1, 1⟩ false 1, decM ⟨1, 1, 1⟩ false 2], [], [(⟨1, 1, 1⟩, false)]) := by
            rcases hc2 with ⟨h1, -, -, h2⟩ | ⟨-, h, -⟩
            · exact ⟨h1, wake_hear h2⟩
            · exact absurd ⟨by decide, by decide, .inl rfl⟩ h
          obtain ⟨cv2, mv2, kv2, ev2, rfl, hK, hO2⟩ := hR
          obtain ⟨la2, lc2, ma2, mc2, ka2, kc2, ea2, ec2, rfl, rfl, rfl, rfl⟩ := hO2.form
          obtain ⟨d1, d2, d3, d4, hO2⟩ := hO2.cells
          refine ⟨_, rfl, ?_⟩; clear S a; intro a S; replace M := M.out hK hO2
          refine wpList_nil ?_; refine then_normal ?_; refine ⟨fun _ => hK, ?_⟩
          refine k_pure (listed' := #[true, true, true, true, false, false, false, true, false, false, false, false]) 3 S rfl rfl rfl rfl (by kernel_rfl) rfl (fun _ d _ _ _ h => by cases d <;> exact h) (fun w => y_move S rfl) ?_; clear S a; intro a S
          refine k_pure (listed' := #[true, true, true, true, true, false, false, true, false, false, false, false]) 4 S rfl rfl rfl rfl (by kernel_rfl) rfl (fun _ d _ _ _ h => by cases d <;> exact h) (fun w => y_extract S rfl rfl) ?_; clear S a; intro a S
          refine k_pure (listed' := #[true, true, true, true, true, true, false, true, false, false, false, false]) 5 S rfl rfl rfl rfl (by kernel_rfl) rfl (fun _ d _ _ _ h => by cases d <;> exact h) (fun w => y_extract S rfl rfl) ?_; clear S a; intro a S
          refine k_pure (listed' := #[true, true, true, true, true, true, true, true, false, false, false, false]) 6 S rfl rfl rfl rfl (by kernel_rfl) rfl (fun _ d _ _ _ h => by cases d <;> exact h) (fun w => y_extract S rfl rfl) ?_; clear S a; intro a S
          refine k_one (listed' := #[true, true, true, true, true, true, true, true, true, false, false, false]) 8 rfl (by kernel_rfl) rfl ?_
          refine st_alloc S M rfl rfl #[.slice none 0 0, .slice none 0 0, .slice none 0 0] (by kernel_rfl) ?_; clear S M a; intro a w20 bT S M hB
          refine wpList_nil ?_; refine then_normal ?_; refine ⟨fun _ => hB, ?_⟩
          refine k_one (listed' := #[true, true, true, true, true, true, true, true, true, true, false, false]) 9 rfl (by kernel_rfl) rfl ?_
          refine st_store (sz := 1) (us := [_]) S M 2 rfl (by kernel_rfl) rfl rfl rfl rfl rfl rfl (by first | decide | (simp; done) | (simp; omega)) ?_; clear M; intro w21 M
          simp only [putL, List.set_cons_zero, List.set_cons_succ, Nat.reduceAdd] at M
          refine wpList_nil ?_; refine then_normal ?_; refine ⟨fun h => absurd h (by decide), ?_⟩
          refine k_one (listed' := #[true, true, true, true, true, true, true, true, true, true, true, false]) 10 rfl (by kernel_rfl) rfl ?_
          refine st_store (sz := 3) (us := [_, _, _]) S M 0 rfl (by kernel_rfl) rfl rfl rfl rfl rfl rfl (by first | decide | (simp; done) | (simp; omega)) ?_; clear M; intro w22 M
          simp only [putL, List.set_cons_zero, List.set_cons_succ, Nat.reduceAdd] at M
          refine wpList_nil ?_; refine then_normal ?_; refine ⟨fun h => absurd h (by decide), ?_⟩
          refine k_pure (listed' := #[true, true, true, true, true, true, true, true, true, true, true, true]) 11 S rfl rfl rfl rfl (by kernel_rfl) rfl (fun _ d _ _ _ h => by cases d <;> exact h) (fun w => y_assign S rfl) ?_; clear S a; intro a S
          refine k_end (by kernel_rfl) ?_
          replace S := S.sub [(0, _), (1, _), (2, _), (3, _), (4, _), (5, _), (6, _)] rfl
          refine then_normal ?_
          replace M := M.front 2 rfl
          simp only [List.eraseIdx_cons_succ, List.eraseIdx_cons_zero] at M
          replace M := M.front 1 rfl
          simp only [List.eraseIdx_cons_succ, List.eraseIdx_cons_zero] at M
          replace M := M.front 2 rfl
          simp only [List.eraseIdx_cons_succ, List.eraseIdx_cons_zero] at M
          exact ⟨bD, bT, la2, ma2, ka2, ea2, lc2, mc2, kc2, ec2, _, _, _, _, d1, d2, d3, d4, S.sub _ rfl, M⟩
        · skip
          refine st_alloc S M rfl rfl #[.slice none 0 0, .slice none 0 0, .slice none 0 0] (by kernel_rfl) ?_; clear S M a; intro a w23 bT S M hB
          refine wpList_nil ?_; refine then_normal ?_; refine ⟨fun _ => hB, ?_⟩
          refine k_one (listed' := #[true, true, true, false, false, false, false, true, true, false, false, false]) 2 rfl (by kernel_rfl) rfl ?_
          refine st_call (xs := [(Operand.tmp 16), (Operand.tmp 17)]) S (enters_of Try.func9 (by decide) rfl) rfl rfl rfl (hearC_any la lc _ [(dW, [])] (voteM 2 false) _ [] _ (M.outAt 4 rfl).1 (fun q hq => by simp at hq; subst hq; decide) (Rd.nil _ _ _ _)) ?_
          rintro _ w24 ⟨er2, r2, hR, hc2⟩
          obtain ⟨rfl, rfl⟩ : er2 = 0 ∧ r2 = ([], [decM ⟨1, 1, 1⟩ false 1, decM ⟨1, 1, 1⟩ false 2], [], [(⟨1, 1, 1⟩, false)]) := by
            rcases hc2 with ⟨h1, -, -, h2⟩ | ⟨-, h, -⟩
            · exact ⟨h1, wake_hear h2⟩
            · exact absurd ⟨by decide, by decide, .inl rfl⟩ h
          obtain ⟨cv2, mv2, kv2, ev2, rfl, hK, hO2⟩ := hR
          obtain ⟨la2, lc2, ma2, mc2, ka2, kc2, ea2, ec2, rfl, rfl, rfl, rfl⟩ := hO2.form
          obtain ⟨d1, d2, d3, d4, hO2⟩ := hO2.cells
          refine ⟨_, rfl, ?_⟩; clear S a; intro a S; replace M := M.out hK hO2
          refine wpList_nil ?_; refine then_normal ?_; refine ⟨fun _ => hK, ?_⟩
          refine k_pure (listed' := #[true, true, true, true, false, false, false, true, true, false, false, false]) 3 S rfl rfl rfl rfl (by kernel_rfl) rfl (fun _ d _ _ _ h => by cases d <;> exact h) (fun w => y_move S rfl) ?_; clear S a; intro a S
          refine k_pure (listed' := #[true, true, true, true, true, false, false, true, true, false, false, false]) 4 S rfl rfl rfl rfl (by kernel_rfl) rfl (fun _ d _ _ _ h => by cases d <;> exact h) (fun w => y_extract S rfl rfl) ?_; clear S a; intro a S
          refine k_pure (listed' := #[true, true, true, true, true, true, false, true, true, false, false, false]) 5 S rfl rfl rfl rfl (by kernel_rfl) rfl (fun _ d _ _ _ h => by cases d <;> exact h) (fun w => y_extract S rfl rfl) ?_; clear S a; intro a S
          refine k_pure (listed' := #[true, true, true, true, true, true, true, true, true, false, false, false]) 6 S rfl rfl rfl rfl (by kernel_rfl) rfl (fun _ d _ _ _ h => by cases d <;> exact h) (fun w => y_extract S rfl rfl) ?_; clear S a; intro a S
          refine k_one (listed' := #[true, true, true, true, true, true, true, true, true, true, false, false]) 9 rfl (by kernel_rfl) rfl ?_
          refine st_store (sz := 1) (us := [_]) S M 2 rfl (by kernel_rfl) rfl rfl rfl rfl rfl rfl (by first | decide | (simp; done) | (simp; omega)) ?_; clear M; intro w25 M
          simp only [putL, List.set_cons_zero, List.set_cons_succ, Nat.reduceAdd] at M
          refine wpList_nil ?_; refine then_normal ?_; refine ⟨fun h => absurd h (by decide), ?_⟩
          refine k_one (listed' := #[true, true, true, true, true, true, true, true, true, true, true, false]) 10 rfl (by kernel_rfl) rfl ?_
          refine st_store (sz := 3) (us := [_, _, _]) S M 1 rfl (by kernel_rfl) rfl rfl rfl rfl rfl rfl (by first | decide | (simp; done) | (simp; omega)) ?_; clear M; intro w26 M
          simp only [putL, List.set_cons_zero, List.set_cons_succ, Nat.reduceAdd] at M
          refine wpList_nil ?_; refine then_normal ?_; refine ⟨fun h => absurd h (by decide), ?_⟩
          refine k_pure (listed' := #[true, true, true, true, true, true, true, true, true, true, true, true]) 11 S rfl rfl rfl rfl (by kernel_rfl) rfl (fun _ d _ _ _ h => by cases d <;> exact h) (fun w => y_assign S rfl) ?_; clear S a; intro a S
          refine k_end (by kernel_rfl) ?_
          replace S := S.sub [(0, _), (1, _), (2, _), (3, _), (4, _), (5, _), (6, _)] rfl
          refine then_normal ?_
          replace M := M.front 2 rfl
          simp only [List.eraseIdx_cons_succ, List.eraseIdx_cons_zero] at M
          replace M := M.front 2 rfl
          simp only [List.eraseIdx_cons_succ, List.eraseIdx_cons_zero] at M
          replace M := M.front 2 rfl
          simp only [List.eraseIdx_cons_succ, List.eraseIdx_cons_zero] at M
          exact ⟨bD, bT, la2, ma2, ka2, ea2, lc2, mc2, kc2, ec2, _, _, _, _, d1, d2, d3, d4, S.sub _ rfl, M⟩
      · skip
        refine st_alloc S M rfl rfl #[.slice none 0 0, .slice none 0 0, .slice none 0 0] (by kernel_rfl) ?_; clear S M a; intro a w27 bT S M hB
        refine wpList_nil ?_; refine then_normal ?_; refine ⟨fun _ => hB, ?_⟩
        refine k_two (l1 := #[true, true, true, false, false, false, false, false, true, false, false, false]) (l2 := #[true, true, false, false, false, false, false, true, true, false, false, false]) 2 7 rfl rfl (by kernel_rfl) rfl rfl ?_ ?_
        · skip
          refine st_call (xs := [(Operand.tmp 16), (Operand.tmp 17)]) S (enters_of Try.func9 (by decide) rfl) rfl rfl rfl (hearC_any la lc _ [(dW, [])] (voteM 2 false) _ [] _ (M.outAt 3 rfl).1 (fun q hq => by simp at hq; subst hq; decide) (Rd.nil _ _ _ _)) ?_
          rintro _ w28 ⟨er2, r2, hR, hc2⟩
          obtain ⟨rfl, rfl⟩ : er2 = 0 ∧ r2 = ([], [decM ⟨1, 1, 1⟩ false 1, decM ⟨1, 1, 1⟩ false 2], [], [(⟨1, 1, 1⟩, false)]) := by
            rcases hc2 with ⟨h1, -, -, h2⟩ | ⟨-, h, -⟩
            · exact ⟨h1, wake_hear h2⟩
            · exact absurd ⟨by decide, by decide, .inl rfl⟩ h
          obtain ⟨cv2, mv2, kv2, ev2, rfl, hK, hO2⟩ := hR
          obtain ⟨la2, lc2, ma2, mc2, ka2, kc2, ea2, ec2, rfl, rfl, rfl, rfl⟩ := hO2.form
          obtain ⟨d1, d2, d3, d4, hO2⟩ := hO2.cells
          refine ⟨_, rfl, ?_⟩; clear S a; intro a S; replace M := M.out hK hO2
          refine wpList_nil ?_; refine then_normal ?_; refine ⟨fun _ => hK, ?_⟩
          refine k_pure (listed' := #[true, true, true, true, false, false, false, false, true, false, false, false]) 3 S rfl rfl rfl rfl (by kernel_rfl) rfl (fun _ d _ _ _ h => by cases d <;> exact h) (fun w => y_move S rfl) ?_; clear S a; intro a S
          refine k_pure (listed' := #[true, true, true, true, true, false, false, false, true, false, false, false]) 4 S rfl rfl rfl rfl (by kernel_rfl) rfl (fun _ d _ _ _ h => by cases d <;> exact h) (fun w => y_extract S rfl rfl) ?_; clear S a; intro a S
          refine k_pure (listed' := #[true, true, true, true, true, true, false, false, true, false, false, false]) 5 S rfl rfl rfl rfl (by kernel_rfl) rfl (fun _ d _ _ _ h => by cases d <;> exact h) (fun w => y_extract S rfl rfl) ?_; clear S a; intro a S
          refine k_pure (listed' := #[true, true, true, true, true, true, true, false, true, false, false, false]) 6 S rfl rfl rfl rfl (by kernel_rfl) rfl (fun _ d _ _ _ h => by cases d <;> exact h) (fun w => y_extract S rfl rfl) ?_; clear S a; intro a S
          refine k_one (listed' := #[true, true, true, true, true, true, true, true, true, false, false, false]) 7 rfl (by kernel_rfl) rfl ?_
          refine st_alloc S M rfl rfl #[.slice none 0 0] (by kernel_rfl) ?_; clear S M a; intro a w29 bD S M hB
          refine wpList_nil ?_; refine then_normal ?_; refine ⟨fun _ => hB, ?_⟩
          refine k_one (listed' := #[true, true, true, true, true, true, true, true, true, true, false, false]) 9 rfl (by kernel_rfl) rfl ?_
          refine st_store (sz := 1) (us := [_]) S M 0 rfl (by kernel_rfl) rfl rfl rfl rfl rfl rfl (by first | decide | (simp; done) | (simp; omega)) ?_; clear M; intro w30 M
          simp only [putL, List.set_cons_zero, List.set_cons_succ, Nat.reduceAdd] at M
          refine wpList_nil ?_; refine then_normal ?_; refine ⟨fun h => absurd h (by decide), ?_⟩
          refine k_one (listed' := #[true, true, true, true, true, true, true, true, true, true, true, false]) 10 rfl (by kernel_rfl) rfl ?_
          refine st_store (sz := 3) (us := [_, _, _]) S M 2 rfl (by kernel_rfl) rfl rfl rfl rfl rfl rfl (by first | decide | (simp; done) | (simp; omega)) ?_; clear M; intro w31 M
          simp only [putL, List.set_cons_zero, List.set_cons_succ, Nat.reduceAdd] at M
          refine wpList_nil ?_; refine then_normal ?_; refine ⟨fun h => absurd h (by decide), ?_⟩
          refine k_pure (listed' := #[true, true, true, true, true, true, true, true, true, true, true, true]) 11 S rfl rfl rfl rfl (by kernel_rfl) rfl (fun _ d _ _ _ h => by cases d <;> exact h) (fun w => y_assign S rfl) ?_; clear S a; intro a S
          refine k_end (by kernel_rfl) ?_
          replace S := S.sub [(0, _), (1, _), (2, _), (3, _), (5, _), (4, _), (6, _)] rfl
          refine then_normal ?_
          replace M := M.front 2 rfl
          simp only [List.eraseIdx_cons_succ, List.eraseIdx_cons_zero] at M
          replace M := M.front 2 rfl
          simp only [List.eraseIdx_cons_succ, List.eraseIdx_cons_zero] at M
          exact ⟨bD, bT, la2, ma2, ka2, ea2, lc2, mc2, kc2, ec2, _, _, _, _, d1, d2, d3, d4, S.sub _ rfl, M⟩
        · skip
          refine st_alloc S M rfl rfl #[.slice none 0 0] (by kernel_rfl) ?_; clear S M a; intro a w32 bD S M hB
          refine wpList_nil ?_; refine then_normal ?_; refine ⟨fun _ => hB, ?_⟩
          refine k_one (listed' := #[true, true, true, false, false, false, false, true, true, false, false, false]) 2 rfl (by kernel_rfl) rfl ?_
          refine st_call (xs := [(Operand.tmp 16), (Operand.tmp 17)]) S (enters_of Try.func9 (by decide) rfl) rfl rfl rfl (hearC_any la lc _ [(dW, [])] (voteM 2 false) _ [] _ (M.outAt 4 rfl).1 (fun q hq => by simp at hq; subst hq; decide) (Rd.nil _ _ _ _)) ?_
          rintro _ w33 ⟨er2, r2, hR, hc2⟩
          obtain ⟨rfl, rfl⟩ : er2 = 0 ∧ r2 = ([], [decM ⟨1, 1, 1⟩ false 1, decM ⟨1, 1, 1⟩ false 2], [], [(⟨1, 1, 1⟩, false)]) := by
            rcases hc2 with ⟨h1, -, -, h2⟩ | ⟨-, h, -⟩
            · exact ⟨h1, wake_hear h2⟩
            · exact absurd ⟨by decide, by decide, .inl rfl⟩ h
          obtain ⟨cv2, mv2, kv2, ev2, rfl, hK, hO2⟩ := hR
          obtain ⟨la2, lc2, ma2, mc2, ka2, kc2, ea2, ec2, rfl, rfl, rfl, rfl⟩ := hO2.form
          obtain ⟨d1, d2, d3, d4, hO2⟩ := hO2.cells
          refine ⟨_, rfl, ?_⟩; clear S a; intro a S; replace M := M.out hK hO2
          refine wpList_nil ?_; refine then_normal ?_; refine ⟨fun _ => hK, ?_⟩
          refine k_pure (listed' := #[true, true, true, true, false, false, false, true, true, false, false, false]) 3 S rfl rfl rfl rfl (by kernel_rfl) rfl (fun _ d _ _ _ h => by cases d <;> exact h) (fun w => y_move S rfl) ?_; clear S a; intro a S
          refine k_pure (listed' := #[true, true, true, true, true, false, false, true, true, false, false, false]) 4 S rfl rfl rfl rfl (by kernel_rfl) rfl (fun _ d _ _ _ h => by cases d <;> exact h) (fun w => y_extract S rfl rfl) ?_; clear S a; intro a S
          refine k_pure (listed' := #[true, true, true, true, true, true, false, true, true, false, false, false]) 5 S rfl rfl rfl rfl (by kernel_rfl) rfl (fun _ d _ _ _ h => by cases d <;> exact h) (fun w => y_extract S rfl rfl) ?_; clear S a; intro a S
          refine k_pure (listed' := #[true, true, true, true, true, true, true, true, true, false, false, false]) 6 S rfl rfl rfl rfl (by kernel_rfl) rfl (fun _ d _ _ _ h => by cases d <;> exact h) (fun w => y_extract S rfl rfl) ?_; clear S a; intro a S
          refine k_one (listed' := #[true, true, true, true, true, true, true, true, true, true, false, false]) 9 rfl (by kernel_rfl) rfl ?_
          refine st_store (sz := 1) (us := [_]) S M 1 rfl (by kernel_rfl) rfl rfl rfl rfl rfl rfl (by first | decide | (simp; done) | (simp; omega)) ?_; clear M; intro w34 M
          simp only [putL, List.set_cons_zero, List.set_cons_succ, Nat.reduceAdd] at M
          refine wpList_nil ?_; refine then_normal ?_; refine ⟨fun h => absurd h (by decide), ?_⟩
          refine k_one (listed' := #[true, true, true, true, true, true, true, true, true, true, true, false]) 10 rfl (by kernel_rfl) rfl ?_
          refine st_store (sz := 3) (us := [_, _, _]) S M 2 rfl (by kernel_rfl) rfl rfl rfl rfl rfl rfl (by first | decide | (simp; done) | (simp; omega)) ?_; clear M; intro w35 M
          simp only [putL, List.set_cons_zero, List.set_cons_succ, Nat.reduceAdd] at M
          refine wpList_nil ?_; refine then_normal ?_; refine ⟨fun h => absurd h (by decide), ?_⟩
          refine k_pure (listed' := #[true, true, true, true, true, true, true, true, true, true, true, true]) 11 S rfl rfl rfl rfl (by kernel_rfl) rfl (fun _ d _ _ _ h => by cases d <;> exact h) (fun w => y_assign S rfl) ?_; clear S a; intro a S
          refine k_end (by kernel_rfl) ?_
          replace S := S.sub [(0, _), (1, _), (2, _), (3, _), (5, _), (4, _), (6, _)] rfl
          refine then_normal ?_
          replace M := M.front 1 rfl
          simp only [List.eraseIdx_cons_succ, List.eraseIdx_cons_zero] at M
          replace M := M.front 2 rfl
          simp only [List.eraseIdx_cons_succ, List.eraseIdx_cons_zero] at M
          replace M := M.front 2 rfl
          simp only [List.eraseIdx_cons_succ, List.eraseIdx_cons_zero] at M
          exact ⟨bD, bT, la2, ma2, ka2, ea2, lc2, mc2, kc2, ec2, _, _, _, _, d1, d2, d3, d4, S.sub _ rfl, M⟩
    · skip
      refine st_alloc S M rfl rfl #[.slice none 0 0] (by kernel_rfl) ?_; clear S M a; intro a w36 bD S M hB
      refine wpList_nil ?_; refine then_normal ?_; refine ⟨fun _ => hB, ?_⟩
      refine k_two (l1 := #[true, true, false, false, false, false, false, true, false, false, false, false]) (l2 := #[true, false, false, false, false, false, false, true, true, false, false, false]) 1 8 rfl rfl (by kernel_rfl) rfl rfl ?_ ?_
      · skip
        refine st_call (xs := [(Operand.const (Value.int IntKind.i64 2)), (Operand.const (Value.bool false))]) S (enters_of Try.func15 (by decide) rfl) rfl rfl rfl (vote_any 2 false _) ?_
        rintro _ w37 ⟨rfl, hK⟩; refine ⟨_, rfl, ?_⟩; clear S a; intro a S; replace M := M.grow hK
        refine wpList_nil ?_; refine then_normal ?_; refine ⟨fun _ => hK, ?_⟩
        refine k_two (l1 := #[true, true, true, false, false, false, false, true, false, false, false, false]) (l2 := #[true, true, false, false, false, false, false, true, true, false, false, false]) 2 8 rfl rfl (by kernel_rfl) rfl rfl ?_ ?_
        · skip
          refine st_call (xs := [(Operand.tmp 16), (Operand.tmp 17)]) S (enters_of Try.func9 (by decide) rfl) rfl rfl rfl (hearC_any la lc _ [(dW, [])] (voteM 2 false) _ [] _ (M.outAt 3 rfl).1 (fun q hq => by simp at hq; subst hq; decide) (Rd.nil _ _ _ _)) ?_
          rintro _ w38 ⟨er2, r2, hR, hc2⟩
          obtain ⟨rfl, rfl⟩ : er2 = 0 ∧ r2 = ([], [decM ⟨1, 1, 1⟩ false 1, decM ⟨1, 1, 1⟩ false 2], [], [(⟨1, 1, 1⟩, false)]) := by
            rcases hc2 with ⟨h1, -, -, h2⟩ | ⟨-, h, -⟩
            · exact ⟨h1, wake_hear h2⟩
            · exact absurd ⟨by decide, by decide, .inl rfl⟩ h
          obtain ⟨cv2, mv2, kv2, ev2, rfl, hK, hO2⟩ := hR
          obtain ⟨la2, lc2, ma2, mc2, ka2, kc2, ea2, ec2, rfl, rfl, rfl, rfl⟩ := hO2.form
          obtain ⟨d1, d2, d3, d4, hO2⟩ := hO2.cells
          refine ⟨_, rfl, ?_⟩; clear S a; intro a S; replace M := M.out hK hO2
          refine wpList_nil ?_; refine then_normal ?_; refine ⟨fun _ => hK, ?_⟩
          refine k_pure (listed' := #[true, true, true, true, false, false, false, true, false, false, false, false]) 3 S rfl rfl rfl rfl (by kernel_rfl) rfl (fun _ d _ _ _ h => by cases d <;> exact h) (fun w => y_move S rfl) ?_; clear S a; intro a S
          refine k_pure (listed' := #[true, true, true, true, true, false, false, true, false, false, false, false]) 4 S rfl rfl rfl rfl (by kernel_rfl) rfl (fun _ d _ _ _ h => by cases d <;> exact h) (fun w => y_extract S rfl rfl) ?_; clear S a; intro a S
          refine k_pure (listed' := #[true, true, true, true, true, true, false, true, false, false, false, false]) 5 S rfl rfl rfl rfl (by kernel_rfl) rfl (fun _ d _ _ _ h => by cases d <;> exact h) (fun w => y_extract S rfl rfl) ?_; clear S a; intro a S
          refine k_pure (listed' := #[true, true, true, true, true, true, true, true, false, false, false, false]) 6 S rfl rfl rfl rfl (by kernel_rfl) rfl (fun _ d _ _ _ h => by cases d <;> exact h) (fun w => y_extract S rfl rfl) ?_; clear S a; intro a S
          refine k_one (listed' := #[true, true, true, true, true, true, true, true, true, false, false, false]) 8 rfl (by kernel_rfl) rfl ?_
          refine st_alloc S M rfl rfl #[.slice none 0 0, .slice none 0 0, .slice none 0 0] (by kernel_rfl) ?_; clear S M a; intro a w39 bT S M hB
          refine wpList_nil ?_; refine then_normal ?_; refine ⟨fun _ => hB, ?_⟩
          refine k_one (listed' := #[true, true, true, true, true, true, true, true, true, true, false, false]) 9 rfl (by kernel_rfl) rfl ?_
          refine st_store (sz := 1) (us := [_]) S M 2 rfl (by kernel_rfl) rfl rfl rfl rfl rfl rfl (by first | decide | (simp; done) | (simp; omega)) ?_; clear M; intro w40 M
          simp only [putL, List.set_cons_zero, List.set_cons_succ, Nat.reduceAdd] at M
          refine wpList_nil ?_; refine then_normal ?_; refine ⟨fun h => absurd h (by decide), ?_⟩
          refine k_one (listed' := #[true, true, true, true, true, true, true, true, true, true, true, false]) 10 rfl (by kernel_rfl) rfl ?_
          refine st_store (sz := 3) (us := [_, _, _]) S M 0 rfl (by kernel_rfl) rfl rfl rfl rfl rfl rfl (by first | decide | (simp; done) | (simp; omega)) ?_; clear M; intro w41 M
          simp only [putL, List.set_cons_zero, List.set_cons_succ, Nat.reduceAdd] at M
          refine wpList_nil ?_; refine then_normal ?_; refine ⟨fun h => absurd h (by decide), ?_⟩
          refine k_pure (listed' := #[true, true, true, true, true, true, true, true, true, true, true, true]) 11 S rfl rfl rfl rfl (by kernel_rfl) rfl (fun _ d _ _ _ h => by cases d <;> exact h) (fun w => y_assign S rfl) ?_; clear S a; intro a S
          refine k_end (by kernel_rfl) ?_
          replace S := S.sub [(0, _), (1, _), (2, _), (3, _), (4, _), (5, _), (6, _)] rfl
          refine then_normal ?_
          replace M := M.front 2 rfl
          simp only [List.eraseIdx_cons_succ, List.eraseIdx_cons_zero] at M
          replace M := M.front 1 rfl
          simp only [List.eraseIdx_cons_succ, List.eraseIdx_cons_zero] at M
          replace M := M.front 2 rfl
          simp only [List.eraseIdx_cons_succ, List.eraseIdx_cons_zero] at M
          exact ⟨bD, bT, la2, ma2, ka2, ea2, lc2, mc2, kc2, ec2, _, _, _, _, d1, d2, d3, d4, S.sub _ rfl, M⟩
        · skip
          refine st_alloc S M rfl rfl #[.slice none 0 0, .slice none 0 0, .slice none 0 0] (by kernel_rfl) ?_; clear S M a; intro a w42 bT S M hB
          refine wpList_nil ?_; refine then_normal ?_; refine ⟨fun _ => hB, ?_⟩
          refine k_one (listed' := #[true, true, true, false, false, false, false, true, true, false, false, false]) 2 rfl (by kernel_rfl) rfl ?_
          refine st_call (xs := [(Operand.tmp 16), (Operand.tmp 17)]) S (enters_of Try.func9 (by decide) rfl) rfl rfl rfl (hearC_any la lc _ [(dW, [])] (voteM 2 false) _ [] _ (M.outAt 4 rfl).1 (fun q hq => by simp at hq; subst hq; decide) (Rd.nil _ _ _ _)) ?_
          rintro _ w43 ⟨er2, r2, hR, hc2⟩
          obtain ⟨rfl, rfl⟩ : er2 = 0 ∧ r2 = ([], [decM ⟨1, 1, 1⟩ false 1, decM ⟨1, 1, 1⟩ false 2], [], [(⟨1, 1, 1⟩, false)]) := by
            rcases hc2 with ⟨h1, -, -, h2⟩ | ⟨-, h, -⟩
            · exact ⟨h1, wake_hear h2⟩
            · exact absurd ⟨by decide, by decide, .inl rfl⟩ h
          obtain ⟨cv2, mv2, kv2, ev2, rfl, hK, hO2⟩ := hR
          obtain ⟨la2, lc2, ma2, mc2, ka2, kc2, ea2, ec2, rfl, rfl, rfl, rfl⟩ := hO2.form
          obtain ⟨d1, d2, d3, d4, hO2⟩ := hO2.cells
          refine ⟨_, rfl, ?_⟩; clear S a; intro a S; replace M := M.out hK hO2
          refine wpList_nil ?_; refine then_normal ?_; refine ⟨fun _ => hK, ?_⟩
          refine k_pure (listed' := #[true, true, true, true, false, false, false, true, true, false, false, false]) 3 S rfl rfl rfl rfl (by kernel_rfl) rfl (fun _ d _ _ _ h => by cases d <;> exact h) (fun w => y_move S rfl) ?_; clear S a; intro a S
          refine k_pure (listed' := #[true, true, true, true, true, false, false, true, true, false, false, false]) 4 S rfl rfl rfl rfl (by kernel_rfl) rfl (fun _ d _ _ _ h => by cases d <;> exact h) (fun w => y_extract S rfl rfl) ?_; clear S a; intro a S
          refine k_pure (listed' := #[true, true, true, true, true, true, false, true, true, false, false, false]) 5 S rfl rfl rfl rfl (by kernel_rfl) rfl (fun _ d _ _ _ h => by cases d <;> exact h) (fun w => y_extract S rfl rfl) ?_; clear S a; intro a S
          refine k_pure (listed' := #[true, true, true, true, true, true, true, true, true, false, false, false]) 6 S rfl rfl rfl rfl (by kernel_rfl) rfl (fun _ d _ _ _ h => by cases d <;> exact h) (fun w => y_extract S rfl rfl) ?_; clear S a; intro a S
          refine k_one (listed' := #[true, true, true, true, true, true, true, true, true, true, false, false]) 9 rfl (by kernel_rfl) rfl ?_
          refine st_store (sz := 1) (us := [_]) S M 2 rfl (by kernel_rfl) rfl rfl rfl rfl rfl rfl (by first | decide | (simp; done) | (simp; omega)) ?_; clear M; intro w44 M
          simp only [putL, List.set_cons_zero, List.set_cons_succ, Nat.reduceAdd] at M
          refine wpList_nil ?_; refine then_normal ?_; refine ⟨fun h => absurd h (by decide), ?_⟩
          refine k_one (listed' := #[true, true, true, true, true, true, true, true, true, true, true, false]) 10 rfl (by kernel_rfl) rfl ?_
          refine st_store (sz := 3) (us := [_, _, _]) S M 1 rfl (by kernel_rfl) rfl rfl rfl rfl rfl rfl (by first | decide | (simp; done) | (simp; omega)) ?_; clear M; intro w45 M
          simp only [putL, List.set_cons_zero, List.set_cons_succ, Nat.reduceAdd] at M
          refine wpList_nil ?_; refine then_normal ?_; refine ⟨fun h => absurd h (by decide), ?_⟩
          refine k_pure (listed' := #[true, true, true, true, true, true, true, true, true, true, true, true]) 11 S rfl rfl rfl rfl (by kernel_rfl) rfl (fun _ d _ _ _ h => by cases d <;> exact h) (fun w => y_assign S rfl) ?_; clear S a; intro a S
          refine k_end (by kernel_rfl) ?_
          replace S := S.sub [(0, _), (1, _), (2, _), (3, _), (4, _), (5, _), (6, _)] rfl
          refine then_normal ?_
          replace M := M.front 2 rfl
          simp only [List.eraseIdx_cons_succ, List.eraseIdx_cons_zero] at M
          replace M := M.front 2 rfl
          simp only [List.eraseIdx_cons_succ, List.eraseIdx_cons_zero] at M
          replace M := M.front 2 rfl
          simp only [List.eraseIdx_cons_succ, List.eraseIdx_cons_zero] at M
          exact ⟨bD, bT, la2, ma2, ka2, ea2, lc2, mc2, kc2, ec2, _, _, _, _, d1, d2, d3, d4, S.sub _ rfl, M⟩
      · skip
        refine st_alloc S M rfl rfl #[.slice none 0 0, .slice none 0 0, .slice none 0 0] (by kernel_rfl) ?_; clear S M a; intro a w46 bT S M hB
        refine wpList_nil ?_; refine then_normal ?_; refine ⟨fun _ => hB, ?_⟩
        refine k_one (listed' := #[true, true, false, false, false, false, false, true, true, false, false, false]) 1 rfl (by kernel_rfl) rfl ?_
        refine st_call (xs := [(Operand.const (Value.int IntKind.i64 2)), (Operand.const (Value.bool false))]) S (enters_of Try.func15 (by decide) rfl) rfl rfl rfl (vote_any 2 false _) ?_
        rintro _ w47 ⟨rfl, hK⟩; refine ⟨_, rfl, ?_⟩; clear S a; intro a S; replace M := M.grow hK
        refine wpList_nil ?_; refine then_normal ?_; refine ⟨fun _ => hK, ?_⟩
        refine k_one (listed' := #[true, true, true, false, false, false, false, true, true, false, false, false]) 2 rfl (by kernel_rfl) rfl ?_
        refine st_call (xs := [(Operand.tmp 16), (Operand.tmp 17)]) S (enters_of Try.func9 (by decide) rfl) rfl rfl rfl (hearC_any la lc _ [(dW, [])] (voteM 2 false) _ [] _ (M.outAt 4 rfl).1 (fun q hq => by simp at hq; subst hq; decide) (Rd.nil _ _ _ _)) ?_
        rintro _ w48 ⟨er2, r2, hR, hc2⟩
        obtain ⟨rfl, rfl⟩ : er2 = 0 ∧ r2 = ([], [decM ⟨1, 1, 1⟩ false 1, decM ⟨1, 1, 1⟩ false 2], [], [(⟨1, 1, 1⟩, false)]) := by
          rcases hc2 with ⟨h1, -, -, h2⟩ | ⟨-, h, -⟩
          · exact ⟨h1, wake_hear h2⟩
          · exact absurd ⟨by decide, by decide, .inl rfl⟩ h
        obtain ⟨cv2, mv2, kv2, ev2, rfl, hK, hO2⟩ := hR
        obtain ⟨la2, lc2, ma2, mc2, ka2, kc2, ea2, ec2, rfl, rfl, rfl, rfl⟩ := hO2.form
        obtain ⟨d1, d2, d3, d4, hO2⟩ := hO2.cells
        refine ⟨_, rfl, ?_⟩; clear S a; intro a S; replace M := M.out hK hO2
        refine wpList_nil ?_; refine then_normal ?_; refine ⟨fun _ => hK, ?_⟩
        refine k_pure (listed' := #[true, true, true, true, false, false, false, true, true, false, false, false]) 3 S rfl rfl rfl rfl (by kernel_rfl) rfl (fun _ d _ _ _ h => by cases d <;> exact h) (fun w => y_move S rfl) ?_; clear S a; intro a S
        refine k_pure (listed' := #[true, true, true, true, true, false, false, true, true, false, false, false]) 4 S rfl rfl rfl rfl (by kernel_rfl) rfl (fun _ d _ _ _ h => by cases d <;> exact h) (fun w => y_extract S rfl rfl) ?_; clear S a; intro a S
        refine k_pure (listed' := #[true, true, true, true, true, true, false, true, true, false, false, false]) 5 S rfl rfl rfl rfl (by kernel_rfl) rfl (fun _ d _ _ _ h => by cases d <;> exact h) (fun w => y_extract S rfl rfl) ?_; clear S a; intro a S
        refine k_pure (listed' := #[true, true, true, true, true, true, true, true, true, false, false, false]) 6 S rfl rfl rfl rfl (by kernel_rfl) rfl (fun _ d _ _ _ h => by cases d <;> exact h) (fun w => y_extract S rfl rfl) ?_; clear S a; intro a S
        refine k_one (listed' := #[true, true, true, true, true, true, true, true, true, true, false, false]) 9 rfl (by kernel_rfl) rfl ?_
        refine st_store (sz := 1) (us := [_]) S M 2 rfl (by kernel_rfl) rfl rfl rfl rfl rfl rfl (by first | decide | (simp; done) | (simp; omega)) ?_; clear M; intro w49 M
        simp only [putL, List.set_cons_zero, List.set_cons_succ, Nat.reduceAdd] at M
        refine wpList_nil ?_; refine then_normal ?_; refine ⟨fun h => absurd h (by decide), ?_⟩
        refine k_one (listed' := #[true, true, true, true, true, true, true, true, true, true, true, false]) 10 rfl (by kernel_rfl) rfl ?_
        refine st_store (sz := 3) (us := [_, _, _]) S M 1 rfl (by kernel_rfl) rfl rfl rfl rfl rfl rfl (by first | decide | (simp; done) | (simp; omega)) ?_; clear M; intro w50 M
        simp only [putL, List.set_cons_zero, List.set_cons_succ, Nat.reduceAdd] at M
        refine wpList_nil ?_; refine then_normal ?_; refine ⟨fun h => absurd h (by decide), ?_⟩
        refine k_pure (listed' := #[true, true, true, true, true, true, true, true, true, true, true, true]) 11 S rfl rfl rfl rfl (by kernel_rfl) rfl (fun _ d _ _ _ h => by cases d <;> exact h) (fun w => y_assign S rfl) ?_; clear S a; intro a S
        refine k_end (by kernel_rfl) ?_
        replace S := S.sub [(0, _), (1, _), (2, _), (3, _), (4, _), (5, _), (6, _)] rfl
        refine then_normal ?_
        replace M := M.front 2 rfl
        simp only [List.eraseIdx_cons_succ, List.eraseIdx_cons_zero] at M
        replace M := M.front 2 rfl
        simp only [List.eraseIdx_cons_succ, List.eraseIdx_cons_zero] at M
        replace M := M.front 2 rfl
        simp only [List.eraseIdx_cons_succ, List.eraseIdx_cons_zero] at M
        exact ⟨bD, bT, la2, ma2, ka2, ea2, lc2, mc2, kc2, ec2, _, _, _, _, d1, d2, d3, d4, S.sub _ rfl, M⟩
    · skip
      refine st_alloc S M rfl rfl #[.slice none 0 0, .slice none 0 0, .slice none 0 0] (by kernel_rfl) ?_; clear S M a; intro a w51 bT S M hB
      refine wpList_nil ?_; refine then_normal ?_; refine ⟨fun _ => hB, ?_⟩
      refine k_two (l1 := #[true, true, false, false, false, false, false, false, true, false, false, false]) (l2 := #[true, false, false, false, false, false, false, true, true, false, false, false]) 1 7 rfl rfl (by kernel_rfl) rfl rfl ?_ ?_
      · skip
        refine st_call (xs := [(Operand.const (Value.int IntKind.i64 2)), (Operand.const (Value.bool false))]) S (enters_of Try.func15 (by decide) rfl) rfl rfl rfl (vote_any 2 false _) ?_
        rintro _ w52 ⟨rfl, hK⟩; refine ⟨_, rfl, ?_⟩; clear S a; intro a S; replace M := M.grow hK
        refine wpList_nil ?_; refine then_normal ?_; refine ⟨fun _ => hK, ?_⟩
        refine k_two (l1 := #[true, true, true, false, false, false, false, false, true, false, false, false]) (l2 := #[true, true, false, false, false, false, false, true, true, false, false, false]) 2 7 rfl rfl (by kernel_rfl) rfl rfl ?_ ?_
        · skip
          refine st_call (xs := [(Operand.tmp 16), (Operand.tmp 17)]) S (enters_of Try.func9 (by decide) rfl) rfl rfl rfl (hearC_any la lc _ [(dW, [])] (voteM 2 false) _ [] _ (M.outAt 3 rfl).1 (fun q hq => by simp at hq; subst hq; decide) (Rd.nil _ _ _ _)) ?_
          rintro _ w53 ⟨er2, r2, hR, hc2⟩
          obtain ⟨rfl, rfl⟩ : er2 = 0 ∧ r2 = ([], [decM ⟨1, 1, 1⟩ false 1, decM ⟨1, 1, 1⟩ false 2], [], [(⟨1, 1, 1⟩, false)]) := by
            rcases hc2 with ⟨h1, -, -, h2⟩ | ⟨-, h, -⟩
            · exact ⟨h1, wake_hear h2⟩
            · exact absurd ⟨by decide, by decide, .inl rfl⟩ h
          obtain ⟨cv2, mv2, kv2, ev2, rfl, hK, hO2⟩ := hR
          obtain ⟨la2, lc2, ma2, mc2, ka2, kc2, ea2, ec2, rfl, rfl, rfl, rfl⟩ := hO2.form
          obtain ⟨d1, d2, d3, d4, hO2⟩ := hO2.cells
          refine ⟨_, rfl, ?_⟩; clear S a; intro a S; replace M := M.out hK hO2
          refine wpList_nil ?_; refine then_normal ?_; refine ⟨fun _ => hK, ?_⟩
          refine k_pure (listed' := #[true, true, true, true, false, false, false, false, true, false, false, false]) 3 S rfl rfl rfl rfl (by kernel_rfl) rfl (fun _ d _ _ _ h => by cases d <;> exact h) (fun w => y_move S rfl) ?_; clear S a; intro a S
          refine k_pure (listed' := #[true, true, true, true, true, false, false, false, true, false, false, false]) 4 S rfl rfl rfl rfl (by kernel_rfl) rfl (fun _ d _ _ _ h => by cases d <;> exact h) (fun w => y_extract S rfl rfl) ?_; clear S a; intro a S
          refine k_pure (listed' := #[true, true, true, true, true, true, false, false, true, false, false, false]) 5 S rfl rfl rfl rfl (by kernel_rfl) rfl (fun _ d _ _ _ h => by cases d <;> exact h) (fun w => y_extract S rfl rfl) ?_; clear S a; intro a S
          refine k_pure (listed' := #[true, true, true, true, true, true, true, false, true, false, false, false]) 6 S rfl rfl rfl rfl (by kernel_rfl) rfl (fun _ d _ _ _ h => by cases d <;> exact h) (fun w => y_extract S rfl rfl) ?_; clear S a; intro a S
          refine k_one (listed' := #[true, true, true, true, true, true, true, true, true, false, false, false]) 7 rfl (by kernel_rfl) rfl ?_
          refine st_alloc S M rfl rfl #[.slice none 0 0] (by kernel_rfl) ?_; clear S M a; intro a w54 bD S M hB
          refine wpList_nil ?_; refine then_normal ?_; refine ⟨fun _ => hB, ?_⟩
          refine k_one (listed' := #[true, true, true, true, true, true, true, true, true, true, false, false]) 9 rfl (by kernel_rfl) rfl ?_
          refine st_store (sz := 1) (us := [_]) S M 0 rfl (by kernel_rfl) rfl rfl rfl rfl rfl rfl (by first | decide | (simp; done) | (simp; omega)) ?_; clear M; intro w55 M
          simp only [putL, List.set_cons_zero, List.set_cons_succ, Nat.reduceAdd] at M
          refine wpList_nil ?_; refine then_normal ?_; refine ⟨fun h => absurd h (by decide), ?_⟩
          refine k_one (listed' := #[true, true, true, true, true, true, true, true, true, true, true, false]) 10 rfl (by kernel_rfl) rfl ?_
          refine st_store (sz := 3) (us := [_, _, _]) S M 2 rfl (by kernel_rfl) rfl rfl rfl rfl rfl rfl (by first | decide | (simp; done) | (simp; omega)) ?_; clear M; intro w56 M
          simp only [putL, List.set_cons_zero, List.set_cons_succ, Nat.reduceAdd] at M
          refine wpList_nil ?_; refine then_normal ?_; refine ⟨fun h => absurd h (by decide), ?_⟩
          refine k_pure (listed' := #[true, true, true, true, true, true, true, true, true, true, true, true]) 11 S rfl rfl rfl rfl (by kernel_rfl) rfl (fun _ d _ _ _ h => by cases d <;> exact h) (fun w => y_assign S rfl) ?_; clear S a; intro a S
          refine k_end (by kernel_rfl) ?_
          replace S := S.sub [(0, _), (1, _), (2, _), (3, _), (5, _), (4, _), (6, _)] rfl
          refine then_normal ?_
          replace M := M.front 2 rfl
          simp only [List.eraseIdx_cons_succ, List.eraseIdx_cons_zero] at M
          replace M := M.front 2 rfl
          simp only [List.eraseIdx_cons_succ, List.eraseIdx_cons_zero] at M
          exact ⟨bD, bT, la2, ma2, ka2, ea2, lc2, mc2, kc2, ec2, _, _, _, _, d1, d2, d3, d4, S.sub _ rfl, M⟩
        · skip
          refine st_alloc S M rfl rfl #[.slice none 0 0] (by kernel_rfl) ?_; clear S M a; intro a w57 bD S M hB
          refine wpList_nil ?_; refine then_normal ?_; refine ⟨fun _ => hB, ?_⟩
          refine k_one (listed' := #[true, true, true, false, false, false, false, true, true, false, false, false]) 2 rfl (by kernel_rfl) rfl ?_
          refine st_call (xs := [(Operand.tmp 16), (Operand.tmp 17)]) S (enters_of Try.func9 (by decide) rfl) rfl rfl rfl (hearC_any la lc _ [(dW, [])] (voteM 2 false) _ [] _ (M.outAt 4 rfl).1 (fun q hq => by simp at hq; subst hq; decide) (Rd.nil _ _ _ _)) ?_
          rintro _ w58 ⟨er2, r2, hR, hc2⟩
          obtain ⟨rfl, rfl⟩ : er2 = 0 ∧ r2 = ([], [decM ⟨1, 1, 1⟩ false 1, decM ⟨1, 1, 1⟩ false 2], [], [(⟨1, 1, 1⟩, false)]) := by
            rcases hc2 with ⟨h1, -, -, h2⟩ | ⟨-, h, -⟩
            · exact ⟨h1, wake_hear h2⟩
            · exact absurd ⟨by decide, by decide, .inl rfl⟩ h
          obtain ⟨cv2, mv2, kv2, ev2, rfl, hK, hO2⟩ := hR
          obtain ⟨la2, lc2, ma2, mc2, ka2, kc2, ea2, ec2, rfl, rfl, rfl, rfl⟩ := hO2.form
          obtain ⟨d1, d2, d3, d4, hO2⟩ := hO2.cells
          refine ⟨_, rfl, ?_⟩; clear S a; intro a S; replace M := M.out hK hO2
          refine wpList_nil ?_; refine then_normal ?_; refine ⟨fun _ => hK, ?_⟩
          refine k_pure (listed' := #[true, true, true, true, false, false, false, true, true, false, false, false]) 3 S rfl rfl rfl rfl (by kernel_rfl) rfl (fun _ d _ _ _ h => by cases d <;> exact h) (fun w => y_move S rfl) ?_; clear S a; intro a S
          refine k_pure (listed' := #[true, true, true, true, true, false, false, true, true, false, false, false]) 4 S rfl rfl rfl rfl (by kernel_rfl) rfl (fun _ d _ _ _ h => by cases d <;> exact h) (fun w => y_extract S rfl rfl) ?_; clear S a; intro a S
          refine k_pure (listed' := #[true, true, true, true, true, true, false, true, true, false, false, false]) 5 S rfl rfl rfl rfl (by kernel_rfl) rfl (fun _ d _ _ _ h => by cases d <;> exact h) (fun w => y_extract S rfl rfl) ?_; clear S a; intro a S
          refine k_pure (listed' := #[true, true, true, true, true, true, true, true, true, false, false, false]) 6 S rfl rfl rfl rfl (by kernel_rfl) rfl (fun _ d _ _ _ h => by cases d <;> exact h) (fun w => y_extract S rfl rfl) ?_; clear S a; intro a S
          refine k_one (listed' := #[true, true, true, true, true, true, true, true, true, true, false, false]) 9 rfl (by kernel_rfl) rfl ?_
          refine st_store (sz := 1) (us := [_]) S M 1 rfl (by kernel_rfl) rfl rfl rfl rfl rfl rfl (by first | decide | (simp; done) | (simp; omega)) ?_; clear M; intro w59 M
          simp only [putL, List.set_cons_zero, List.set_cons_succ, Nat.reduceAdd] at M
          refine wpList_nil ?_; refine then_normal ?_; refine ⟨fun h => absurd h (by decide), ?_⟩
          refine k_one (listed' := #[true, true, true, true, true, true, true, true, true, true, true, false]) 10 rfl (by kernel_rfl) rfl ?_
          refine st_store (sz := 3) (us := [_, _, _]) S M 2 rfl (by kernel_rfl) rfl rfl rfl rfl rfl rfl (by first | decide | (simp; done) | (simp; omega)) ?_; clear M; intro w60 M
          simp only [putL, List.set_cons_zero, List.set_cons_succ, Nat.reduceAdd] at M
          refine wpList_nil ?_; refine then_normal ?_; refine ⟨fun h => absurd h (by decide), ?_⟩
          refine k_pure (listed' := #[true, true, true, true, true, true, true, true, true, true, true, true]) 11 S rfl rfl rfl rfl (by kernel_rfl) rfl (fun _ d _ _ _ h => by cases d <;> exact h) (fun w => y_assign S rfl) ?_; clear S a; intro a S
          refine k_end (by kernel_rfl) ?_
          replace S := S.sub [(0, _), (1, _), (2, _), (3, _), (5, _), (4, _), (6, _)] rfl
          refine then_normal ?_
          replace M := M.front 1 rfl
          simp only [List.eraseIdx_cons_succ, List.eraseIdx_cons_zero] at M
          replace M := M.front 2 rfl
          simp only [List.eraseIdx_cons_succ, List.eraseIdx_cons_zero] at M
          replace M := M.front 2 rfl
          simp only [List.eraseIdx_cons_succ, List.eraseIdx_cons_zero] at M
          exact ⟨bD, bT, la2, ma2, ka2, ea2, lc2, mc2, kc2, ec2, _, _, _, _, d1, d2, d3, d4, S.sub _ rfl, M⟩
      · skip
        refine st_alloc S M rfl rfl #[.slice none 0 0] (by kernel_rfl) ?_; clear S M a; intro a w61 bD S M hB
        refine wpList_nil ?_; refine then_normal ?_; refine ⟨fun _ => hB, ?_⟩
        refine k_one (listed' := #[true, true, false, false, false, false, false, true, true, false, false, false]) 1 rfl (by kernel_rfl) rfl ?_
        refine st_call (xs := [(Operand.const (Value.int IntKind.i64 2)), (Operand.const (Value.bool false))]) S (enters_of Try.func15 (by decide) rfl) rfl rfl rfl (vote_any 2 false _) ?_
        rintro _ w62 ⟨rfl, hK⟩; refine ⟨_, rfl, ?_⟩; clear S a; intro a S; replace M := M.grow hK
        refine wpList_nil ?_; refine then_normal ?_; refine ⟨fun _ => hK, ?_⟩
        refine k_one (listed' := #[true, true, true, false, false, false, false, true, true, false, false, false]) 2 rfl (by kernel_rfl) rfl ?_
        refine st_call (xs := [(Operand.tmp 16), (Operand.tmp 17)]) S (enters_of Try.func9 (by decide) rfl) rfl rfl rfl (hearC_any la lc _ [(dW, [])] (voteM 2 false) _ [] _ (M.outAt 4 rfl).1 (fun q hq => by simp at hq; subst hq; decide) (Rd.nil _ _ _ _)) ?_
        rintro _ w63 ⟨er2, r2, hR, hc2⟩
        obtain ⟨rfl, rfl⟩ : er2 = 0 ∧ r2 = ([], [decM ⟨1, 1, 1⟩ false 1, decM ⟨1, 1, 1⟩ false 2], [], [(⟨1, 1, 1⟩, false)]) := by
          rcases hc2 with ⟨h1, -, -, h2⟩ | ⟨-, h, -⟩
          · exact ⟨h1, wake_hear h2⟩
          · exact absurd ⟨by decide, by decide, .inl rfl⟩ h
        obtain ⟨cv2, mv2, kv2, ev2, rfl, hK, hO2⟩ := hR
        obtain ⟨la2, lc2, ma2, mc2, ka2, kc2, ea2, ec2, rfl, rfl, rfl, rfl⟩ := hO2.form
        obtain ⟨d1, d2, d3, d4, hO2⟩ := hO2.cells
        refine ⟨_, rfl, ?_⟩; clear S a; intro a S; replace M := M.out hK hO2
        refine wpList_nil ?_; refine then_normal ?_; refine ⟨fun _ => hK, ?_⟩
        refine k_pure (listed' := #[true, true, true, true, false, false, false, true, true, false, false, false]) 3 S rfl rfl rfl rfl (by kernel_rfl) rfl (fun _ d _ _ _ h => by cases d <;> exact h) (fun w => y_move S rfl) ?_; clear S a; intro a S
        refine k_pure (listed' := #[true, true, true, true, true, false, false, true, true, false, false, false]) 4 S rfl rfl rfl rfl (by kernel_rfl) rfl (fun _ d _ _ _ h => by cases d <;> exact h) (fun w => y_extract S rfl rfl) ?_; clear S a; intro a S
        refine k_pure (listed' := #[true, true, true, true, true, true, false, true, true, false, false, false]) 5 S rfl rfl rfl rfl (by kernel_rfl) rfl (fun _ d _ _ _ h => by cases d <;> exact h) (fun w => y_extract S rfl rfl) ?_; clear S a; intro a S
        refine k_pure (listed' := #[true, true, true, true, true, true, true, true, true, false, false, false]) 6 S rfl rfl rfl rfl (by kernel_rfl) rfl (fun _ d _ _ _ h => by cases d <;> exact h) (fun w => y_extract S rfl rfl) ?_; clear S a; intro a S
        refine k_one (listed' := #[true, true, true, true, true, true, true, true, true, true, false, false]) 9 rfl (by kernel_rfl) rfl ?_
        refine st_store (sz := 1) (us := [_]) S M 1 rfl (by kernel_rfl) rfl rfl rfl rfl rfl rfl (by first | decide | (simp; done) | (simp; omega)) ?_; clear M; intro w64 M
        simp only [putL, List.set_cons_zero, List.set_cons_succ, Nat.reduceAdd] at M
        refine wpList_nil ?_; refine then_normal ?_; refine ⟨fun h => absurd h (by decide), ?_⟩
        refine k_one (listed' := #[true, true, true, true, true, true, true, true, true, true, true, false]) 10 rfl (by kernel_rfl) rfl ?_
        refine st_store (sz := 3) (us := [_, _, _]) S M 2 rfl (by kernel_rfl) rfl rfl rfl rfl rfl rfl (by first | decide | (simp; done) | (simp; omega)) ?_; clear M; intro w65 M
        simp only [putL, List.set_cons_zero, List.set_cons_succ, Nat.reduceAdd] at M
        refine wpList_nil ?_; refine then_normal ?_; refine ⟨fun h => absurd h (by decide), ?_⟩
        refine k_pure (listed' := #[true, true, true, true, true, true, true, true, true, true, true, true]) 11 S rfl rfl rfl rfl (by kernel_rfl) rfl (fun _ d _ _ _ h => by cases d <;> exact h) (fun w => y_assign S rfl) ?_; clear S a; intro a S
        refine k_end (by kernel_rfl) ?_
        replace S := S.sub [(0, _), (1, _), (2, _), (3, _), (5, _), (4, _), (6, _)] rfl
        refine then_normal ?_
        replace M := M.front 1 rfl
        simp only [List.eraseIdx_cons_succ, List.eraseIdx_cons_zero] at M
        replace M := M.front 2 rfl
        simp only [List.eraseIdx_cons_succ, List.eraseIdx_cons_zero] at M
        replace M := M.front 2 rfl
        simp only [List.eraseIdx_cons_succ, List.eraseIdx_cons_zero] at M
        exact ⟨bD, bT, la2, ma2, ka2, ea2, lc2, mc2, kc2, ec2, _, _, _, _, d1, d2, d3, d4, S.sub _ rfl, M⟩
  clear S a M; intro a wc
  rintro ⟨bD, bT, la2, ma2, ka2, ea2, lc2, mc2, kc2, ec2, lo, hi, lo2, hi2, d1, d2, d3, d4, S, M⟩
  obtain ⟨a1, b1, hr1, -⟩ := (M.outAt 5 rfl).2.1.sl (i := 0) rfl
  obtain ⟨a2, b2, hr2, -⟩ := (M.outAt 5 rfl).2.1.sl (i := 1) rfl
  obtain ⟨a3, b3, hr3, -⟩ := (M.outAt 0 rfl).2.1.sl (i := 0) rfl
  obtain ⟨a4, b4, hr4, -⟩ := (M.outAt 0 rfl).2.2.2.sl (i := 0) rfl
  refine wp_seq ?_
  refine wp_quiet M (by kernel_rfl) (by kernel_rfl) ?_
  refine qt_y S rfl rfl rfl (fun w M => y_move S rfl) ?_; clear S a; intro a S
  refine qt_y S rfl rfl rfl (fun w M => y_int S rfl rfl rfl) ?_; clear S a; intro a S
  refine qt_y S rfl rfl rfl (fun w M => y_move S rfl) ?_; clear S a; intro a S
  refine st_fi (t := 24) S rfl ?_ ?_
  · clear S; intro h24 S
    exfalso; revert h24; decide
  clear S; intro h24 S
  refine qt_y S rfl rfl rfl (fun w M => y_move S rfl) ?_; clear S a; intro a S
  refine qt_y S rfl rfl rfl (fun w M => y_int S rfl rfl rfl) ?_; clear S a; intro a S
  refine qt_y S rfl rfl rfl (fun w M => y_pickT S rfl rfl) ?_; clear S a; intro a S
  refine qt_y S rfl rfl rfl (fun w M => y_move S rfl) ?_; clear S a; intro a S
  refine st_fi (t := 28) S rfl ?_ ?_
  · clear S; intro h28 S
    exfalso; revert h28; decide
  clear S; intro h28 S
  refine qt_y S rfl rfl rfl (fun w M => y_fieldAddr (k := 0) S (by kernel_rfl) rfl) ?_; clear S a; intro a S
  refine qt_y S rfl rfl rfl (fun w M => y_load S (by kernel_rfl) rfl (M.cell 3 rfl rfl)) ?_; clear S a; intro a S
  refine qt_y S rfl rfl rfl (fun w M => y_lenS (E := 36) S rfl (by kernel_rfl)) ?_; clear S a; intro a S
  refine qt_y S rfl rfl rfl (fun w M => y_int S rfl rfl rfl) ?_; clear S a; intro a S
  refine qt_y S rfl rfl rfl (fun w M => y_pickT S rfl rfl) ?_; clear S a; intro a S
  refine qt_y S rfl rfl rfl (fun w M => y_move S rfl) ?_; clear S a; intro a S
  refine st_fi (t := 34) S rfl ?_ ?_
  · clear S; intro h34 S
    exfalso; revert h34; decide
  clear S; intro h34 S
  refine qt_y S rfl rfl rfl (fun w M => y_fieldAddr (k := 0) S (by kernel_rfl) rfl) ?_; clear S a; intro a S
  refine qt_y S rfl rfl rfl (fun w M => y_load S (by kernel_rfl) rfl (M.cell 3 rfl rfl)) ?_; clear S a; intro a S
  refine qt_y S rfl rfl rfl (fun w M => y_indexR (e := 36) (sz := 24) S (by kernel_rfl) rfl ((M.outAt 5 rfl).2.1.1) rfl (by first | omega | (simp; done) | (simp; omega))) ?_; clear S a; intro a S
  refine qt_y S rfl rfl rfl (fun w M => y_fieldAddr (k := 0) S (by kernel_rfl) rfl) ?_; clear S a; intro a S
  refine qt_y S rfl rfl rfl (fun w M => y_load S (by kernel_rfl) rfl ((M.outAt 5 rfl).2.1.1.at_.row (i := 0) hr1 rfl 0 (show 0 < 24 by decide))) ?_; clear S a; intro a S
  refine qt_y S rfl rfl rfl (fun w M => y_int S rfl rfl rfl) ?_; clear S a; intro a S
  refine qt_y S rfl rfl rfl (fun w M => y_pickT S rfl rfl) ?_; clear S a; intro a S
  refine qt_y S rfl rfl rfl (fun w M => y_move S rfl) ?_; clear S a; intro a S
  refine st_fi (t := 42) S rfl ?_ ?_
  · clear S; intro h42 S
    exfalso; revert h42; decide
  clear S; intro h42 S
  refine qt_y S rfl rfl rfl (fun w M => y_fieldAddr (k := 0) S (by kernel_rfl) rfl) ?_; clear S a; intro a S
  refine qt_y S rfl rfl rfl (fun w M => y_load S (by kernel_rfl) rfl (M.cell 3 rfl rfl)) ?_; clear S a; intro a S
  refine qt_y S rfl rfl rfl (fun w M => y_indexR (e := 36) (sz := 24) S (by kernel_rfl) rfl ((M.outAt 5 rfl).2.1.1) rfl (by first | omega | (simp; done) | (simp; omega))) ?_; clear S a; intro a S
  refine qt_y S rfl rfl rfl (fun w M => y_fieldAddr (k := 2) S (by kernel_rfl) rfl) ?_; clear S a; intro a S
  refine qt_y S rfl rfl rfl (fun w M => y_load S (by kernel_rfl) rfl ((M.outAt 5 rfl).2.1.1.at_.row (i := 1) hr2 rfl 2 (show 2 < 24 by decide))) ?_; clear S a; intro a S
  refine qt_y S rfl rfl rfl (fun w M => y_int S rfl rfl rfl) ?_; clear S a; intro a S
  refine qt_y S rfl rfl rfl (fun w M => y_pickT S rfl rfl) ?_; clear S a; intro a S
  refine qt_y S rfl rfl rfl (fun w M => y_move S rfl) ?_; clear S a; intro a S
  refine st_fi (t := 50) S rfl ?_ ?_
  · clear S; intro h50 S
    exfalso; revert h50; decide
  clear S; intro h50 S
  refine qt_y S rfl rfl rfl (fun w M => y_fieldAddr (k := 0) S (by kernel_rfl) rfl) ?_; clear S a; intro a S
  refine qt_y S rfl rfl rfl (fun w M => y_load S (by kernel_rfl) rfl (M.cell 1 rfl rfl)) ?_; clear S a; intro a S
  refine qt_y S rfl rfl rfl (fun w M => y_lenS (E := 36) S rfl (by kernel_rfl)) ?_; clear S a; intro a S
  refine qt_y S rfl rfl rfl (fun w M => y_int S rfl rfl rfl) ?_; clear S a; intro a S
  refine qt_y S rfl rfl rfl (fun w M => y_pickT S rfl rfl) ?_; clear S a; intro a S
  refine qt_y S rfl rfl rfl (fun w M => y_move S rfl) ?_; clear S a; intro a S
  refine st_fi (t := 56) S rfl ?_ ?_
  · clear S; intro h56 S
    exfalso; revert h56; decide
  clear S; intro h56 S
  refine qt_y S rfl rfl rfl (fun w M => y_fieldAddr (k := 0) S (by kernel_rfl) rfl) ?_; clear S a; intro a S
  refine qt_y S rfl rfl rfl (fun w M => y_load S (by kernel_rfl) rfl (M.cell 1 rfl rfl)) ?_; clear S a; intro a S
  refine qt_y S rfl rfl rfl (fun w M => y_indexR (e := 36) (sz := 24) S (by kernel_rfl) rfl ((M.outAt 0 rfl).2.1.1) rfl (by first | omega | (simp; done) | (simp; omega))) ?_; clear S a; intro a S
  refine qt_y S rfl rfl rfl (fun w M => y_fieldAddr (k := 0) S (by kernel_rfl) rfl) ?_; clear S a; intro a S
  refine qt_y S rfl rfl rfl (fun w M => y_load S (by kernel_rfl) rfl ((M.outAt 0 rfl).2.1.1.at_.row (i := 0) hr3 rfl 0 (show 0 < 24 by decide))) ?_; clear S a; intro a S
  refine qt_y S rfl rfl rfl (fun w M => y_int S rfl rfl rfl) ?_; clear S a; intro a S
  refine qt_y S rfl rfl rfl (fun w M => y_pickT S rfl rfl) ?_; clear S a; intro a S
  refine qt_y S rfl rfl rfl (fun w M => y_move S rfl) ?_; clear S a; intro a S
  refine st_fi (t := 64) S rfl ?_ ?_
  · clear S; intro h64 S
    exfalso; revert h64; decide
  clear S; intro h64 S
  refine qt_y S rfl rfl rfl (fun w M => y_fieldAddr (k := 2) S (by kernel_rfl) rfl) ?_; clear S a; intro a S
  refine qt_y S rfl rfl rfl (fun w M => y_load S (by kernel_rfl) rfl (M.cell 1 rfl rfl)) ?_; clear S a; intro a S
  refine qt_y S rfl rfl rfl (fun w M => y_lenS (E := 66) S rfl (by kernel_rfl)) ?_; clear S a; intro a S
  refine qt_y S rfl rfl rfl (fun w M => y_int S rfl rfl rfl) ?_; clear S a; intro a S
  refine qt_y S rfl rfl rfl (fun w M => y_pickT S rfl rfl) ?_; clear S a; intro a S
  refine qt_y S rfl rfl rfl (fun w M => y_move S rfl) ?_; clear S a; intro a S
  refine st_fi (t := 70) S rfl ?_ ?_
  · clear S; intro h70 S
    exfalso; revert h70; decide
  clear S; intro h70 S
  refine qt_y S rfl rfl rfl (fun w M => y_fieldAddr (k := 2) S (by kernel_rfl) rfl) ?_; clear S a; intro a S
  refine qt_y S rfl rfl rfl (fun w M => y_load S (by kernel_rfl) rfl (M.cell 1 rfl rfl)) ?_; clear S a; intro a S
  refine qt_y S rfl rfl rfl (fun w M => y_indexR (e := 66) (sz := 4) S (by kernel_rfl) rfl ((M.outAt 0 rfl).2.2.2.1) rfl (by first | omega | (simp; done) | (simp; omega))) ?_; clear S a; intro a S
  refine qt_y S rfl rfl rfl (fun w M => y_fieldAddr (k := 3) S (by kernel_rfl) rfl) ?_; clear S a; intro a S
  refine qt_y S rfl rfl rfl (fun w M => y_load S (by kernel_rfl) rfl ((M.outAt 0 rfl).2.2.2.1.at_.row (i := 0) hr4 rfl 3 (show 3 < 4 by decide))) ?_; clear S a; intro a S
  refine qt_y S rfl rfl rfl (fun w M => y_not S rfl) ?_; clear S a; intro a S
  refine qt_y S rfl rfl rfl (fun w M => y_pickT S rfl rfl) ?_; clear S a; intro a S
  refine qt_y S rfl rfl rfl (fun w M => y_move S rfl) ?_; clear S a; intro a S
  refine st_fi (t := 78) S rfl ?_ ?_
  · clear S; intro h78 S
    exfalso; revert h78; decide
  clear S; intro h78 S
  refine qt_y S rfl rfl rfl (fun w M => y_fieldAddr (k := 0) S (by kernel_rfl) rfl) ?_; clear S a; intro a S
  refine qt_y S rfl rfl rfl (fun w M => y_load S (by kernel_rfl) rfl (M.cell 2 rfl rfl)) ?_; clear S a; intro a S
  refine qt_y S rfl rfl rfl (fun w M => y_lenS (E := 59) S rfl (by kernel_rfl)) ?_; clear S a; intro a S
  refine qt_y S rfl rfl rfl (fun w M => y_int S rfl rfl rfl) ?_; clear S a; intro a S
  refine qt_y S rfl rfl rfl (fun w M => y_pickT S rfl rfl) ?_; clear S a; intro a S
  refine qt_y S rfl rfl rfl (fun w M => y_move S rfl) ?_; clear S a; intro a S
  refine st_fi (t := 84) S rfl ?_ ?_
  · clear S; intro h84 S
    exfalso; revert h84; decide
  clear S; intro h84 S
  refine qt_y S rfl rfl rfl (fun w M => y_loadAgg (cs := [_]) S (by kernel_rfl) rfl rfl (M.cellsAt (k := 1) 4 rfl rfl)) ?_; clear S a; intro a S
  refine qt_call (xs := [(Operand.const (Value.int IntKind.i64 1))]) S (enters_of Try.func14 (by decide) rfl) rfl rfl rfl (quiet_of fun w M => name21_any 1 _) ?_; clear S a; intro a S
  refine qt_call (xs := [(Operand.tmp 85), (Operand.tmp 86)]) S (enters_of Try.func12 (by decide) rfl) rfl rfl rfl (quiet_of fun w M => phaseIs_any la lc _ [(dW, [])] ⟨1, 1, 1⟩ _ (M.outAt 5 rfl).1 (fun p hp => phase_one rfl hp (.inl ⟨0, (dW, []), rfl, rfl, rfl⟩))) ?_; clear S a; intro a S
  refine qt_y S rfl rfl rfl (fun w M => y_int S rfl rfl rfl) ?_; clear S a; intro a S
  refine qt_y S rfl rfl rfl (fun w M => y_pickT S rfl rfl) ?_; clear S a; intro a S
  refine qt_y S rfl rfl rfl (fun w M => y_assign S rfl) ?_; clear S a; intro a S
  refine wpQuiet_nil ?_; clear M; intro w68 M
  replace S := S.sub [(1, _), (2, _), (3, _), (4, _), (5, _), (6, _), (0, _)] rfl
  refine then_normal ?_
  refine wp_ret ?_
  refine end_one S rfl (res_tmp rfl) ?_
  exact ⟨rfl, M.below⟩

end Go.Proofs.Ytidpeojkkfmgeaa
