/-
  law16: Same, Great; what Put, Take and Twice do; wakes.
-/
import Derived.Test.YtojgcgaoajfihaaHb
import Derived.Test.YtojgcgaoajfihaaFa
import Derived.Test.YtojgcgaoajfihaaGr
namespace Go.Proofs.Ytojgcgaoajfihaa
open Go.RowKit Go.Sort

theorem great16_any (va : Option Addr) (vn vc : Nat) (cs : List Value) (ms : Ml) (w : World) (hv : MsC cs 0 w.heap.size w (.slice va vn vc) ms) :
    Calls Try.prog 5 #[.agg #[.slice va vn vc]] w fun e w' => ∃ b, e = .returned (.bool b) ∧ Below w.heap.size w w' := by
  have M := Mem.start w
  refine calls_enter Try.func5 rfl 25 rfl rfl ?_; intro a S
  refine nxD ?_
  refine st_box S M rfl rfl rfl #[_] rfl ?_; clear S M a; intro a w1 bF S M hB
  refine st_go [1] S rfl (by kernel_rfl) ?_; clear S a; intro a S
  refine nxC ?_
  refine wp_seq ?_
  refine nxD ?_
  refine st_go [1] S rfl (by kernel_rfl) ?_; clear S a; intro a S
  refine nxC ?_
  refine wp_block ?_
  refine wp_loop_g (fun m a w' => ∃ (k : Nat), k ≤ ms.length ∧ m = ms.length - k ∧ Sees 25 a [(1, .pointer (some ⟨bF, 0, none⟩)), (3, .int .i64 (k : Int))] ∧ Mem w w' [.blk bF #[.slice va vn vc] 24]) (ms.length) ?_ ?_
  · skip
    exact ⟨0, Nat.zero_le _, rfl, S.sub _ rfl, M⟩
  clear S M a; intro m a wl
  rintro ⟨k, hk, rfl, S, M⟩
  refine wp_seq ?_
  refine nxD ?_
  refine st_run [1, 1, 1] S M rfl (by kernel_rfl) ?_; clear S a; intro a S
  refine st_y S rfl rfl rfl (y_lenR (E := 42) S rfl ((M.ms hv).1) (by kernel_rfl)) ?_; clear S a; intro a S
  refine st_go [1, 1] S rfl (by kernel_rfl) ?_; clear S a; intro a S
  refine st_fi (t := 9) S rfl ?_ ?_
  · clear S; intro h9 S
    refine st_go [0, 0, 1] S rfl (by kernel_rfl) ?_; clear S a; intro a S
    refine nxC ?_
    refine st_condF S rfl ?_
    refine wp_exit ?_
    refine then_exit ?_
    refine then_exit ?_
    refine block_hit ?_
    refine nxE ?_
    refine st_run [1, 1] S M rfl (by kernel_rfl) ?_; clear S a; intro a S
    refine st_y S rfl rfl rfl (y_lenR (E := 42) S rfl ((M.ms hv).1) (by kernel_rfl)) ?_; clear S a; intro a S
    refine st_go [1, 1] S rfl (by kernel_rfl) ?_; clear S a; intro a S
    refine nxC ?_
    refine wp_ret ?_
    refine end_one S rfl (res_tmp rfl) ?_
    exact ⟨_, rfl, M.below⟩
  clear S; intro h9 S
  refine st_go [1, 1, 1] S rfl (by kernel_rfl) ?_; clear S a; intro a S
  refine nxC ?_
  refine st_fi (t := 12) S rfl ?_ ?_
  · clear S; intro h12 S
    refine st_condF S rfl ?_
    refine wp_exit ?_
    refine then_exit ?_
    refine then_exit ?_
    refine block_hit ?_
    refine nxE ?_
    refine st_run [1, 1] S M rfl (by kernel_rfl) ?_; clear S a; intro a S
    refine st_y S rfl rfl rfl (y_lenR (E := 42) S rfl ((M.ms hv).1) (by kernel_rfl)) ?_; clear S a; intro a S
    refine st_go [1, 1] S rfl (by kernel_rfl) ?_; clear S a; intro a S
    refine nxC ?_
    refine wp_ret ?_
    refine end_one S rfl (res_tmp rfl) ?_
    exact ⟨_, rfl, M.below⟩
  clear S; intro h12 S
  refine st_condT S rfl ?_
  refine wp_skip ?_
  refine then_normal ?_
  refine wp_seq ?_
  refine wp_block ?_
  refine nxD ?_
  obtain ⟨q, hq⟩ : ∃ q, ms[k]? = some q := ⟨_, List.getElem?_eq_getElem (by first | omega | (simp at h12; omega))⟩
  obtain ⟨ad, cp, hrow, hws⟩ := hv.sl hq
  refine st_y S rfl rfl rfl (y_fieldAddr (k := 0) S (by kernel_rfl) rfl) ?_; clear S a; intro a S
  refine st_run [1, 1] S M rfl (by kernel_rfl) ?_; clear S a; intro a S
  refine st_y S rfl rfl rfl (y_indexR (e := 42) (sz := 24) S (by kernel_rfl) rfl ((M.ms hv).1) rfl (by first | omega | (simp; done) | (simp; omega))) ?_; clear S a; intro a S
  try simp only [Int.toNat_natCast, Nat.mul_one, Nat.zero_add] at S
  refine st_y S rfl rfl rfl (y_loadAgg S (by kernel_rfl) rfl rfl ((M.ms hv).1.at_.row (i := k) hrow rfl)) ?_; clear S a; intro a S
  refine st_call (xs := [(Operand.tmp 19)]) S (enters_of Try.func12 (by decide) rfl) rfl rfl rfl (great15_any q.1 _ _ _ _) ?_
  rintro _ w2 ⟨rfl, hK⟩; refine ⟨_, rfl, ?_⟩; clear S a; intro a S; replace M := M.grow hK
  refine nxC ?_
  refine st_if (t := 20) S rfl ?_ ?_
  · clear S; intro h20 S
    refine st_condT S rfl ?_
    refine nxD ?_
    refine st_go [1] S rfl (by kernel_rfl) ?_; clear S a; intro a S
    refine nxC ?_
    refine wp_ret ?_
    refine block_ret ?_
    refine then_ret ?_
    refine then_ret ?_
    refine block_ret ?_
    refine then_ret ?_
    refine end_one S rfl (res_tmp rfl) ?_
    exact ⟨_, rfl, M.below⟩
  clear S; intro h20 S
  refine st_condF S rfl ?_
  refine wp_skip ?_
  refine block_normal ?_
  refine nxF ?_
  refine st_go [1] S rfl (by kernel_rfl) ?_; clear S a; intro a S
  (first | refine st_y S rfl rfl rfl (y_addN S rfl rfl (by omega)) ?_ | refine st_y S rfl rfl rfl (y_int S rfl rfl rfl) ?_); clear S a; intro a S
  refine st_go [1] S rfl (by kernel_rfl) ?_; clear S a; intro a S
  replace S := S.sub [(1, _), (12, _), (20, _), (3, _)] rfl
  refine nxC ?_
  exact ⟨ms.length - (k + 1), by omega, k + 1, by omega, rfl, S.sub _ rfl, M⟩
/-- two fabrics of the same messages are the same -/
theorem same16_any (va vb : Option Addr) (na nb ca cb : Nat) (c1 c2 : List Value) (ms : Ml) (w : World) (hv : MsC c1 0 w.heap.size w (.slice va na ca) ms) (hu : MsC c2 0 w.heap.size w (.slice vb nb cb) ms) :
    Calls Try.prog 11 #[.agg #[.slice va na ca], .agg #[.slice vb nb cb]] w fun e w' => e = .returned (.bool true) ∧ Below w.heap.size w w' := by
  have M := Mem.start w
  have hl := hv.1.2.1
  unfold maxLen at hl
  refine calls_enter Try.func11 rfl 32 rfl rfl ?_; intro a S
  refine nxD ?_
  refine st_box S M rfl rfl rfl #[_] rfl ?_; clear S M a; intro a w1 bF S M hB
  refine st_box S M rfl rfl rfl #[_] rfl ?_; clear S M a; intro a w2 bG S M hB
  refine st_go [1] S rfl (by kernel_rfl) ?_; clear S a; intro a S
  refine nxC ?_
  refine wp_seq ?_
  refine nxD ?_
  refine st_run [1, 2] S M rfl (by kernel_rfl) ?_; clear S a; intro a S
  refine st_y S rfl rfl rfl (y_lenR (E := 42) S rfl ((M.ms hv).1) (by kernel_rfl)) ?_; clear S a; intro a S
  refine st_run [1, 1] S M rfl (by kernel_rfl) ?_; clear S a; intro a S
  refine st_y S rfl rfl rfl (y_lenR (E := 42) S rfl ((M.ms hu).1) (by kernel_rfl)) ?_; clear S a; intro a S
  refine st_go [1] S rfl (by kernel_rfl) ?_; clear S a; intro a S
  refine nxC ?_
  refine st_if (t := 12) S rfl ?_ ?_
  · clear S; intro h12 S
    exfalso; omega
  clear S; intro h12 S
  refine st_condF S rfl ?_
  refine wp_skip ?_
  refine then_normal ?_
  refine wp_seq ?_
  refine nxD ?_
  refine st_go [1] S rfl (by kernel_rfl) ?_; clear S a; intro a S
  refine nxC ?_
  refine wp_block ?_
  refine wp_loop_g (fun m a w' => ∃ (k : Nat), k ≤ ms.length ∧ m = ms.length - k ∧ Sees 32 a [(2, .pointer (some ⟨bF, 0, none⟩)), (3, .pointer (some ⟨bG, 0, none⟩)), (5, .int .i64 (k : Int))] ∧ Mem w w' [.blk bG #[.slice vb nb cb] 24, .blk bF #[.slice va na ca] 24]) (ms.length) ?_ ?_
  · skip
    exact ⟨0, Nat.zero_le _, rfl, S.sub _ rfl, M⟩
  clear S M a; intro m a wl
  rintro ⟨k, hk, rfl, S, M⟩
  refine wp_seq ?_
  refine nxD ?_
  refine st_run [1, 1, 2] S M rfl (by kernel_rfl) ?_; clear S a; intro a S
  refine st_y S rfl rfl rfl (y_lenR (E := 42) S rfl ((M.ms hv).1) (by kernel_rfl)) ?_; clear S a; intro a S
  refine st_go [1] S rfl (by kernel_rfl) ?_; clear S a; intro a S
  refine nxC ?_
  refine st_fi (t := 17) S rfl ?_ ?_
  · clear S; intro h17 S
    refine st_condF S rfl ?_
    refine wp_exit ?_
    refine then_exit ?_
    refine then_exit ?_
    refine block_hit ?_
    refine nxE ?_
    refine st_go [1] S rfl (by kernel_rfl) ?_; clear S a; intro a S
    refine nxC ?_
    refine wp_ret ?_
    refine end_one S rfl (res_tmp rfl) ?_
    exact ⟨rfl, M.below⟩
  clear S; intro h17 S
  refine st_condT S rfl ?_
  refine wp_skip ?_
  refine then_normal ?_
  refine wp_seq ?_
  refine wp_block ?_
  refine wp_seq ?_
  obtain ⟨q, hq⟩ : ∃ q, ms[k]? = some q := ⟨_, List.getElem?_eq_getElem (by omega)⟩
  obtain ⟨ad, cp, hrow, hws⟩ := hv.sl hq
  obtain ⟨ad2, cp2, hrow2, hws2⟩ := hu.sl hq
  refine wp_regionK [] #[false, false, false, false, false, false, false, false, false, false, false, false] rfl M (by kernel_rfl) ?_; clear M; intro w3 M
  refine k_pure (listed' := #[true, false, false, false, false, false, false, false, false, false, false, false]) 0 S rfl rfl rfl rfl (by kernel_rfl) rfl (fun _ d _ _ _ h => by cases d <;> exact h) (fun w => y_fieldAddr (k := 0) S (by kernel_rfl) rfl) ?_; clear S a; intro a S
  refine k_read (listed' := #[true, true, false, false, false, false, false, false, false, false, false, false]) 1 S rfl rfl rfl rfl (by kernel_rfl) rfl (fun _ d _ _ _ h => by cases d <;> exact h) (fun w hW => have M := M.grow hW; y_load S (by kernel_rfl) rfl (M.cell 1 rfl rfl)) ?_; clear S a; intro a S
  refine k_pure (listed' := #[true, true, true, false, false, false, false, false, false, false, false, false]) 2 S rfl rfl rfl rfl (by kernel_rfl) rfl (fun _ d _ _ _ h => by cases d <;> exact h) (fun w => y_move S rfl) ?_; clear S a; intro a S
  refine k_read (listed' := #[true, true, true, true, false, false, false, false, false, false, false, false]) 3 S rfl rfl rfl rfl (by kernel_rfl) rfl (fun _ d _ _ _ h => by cases d <;> exact h) (fun w hW => have M := M.grow hW; y_indexR (e := 42) (sz := 24) S (by kernel_rfl) rfl ((M.ms hv).1) rfl (by first | omega | (simp; done) | (simp; omega))) ?_; clear S a; intro a S
  try simp only [Int.toNat_natCast, Nat.mul_one, Nat.zero_add] at S
  refine k_read (listed' := #[true, true, true, true, true, false, false, false, false, false, false, false]) 4 S rfl rfl rfl rfl (by kernel_rfl) rfl (fun _ d _ _ _ h => by cases d <;> exact h) (fun w hW => have M := M.grow hW; y_loadAgg S (by kernel_rfl) rfl rfl ((M.ms hv).1.at_.row (i := k) hrow rfl)) ?_; clear S a; intro a S
  refine k_pure (listed' := #[true, true, true, true, true, true, false, false, false, false, false, false]) 5 S rfl rfl rfl rfl (by kernel_rfl) rfl (fun _ d _ _ _ h => by cases d <;> exact h) (fun w => y_fieldAddr (k := 0) S (by kernel_rfl) rfl) ?_; clear S a; intro a S
  refine k_read (listed' := #[true, true, true, true, true, true, true, false, false, false, false, false]) 6 S rfl rfl rfl rfl (by kernel_rfl) rfl (fun _ d _ _ _ h => by cases d <;> exact h) (fun w hW => have M := M.grow hW; y_load S (by kernel_rfl) rfl (M.cell 0 rfl rfl)) ?_; clear S a; intro a S
  refine k_pure (listed' := #[true, true, true, true, true, true, true, true, false, false, false, false]) 7 S rfl rfl rfl rfl (by kernel_rfl) rfl (fun _ d _ _ _ h => by cases d <;> exact h) (fun w => y_move S rfl) ?_; clear S a; intro a S
  refine k_read (listed' := #[true, true, true, true, true, true, true, true, true, false, false, false]) 8 S rfl rfl rfl rfl (by kernel_rfl) rfl (fun _ d _ _ _ h => by cases d <;> exact h) (fun w hW => have M := M.grow hW; y_indexR (e := 42) (sz := 24) S (by kernel_rfl) rfl ((M.ms hu).1) rfl (by first | omega | (simp; done) | (simp; omega))) ?_; clear S a; intro a S
  try simp only [Int.toNat_natCast, Nat.mul_one, Nat.zero_add] at S
  refine k_read (listed' := #[true, true, true, true, true, true, true, true, true, true, false, false]) 9 S rfl rfl rfl rfl (by kernel_rfl) rfl (fun _ d _ _ _ h => by cases d <;> exact h) (fun w hW => have M := M.grow hW; y_loadAgg S (by kernel_rfl) rfl rfl ((M.ms hu).1.at_.row (i := k) hrow2 rfl)) ?_; clear S a; intro a S
  refine k_one (listed' := #[true, true, true, true, true, true, true, true, true, true, true, false]) 10 rfl (by kernel_rfl) rfl ?_
  refine st_call (xs := [(Operand.tmp 24), (Operand.tmp 29)]) S (enters_of Try.func16 (by decide) rfl) rfl rfl rfl (fSame_any q.1 q.1 _ _ q.2 q.2 _ (M.argW hws) (M.argW hws2)) ?_
  rintro _ w4 ⟨rfl, hK⟩; refine ⟨_, rfl, ?_⟩; clear S a; intro a S; replace M := M.grow hK
  rw [Msg.same_iff.2 ⟨rfl, rfl⟩] at S
  refine wpList_nil ?_; refine then_normal ?_; refine ⟨fun _ => hK, ?_⟩
  refine k_pure (listed' := #[true, true, true, true, true, true, true, true, true, true, true, true]) 11 S rfl rfl rfl rfl (by kernel_rfl) rfl (fun _ d _ _ _ h => by cases d <;> exact h) (fun w => y_not S rfl) ?_; clear S a; intro a S
  refine k_end (by kernel_rfl) ?_
  replace S := S.sub [(2, _), (3, _), (5, _), (17, _), (31, _)] rfl
  refine then_normal ?_
  refine st_if (t := 31) S rfl ?_ ?_
  · clear S; intro h31 S
    simp at h31
  clear S; intro h31 S
  refine st_condF S rfl ?_
  refine wp_skip ?_
  refine block_normal ?_
  refine nxF ?_
  refine st_go [1] S rfl (by kernel_rfl) ?_; clear S a; intro a S
  (first | refine st_y S rfl rfl rfl (y_addN S rfl rfl (by omega)) ?_ | refine st_y S rfl rfl rfl (y_int S rfl rfl rfl) ?_); clear S a; intro a S
  refine st_go [1] S rfl (by kernel_rfl) ?_; clear S a; intro a S
  refine nxC ?_
  exact ⟨ms.length - (k + 1), by omega, k + 1, by omega, rfl, S.sub _ rfl, M⟩

def okPut (ms : Ml) (q : Msg × List Wr) : Prop := ms.ok = true ∧ q.1.may q.2 = true ∧ ms.length < 200
theorem putF_cases (ms : Ml) (q : Msg × List Wr) : ((putF ms q).2 = 0 ∧ okPut ms q ∧ (putF ms q).1 = ms ++ [q]) ∨ ((putF ms q).2 ≠ 0 ∧ ¬ okPut ms q) := by
  unfold putF okPut; split
  · rename_i h
    have := (Ml.ok_iff.1 h.1).1
    split
    · exact .inr ⟨by simp, fun hh => by omega⟩
    · exact .inl ⟨rfl, ⟨h.1, h.2, by omega⟩, rfl⟩
  · rename_i h; exact .inr ⟨by simp, fun hh => h ⟨hh.1, hh.2.1⟩⟩
theorem okPut.ok {ms : Ml} {q : Msg × List Wr} (h : okPut ms q) : Ml.ok (ms ++ [q]) = true := by
  rw [Ml.ok_iff]; refine ⟨by have := h.2.2; simp; omega, Ml.all_append.2 ⟨(Ml.ok_iff.1 h.1).2, by rw [Ml.all_cons]; exact ⟨h.2.1, rfl⟩⟩⟩
theorem put16_c (va : Option Addr) (vn vc : Nat) (cs : List Value) (ms : Ml) (m : Msg) (xa : Option Addr) (xc : Nat) (x : List Wr) (w : World) (hv : MsC cs 0 w.heap.size w (.slice va vn vc) ms) (hx : Ws 0 w.heap.size w (.slice xa x.length xc) x) :
    Calls Try.prog 14 #[.agg #[.slice va vn vc], .agg (m.cells (.slice xa x.length xc))] w fun e w' => ∃ l c, MailPost l c w e w' ∧ ((c = 0 ∧ okPut ms (m, x) ∧ l = ms ++ [(m, x)]) ∨ (c ≠ 0 ∧ ¬ okPut ms (m, x))) :=
  (put16_any va vn vc cs ms m xa xc x w hv hx).mono fun e w' h => ⟨_, _, h, putF_cases ms (m, x)⟩
theorem thereC_at {ms : Ml} {k : Nat} (h : ms.ok = true) (hk : k < ms.length) : thereC ms (k : Int) = 0 := by
  unfold thereC; rw [if_pos h, if_pos (by omega)]
theorem take16_at (va : Option Addr) (vn vc : Nat) (cs : List Value) (ms : Ml) (k : Nat) (q : Msg × List Wr) (hok : ms.ok = true) (hq : ms[k]? = some q) (w : World) (hv : MsC cs 0 w.heap.size w (.slice va vn vc) ms) :
    Calls Try.prog 15 #[.agg #[.slice va vn vc], .int .i64 (k : Int)] w (TakePost (ms.eraseIdx k) q 0 w) :=
  (take16_any va vn vc cs ms k 0 (thereC_at hok (List.getElem?_eq_some_iff.1 hq).1) w hv).mono fun e w' h => by
    rcases h with ⟨h, -⟩ | ⟨-, k', q', hk, hq', -, h⟩
    · exact absurd rfl h
    · obtain rfl : k = k' := by omega
      rw [hq] at hq'
      obtain rfl := Option.some.inj hq'
      exact h
theorem take16_last (va : Option Addr) (vn vc : Nat) (cs : List Value) (ms : Ml) (q : Msg × List Wr) (hok : Ml.ok (ms ++ [q]) = true) (w : World) (hv : MsC cs 0 w.heap.size w (.slice va vn vc) (ms ++ [q])) :
    Calls Try.prog 15 #[.agg #[.slice va vn vc], .int .i64 (ms.length : Int)] w (TakePost ms q 0 w) :=
  (take16_at va vn vc cs _ ms.length q hok (by simp) w hv).mono fun e w' h => by
    rwa [List.eraseIdx_append_of_length_le (Nat.le_refl _), Nat.sub_self, show [q].eraseIdx 0 = [] from rfl, List.append_nil] at h
theorem twice16_at (va : Option Addr) (vn vc : Nat) (cs : List Value) (ms : Ml) (k : Nat) (q : Msg × List Wr) (hok : ms.ok = true) (hl : ms.length < 200) (hq : ms[k]? = some q) (w : World) (hv : MsC cs 0 w.heap.size w (.slice va vn vc) ms) :
    Calls Try.prog 17 #[.agg #[.slice va vn vc], .int .i64 (k : Int)] w (MailPost (ms ++ [q]) 0 w) :=
  (twice16_any va vn vc cs ms k 0 (thereC_at hok (List.getElem?_eq_some_iff.1 hq).1) w hv).mono fun e w' h => by
    rcases h with ⟨h, -⟩ | ⟨-, k', q', hk, hq', -, -, h⟩
    · rcases h with h | h
      · exact absurd rfl h
      · omega
    · obtain rfl : k = k' := by omega
      rw [hq] at hq'
      obtain rfl := Option.some.inj hq'
      exact h
theorem put16_at (va : Option Addr) (vn vc : Nat) (cs : List Value) (ms : Ml) (m : Msg) (xa : Option Addr) (xc : Nat) (x : List Wr) (ho : okPut ms (m, x)) (w : World) (hv : MsC cs 0 w.heap.size w (.slice va vn vc) ms) (hx : Ws 0 w.heap.size w (.slice xa x.length xc) x) :
    Calls Try.prog 14 #[.agg #[.slice va vn vc], .agg (m.cells (.slice xa x.length xc))] w (MailPost (ms ++ [(m, x)]) 0 w) :=
  (put16_c va vn vc cs ms m xa xc x w hv hx).mono fun e w' h => by
    obtain ⟨l, c, h, ⟨rfl, -, rfl⟩ | ⟨-, h2⟩⟩ := h
    · exact h
    · exact absurd ho h2

/-- what Take hands back, as one chunk of one's own -/
abbrev tkE (cs : List Value) (lo hi : Nat) (v : Value) (l : Ml) (v2 : Value) (x : List Wr) : Ent := .own lo hi (fun y => MsC cs lo hi y v l ∧ Ws lo hi y v2 x)
theorem Mem.pushTake {w0 w w' : World} {H : List Ent} {cs : List Value} {v v2 : Value} {l : Ml} {x : List Wr} (M : Mem w0 w H) (hb : Below w.heap.size w w') (h : ∀ y, SameOn w.heap.size w'.heap.size w' y → MsC cs w.heap.size w'.heap.size y v l ∧ Ws w.heap.size w'.heap.size y v2 x) : ∃ lo hi, Mem w0 w' (tkE cs lo hi v l v2 x :: H) :=
  ⟨_, _, M.push hb (tkE cs w.heap.size w'.heap.size v l v2 x) h (Nat.le_refl _) (Nat.le_refl _)⟩
theorem Mem.tkMs {w0 w : World} {H : List Ent} {cs : List Value} {v v2 : Value} {l : Ml} {x : List Wr} {lo hi : Nat} (M : Mem w0 w H) (p : Nat) (h : H[p]? = some (tkE cs lo hi v l v2 x)) : MsC cs 0 w.heap.size w v l :=
  (M.own p h).1.wide (Nat.zero_le _) (M.fits _ (List.mem_of_getElem? h)).2
theorem Mem.tkWs {w0 w : World} {H : List Ent} {cs : List Value} {v v2 : Value} {l : Ml} {x : List Wr} {lo hi : Nat} (M : Mem w0 w H) (p : Nat) (h : H[p]? = some (tkE cs lo hi v l v2 x)) : Ws 0 w.heap.size w v2 x :=
  (M.own p h).2.wide (Nat.zero_le _) (M.fits _ (List.mem_of_getElem? h)).2

def pingM (t : Int) : Msg := ⟨1, 0, t, 1, 0, ⟨0, 0, 0⟩, 0, 0, 0, ⟨0, 0, 0, 0, 0, 0, 0, 0⟩, 0, false, 0, 0⟩
theorem ping_any (t : Int) (w : World) : Calls Try.prog 18 #[.int .i64 t] w fun e w' => e = .returned (.agg ((pingM t).cells (.slice none 0 0))) ∧ Below w.heap.size w w' := by
  have M := Mem.start w
  refine calls_enter Try.func18 rfl 5 rfl rfl ?_; intro a S
  refine nxD ?_
  refine st_alloc S M rfl rfl #[.int .i8 0, .int .i64 0, .int .i64 0, .int .i64 0, .int .i64 0, .int .i64 0, .int .i64 0, .int .i64 0, .int .i64 0, .int .i8 0, .int .i64 0, .int .u8 0, .int .u8 0, .int .u8 0, .int .u8 0, .int .u8 0, .int .u8 0, .int .u8 0, .int .u8 0, .int .i64 0, .bool false, .int .i64 0, .int .i64 0, .slice none 0 0] (by kernel_rfl) ?_; clear S M a; intro a w1 b1 S M hB
  refine nxA ?_
  refine st_go [1] S rfl (by kernel_rfl) ?_; clear S a; intro a S
  refine st_y S rfl rfl rfl (y_build (ps := [(0, (Operand.const (Value.int IntKind.i8 1))), (2, (Operand.tmp 3)), (3, (Operand.const (Value.int IntKind.i64 1)))]) (pl := [(0, 1), (1, 1), (2, 1), (3, 1), (4, 1), (5, 3), (8, 1), (9, 1), (10, 1), (11, 8), (19, 1), (20, 1), (21, 1), (22, 1), (23, 1)]) (z := [.int .i8 0, .int .i64 0, .int .i64 0, .int .i64 0, .int .i64 0, .int .i64 0, .int .i64 0, .int .i64 0, .int .i64 0, .int .i8 0, .int .i64 0, .int .u8 0, .int .u8 0, .int .u8 0, .int .u8 0, .int .u8 0, .int .u8 0, .int .u8 0, .int .u8 0, .int .i64 0, .bool false, .int .i64 0, .int .i64 0, .slice none 0 0]) (cs := [_, _, _, _, _, _, _, _, _, _, _, _, _, _, _, _, _, _, _, _, _, _, _, _]) S (by kernel_rfl) rfl (rfl)) ?_; clear S a; intro a S
  refine st_store (sz := 24) (us := [_, _, _, _, _, _, _, _, _, _, _, _, _, _, _, _, _, _, _, _, _, _, _, _]) S M 0 rfl (by kernel_rfl) rfl rfl rfl rfl rfl rfl (by first | decide | (simp; done) | (simp; omega)) ?_; clear M; intro w2 M
  simp only [putL, List.set_cons_zero, List.set_cons_succ, Nat.reduceAdd] at M
  refine nxC ?_
  refine wp_ret ?_
  refine end_one S rfl (res_agg (cs := [_, _, _, _, _, _, _, _, _, _, _, _, _, _, _, _, _, _, _, _, _, _, _, _]) (by kernel_rfl) rfl rfl (M.cellsAt (k := 24) 0 rfl rfl)) ?_
  exact ⟨rfl, M.below⟩
theorem MsC.to {cs : List Value} {lo hi i : Nat} {w : World} {v : Value} {ms : Ml} {q : Msg × List Wr} (h : MsC cs lo hi w v ms) (hq : ms[i]? = some q) : w.cell? ⟨(adr v).block, (adr v).off + i * 24 + 2, none⟩ = some (.int .i64 q.1.to) := by
  obtain ⟨ad, cp, hc, -⟩ := h.get hq
  exact hc 2 (by show 2 < 24; omega)
def p16 (t : Int) : Msg × List Wr := (pingM t, [])
theorem p16_a : okPut [] (p16 1) := ⟨by decide, by decide +kernel, by decide⟩
theorem p16_b : okPut ([] ++ [p16 1]) (p16 2) := ⟨by decide +kernel, by decide +kernel, by decide⟩
theorem p16_c : Ml.ok (([] ++ [p16 1]) ++ [p16 2]) = true := by decide +kernel
theorem p16_d : Ml.ok ((([] ++ [p16 1]) ++ [p16 2]) ++ [p16 1]) = true := by decide +kernel
set_option maxHeartbeats 1000000 in
theorem wakes16_any (w : World) : Calls Try.prog 6 #[] w fun e w' => e = .returned (.bool true) ∧ Below w.heap.size w w' := by
  have M := Mem.start w
  refine calls_enter Try.func6 rfl 71 rfl rfl ?_; intro a S
  refine nxD ?_
  refine st_go [1] S rfl (by kernel_rfl) ?_; clear S a; intro a S
  refine nxA ?_
  refine st_alloc S M rfl rfl #[.slice none 0 0] (by kernel_rfl) ?_; clear S M a; intro a w1 bF S M hB
  refine nxC ?_
  refine wp_seq ?_
  refine wp_regionK [6] #[false, false, false, false, false, false, false, false] rfl M (by kernel_rfl) ?_; clear M; intro w2 M
  refine k_read (listed' := #[true, false, false, false, false, false, false, false]) 0 S rfl rfl rfl rfl (by kernel_rfl) rfl (fun _ d _ _ _ h => by cases d <;> exact h) (fun w hW => have M := M.grow hW; y_loadAgg (cs := [_]) S (by kernel_rfl) rfl rfl (M.cellsAt (k := 1) 0 rfl rfl)) ?_; clear S a; intro a S
  refine k_one (listed' := #[true, true, false, false, false, false, false, false]) 1 rfl (by kernel_rfl) rfl ?_
  refine st_call (xs := [(Operand.const (Value.int IntKind.i64 1))]) S (enters_of Try.func18 (by decide) rfl) rfl rfl rfl (ping_any _ _) ?_
  rintro _ w3 ⟨rfl, hK⟩; refine ⟨_, rfl, ?_⟩; clear S a; intro a S; replace M := M.grow hK
  refine wpList_nil ?_; refine then_normal ?_; refine ⟨fun _ => hK, ?_⟩
  refine k_one (listed' := #[true, true, true, false, false, false, false, false]) 2 rfl (by kernel_rfl) rfl ?_
  refine st_call (xs := [(Operand.tmp 8), (Operand.tmp 9)]) S (enters_of Try.func14 (by decide) rfl) rfl rfl rfl (put16_at none 0 0 [] [] (pingM 1) none 0 [] p16_a _ (MsC.nil _ _ _) (Rd.nil _ _ _ _)) ?_
  rintro _ w4 ⟨ad1, cp1, cs1, rfl, hK, hMs⟩; refine ⟨_, rfl, ?_⟩; clear S a; intro a S
  obtain ⟨lo1, hi1, M⟩ := M.pushMs hK hMs
  refine wpList_nil ?_; refine then_normal ?_; refine ⟨fun _ => hK, ?_⟩
  refine k_pure (listed' := #[true, true, true, true, false, false, false, false]) 3 S rfl rfl rfl rfl (by kernel_rfl) rfl (fun _ d _ _ _ h => by cases d <;> exact h) (fun w => y_move S rfl) ?_; clear S a; intro a S
  refine k_pure (listed' := #[true, true, true, true, true, false, false, false]) 4 S rfl rfl rfl rfl (by kernel_rfl) rfl (fun _ d _ _ _ h => by cases d <;> exact h) (fun w => y_extract S rfl rfl) ?_; clear S a; intro a S
  refine k_pure (listed' := #[true, true, true, true, true, true, false, false]) 5 S rfl rfl rfl rfl (by kernel_rfl) rfl (fun _ d _ _ _ h => by cases d <;> exact h) (fun w => y_extract S rfl rfl) ?_; clear S a; intro a S
  refine k_one (listed' := #[true, true, true, true, true, true, true, false]) 6 rfl (by kernel_rfl) rfl ?_
  refine st_store (sz := 1) (us := [_]) S M 1 rfl (by kernel_rfl) rfl rfl rfl rfl rfl rfl (by first | decide | (simp; done) | (simp; omega)) ?_; clear M; intro w5 M
  simp only [putL, List.set_cons_zero, List.set_cons_succ, Nat.reduceAdd] at M
  refine wpList_nil ?_; refine then_normal ?_; refine ⟨fun h => absurd h (by decide), ?_⟩
  refine k_pure (listed' := #[true, true, true, true, true, true, true, true]) 7 S rfl rfl rfl rfl (by kernel_rfl) rfl (fun _ d _ _ _ h => by cases d <;> exact h) (fun w => y_assign S rfl) ?_; clear S a; intro a S
  refine k_end (by kernel_rfl) ?_
  refine then_normal ?_
  refine wp_seq ?_
  refine wp_regionK [6] #[false, false, false, false, false, false, false, false] rfl M (by kernel_rfl) ?_; clear M; intro w6 M
  refine k_read (listed' := #[true, false, false, false, false, false, false, false]) 0 S rfl rfl rfl rfl (by kernel_rfl) rfl (fun _ d _ _ _ h => by cases d <;> exact h) (fun w hW => have M := M.grow hW; y_loadAgg (cs := [_]) S (by kernel_rfl) rfl rfl (M.cellsAt (k := 1) 1 rfl rfl)) ?_; clear S a; intro a S
  refine k_one (listed' := #[true, true, false, false, false, false, false, false]) 1 rfl (by kernel_rfl) rfl ?_
  refine st_call (xs := [(Operand.const (Value.int IntKind.i64 2))]) S (enters_of Try.func18 (by decide) rfl) rfl rfl rfl (ping_any _ _) ?_
  rintro _ w7 ⟨rfl, hK⟩; refine ⟨_, rfl, ?_⟩; clear S a; intro a S; replace M := M.grow hK
  refine wpList_nil ?_; refine then_normal ?_; refine ⟨fun _ => hK, ?_⟩
  refine k_one (listed' := #[true, true, true, false, false, false, false, false]) 2 rfl (by kernel_rfl) rfl ?_
  refine st_call (xs := [(Operand.tmp 14), (Operand.tmp 15)]) S (enters_of Try.func14 (by decide) rfl) rfl rfl rfl (put16_at _ _ _ cs1 ([] ++ [p16 1]) (pingM 2) none 0 [] p16_b _ (M.msAll 0 rfl) (Rd.nil _ _ _ _)) ?_
  rintro _ w8 ⟨ad2, cp2, cs2, rfl, hK, hMs⟩; refine ⟨_, rfl, ?_⟩; clear S a; intro a S
  obtain ⟨lo2, hi2, M⟩ := M.pushMs hK hMs
  refine wpList_nil ?_; refine then_normal ?_; refine ⟨fun _ => hK, ?_⟩
  refine k_pure (listed' := #[true, true, true, true, false, false, false, false]) 3 S rfl rfl rfl rfl (by kernel_rfl) rfl (fun _ d _ _ _ h => by cases d <;> exact h) (fun w => y_move S rfl) ?_; clear S a; intro a S
  refine k_pure (listed' := #[true, true, true, true, true, false, false, false]) 4 S rfl rfl rfl rfl (by kernel_rfl) rfl (fun _ d _ _ _ h => by cases d <;> exact h) (fun w => y_extract S rfl rfl) ?_; clear S a; intro a S
  refine k_pure (listed' := #[true, true, true, true, true, true, false, false]) 5 S rfl rfl rfl rfl (by kernel_rfl) rfl (fun _ d _ _ _ h => by cases d <;> exact h) (fun w => y_extract S rfl rfl) ?_; clear S a; intro a S
  refine k_one (listed' := #[true, true, true, true, true, true, true, false]) 6 rfl (by kernel_rfl) rfl ?_
  refine st_store (sz := 1) (us := [_]) S M 2 rfl (by kernel_rfl) rfl rfl rfl rfl rfl rfl (by first | decide | (simp; done) | (simp; omega)) ?_; clear M; intro w9 M
  simp only [putL, List.set_cons_zero, List.set_cons_succ, Nat.reduceAdd] at M
  refine wpList_nil ?_; refine then_normal ?_; refine ⟨fun h => absurd h (by decide), ?_⟩
  refine k_pure (listed' := #[true, true, true, true, true, true, true, true]) 7 S rfl rfl rfl rfl (by kernel_rfl) rfl (fun _ d _ _ _ h => by cases d <;> exact h) (fun w => y_assign S rfl) ?_; clear S a; intro a S
  refine k_end (by kernel_rfl) ?_
  refine nxE ?_
  refine st_y S rfl rfl rfl (y_loadAgg (cs := [_]) S (by kernel_rfl) rfl rfl (M.cellsAt (k := 1) 2 rfl rfl)) ?_; clear S a; intro a S
  refine st_call (xs := [(Operand.tmp 20), (Operand.const (Value.int IntKind.i64 0))]) S (enters_of Try.func17 (by decide) rfl) rfl rfl rfl (twice16_at _ _ _ cs2 (([] ++ [p16 1]) ++ [p16 2]) 0 (p16 1) p16_c (by decide) rfl _ (M.msAll 0 rfl)) ?_
  rintro _ w10 ⟨ad3, cp3, cs3, rfl, hK, hMs⟩; refine ⟨_, rfl, ?_⟩; clear S a; intro a S
  obtain ⟨lo3, hi3, M⟩ := M.pushMs hK hMs
  refine st_go [1, 1, 1] S rfl (by kernel_rfl) ?_; clear S a; intro a S
  refine st_store (sz := 1) (us := [_]) S M 3 rfl (by kernel_rfl) rfl rfl rfl rfl rfl rfl (by first | decide | (simp; done) | (simp; omega)) ?_; clear M; intro w11 M
  simp only [putL, List.set_cons_zero, List.set_cons_succ, Nat.reduceAdd] at M
  refine st_go [1] S rfl (by kernel_rfl) ?_; clear S a; intro a S
  replace S := S.sub [(0, _), (1, _), (2, _), (3, _), (4, _)] rfl
  refine nxA ?_
  refine st_y S rfl rfl rfl (y_loadAgg (cs := [_]) S (by kernel_rfl) rfl rfl (M.cellsAt (k := 1) 3 rfl rfl)) ?_; clear S a; intro a S
  refine st_call (xs := [(Operand.tmp 25), (Operand.const (Value.int IntKind.i64 0))]) S (enters_of Try.func15 (by decide) rfl) rfl rfl rfl (take16_at _ _ _ cs3 ((([] ++ [p16 1]) ++ [p16 2]) ++ [p16 1]) 0 (p16 1) p16_d rfl _ (M.msAll 0 rfl)) ?_
  rintro _ w12 ⟨ad4, cp4, cs4, ad5, cp5, rfl, hK, hh⟩; refine ⟨_, rfl, ?_⟩; clear S a; intro a S
  obtain ⟨lo4, hi4, M⟩ := M.pushTake hK hh
  refine st_go [1, 1, 1, 1] S rfl (by kernel_rfl) ?_; clear S a; intro a S
  refine st_alloc S M rfl rfl #[.int .i8 0, .int .i64 0, .int .i64 0, .int .i64 0, .int .i64 0, .int .i64 0, .int .i64 0, .int .i64 0, .int .i64 0, .int .i8 0, .int .i64 0, .int .u8 0, .int .u8 0, .int .u8 0, .int .u8 0, .int .u8 0, .int .u8 0, .int .u8 0, .int .u8 0, .int .i64 0, .bool false, .int .i64 0, .int .i64 0, .slice none 0 0] (by kernel_rfl) ?_; clear S M a; intro a w13 bB S M hB
  refine st_store (sz := 1) (us := [_]) S M 5 rfl (by kernel_rfl) rfl rfl rfl rfl rfl rfl (by first | decide | (simp; done) | (simp; omega)) ?_; clear M; intro w14 M
  simp only [putL, List.set_cons_zero, List.set_cons_succ, Nat.reduceAdd] at M
  refine st_store (sz := 24) (us := [_, _, _, _, _, _, _, _, _, _, _, _, _, _, _, _, _, _, _, _, _, _, _, _]) S M 0 rfl (by kernel_rfl) rfl rfl rfl rfl rfl rfl (by first | decide | (simp; done) | (simp; omega)) ?_; clear M; intro w15 M
  simp only [putL, List.set_cons_zero, List.set_cons_succ, Nat.reduceAdd] at M
  refine st_go [1] S rfl (by kernel_rfl) ?_; clear S a; intro a S
  refine nxA ?_
  refine st_go [1, 1, 1] S rfl (by kernel_rfl) ?_; clear S a; intro a S
  refine st_fi (t := 32) S rfl ?_ ?_
  · clear S; intro h32 S
    simp at h32
  clear S; intro h32 S
  refine st_go [1, 1, 1, 1] S rfl (by kernel_rfl) ?_; clear S a; intro a S
  refine st_fi (t := 36) S rfl ?_ ?_
  · clear S; intro h36 S
    simp at h36
  clear S; intro h36 S
  refine st_go [1, 1, 1, 1] S rfl (by kernel_rfl) ?_; clear S a; intro a S
  refine st_fi (t := 40) S rfl ?_ ?_
  · clear S; intro h40 S
    simp at h40
  clear S; intro h40 S
  refine st_go [1, 1, 1, 1] S rfl (by kernel_rfl) ?_; clear S a; intro a S
  refine st_fi (t := 44) S rfl ?_ ?_
  · clear S; intro h44 S
    simp at h44
  clear S; intro h44 S
  refine st_run [3, 1, 1, 1, 1] S M rfl (by kernel_rfl) ?_; clear S a; intro a S
  refine st_fi (t := 49) S rfl ?_ ?_
  · clear S; intro h49 S
    simp [p16, pingM] at h49
  clear S; intro h49 S
  refine st_run [1, 6] S M rfl (by kernel_rfl) ?_; clear S a; intro a S
  refine st_y S rfl rfl rfl (y_lenS (E := 42) S rfl (by kernel_rfl)) ?_; clear S a; intro a S
  refine st_go [1, 1, 1] S rfl (by kernel_rfl) ?_; clear S a; intro a S
  refine st_fi (t := 55) S rfl ?_ ?_
  · clear S; intro h55 S
    exact absurd rfl h55
  clear S; intro h55 S
  refine st_run [1, 6] S M rfl (by kernel_rfl) ?_; clear S a; intro a S
  refine st_y S rfl rfl rfl (y_indexR (e := 42) (sz := 24) S (by kernel_rfl) rfl ((M.tkMs 1 rfl).1) rfl (by first | omega | (simp; done) | (simp; omega))) ?_; clear S a; intro a S
  refine st_go [3] S rfl (by kernel_rfl) ?_; clear S a; intro a S
  refine st_y S rfl rfl rfl (y_load S (by kernel_rfl) rfl ((M.tkMs 1 rfl).to (i := 0) rfl)) ?_; clear S a; intro a S
  refine st_go [1, 1, 1] S rfl (by kernel_rfl) ?_; clear S a; intro a S
  refine st_fi (t := 63) S rfl ?_ ?_
  · clear S; intro h63 S
    exact absurd rfl h63
  clear S; intro h63 S
  refine st_run [1, 6] S M rfl (by kernel_rfl) ?_; clear S a; intro a S
  refine st_y S rfl rfl rfl (y_indexR (e := 42) (sz := 24) S (by kernel_rfl) rfl ((M.tkMs 1 rfl).1) rfl (by first | omega | (simp; done) | (simp; omega))) ?_; clear S a; intro a S
  refine st_go [3] S rfl (by kernel_rfl) ?_; clear S a; intro a S
  refine st_y S rfl rfl rfl (y_load S (by kernel_rfl) rfl ((M.tkMs 1 rfl).to (i := 1) rfl)) ?_; clear S a; intro a S
  refine st_go [1, 1, 1] S rfl (by kernel_rfl) ?_; clear S a; intro a S
  replace S := S.sub [(1, _), (2, _), (3, _), (4, _), (5, _), (6, _), (0, _)] rfl
  refine nxC ?_
  refine wp_ret ?_
  refine end_one S rfl (res_tmp rfl) ?_
  refine ⟨ret_bool ?_, M.below⟩
  simp [p16, pingM]

end Go.Proofs.Ytojgcgaoajfihaa
