/-
  Package fabric: Put, there, Take, Twice.
-/
import Derived.Test.YtojgcgaoajfihaaHa
import Derived.Test.YtojgcgaoajfihaaWi
namespace Go.Proofs.Ytojgcgaoajfihaa
open Go.RowKit Go.Sort

theorem ok_x {ms : Ml} (h : ms.ok = true) : ∀ q ∈ ms, q.2.length ≤ 1000 := fun q hq => by
  obtain ⟨i, hi⟩ := List.getElem?_of_mem hq
  have := may_x8 (Ml.all_get (Ml.ok_iff.1 h).2 hi); omega
theorem lsR_two {w : World} {v1 v2 : Value} {c1 c2 : List Value} {m1 m2 : Ml} (h1 : MsC c1 0 w.heap.size w v1 m1) (h2 : MsC c2 0 w.heap.size w v2 m2) (x1 : ∀ q ∈ m1, q.2.length ≤ 1000) (x2 : ∀ q ∈ m2, q.2.length ≤ 1000) (hl : m1.length + m2.length ≤ 1000) :
    LsR w [(v1, c1, m1), (v2, c2, m2)] := fun i x hx => by
  match i, hx with
  | 0, hx => obtain rfl : (v1, c1, m1) = x := by simpa using hx
             exact ⟨h1, by simp [Ls.ms]; omega, x1⟩
  | 1, hx => obtain rfl : (v2, c2, m2) = x := by simpa using hx
             exact ⟨h2, by simp [Ls.ms]; omega, x2⟩
  | i + 2, hx => simp at hx
theorem ms_two (v1 v2 : Value) (c1 c2 : List Value) (m1 m2 : Ml) : Ls.ms [(v1, c1, m1), (v2, c2, m2)] = m1 ++ m2 := by simp [Ls.ms]
theorem x_one {m : Msg} {x : List Wr} (hm : m.may x = true) : ∀ q ∈ [(m, x)], q.2.length ≤ 1000 := fun q hq => by
  obtain rfl : q = (m, x) := by simpa using hq
  have := may_x8 hm; simp only; omega
theorem two_max : 2 ≤ maxLen := by unfold maxLen; omega
theorem one_max : 1 ≤ maxLen := by unfold maxLen; omega
/-- a fabric and a code come back -/
def MailPost (l : Ml) (c : Int) (w : World) (e : Ending) (w' : World) : Prop := ∃ ad cp cs, e = .returned (.tuple #[.agg #[.slice ad l.length cp], .int .i64 c]) ∧ Below w.heap.size w w' ∧ MsC cs w.heap.size w'.heap.size w' (.slice ad l.length cp) l
theorem mail_no {w w' : World} {H : List Ent} (M : Mem w w' H) (c : Int) : MailPost [] c w (.returned (.tuple #[.agg #[.slice none 0 0], .int .i64 c])) w' := ⟨none, 0, [], rfl, M.below, MsC.nil _ _ _⟩
theorem mail_eq {l l' : Ml} {c c' : Int} {w w' : World} {e : Ending} (h : MailPost l c w e w') (h1 : (l', c') = (l, c)) : MailPost l' c' w e w' := by cases h1; exact h
def putF (ms : Ml) (q : Msg × List Wr) : Ml × Int := if ms.ok = true ∧ q.1.may q.2 = true then (if ms.length = 200 then ([], 50) else (ms ++ [q], 0)) else ([], 2)
set_option maxHeartbeats 1000000 in
theorem put16_any (va : Option Addr) (vn vc : Nat) (cs : List Value) (ms : Ml) (m : Msg) (xa : Option Addr) (xc : Nat) (x : List Wr) (w : World) (hv : MsC cs 0 w.heap.size w (.slice va vn vc) ms) (hx : Ws 0 w.heap.size w (.slice xa x.length xc) x) :
    Calls Try.prog 14 #[.agg #[.slice va vn vc], .agg (m.cells (.slice xa x.length xc))] w (MailPost (putF ms (m, x)).1 (putF ms (m, x)).2 w) := by
  have M := Mem.start w
  refine calls_enter Try.func14 rfl 26 rfl rfl ?_; intro a S
  refine nxD ?_
  refine st_box S M rfl rfl rfl #[_] rfl ?_; clear S M a; intro a w1 bF S M hB
  refine st_box S M rfl rfl rfl #[_, _, _, _, _, _, _, _, _, _, _, _, _, _, _, _, _, _, _, _, _, _, _, _] rfl ?_; clear S M a; intro a w2 bB S M hB
  refine st_alloc S M rfl rfl #[.slice none 0 0] (by kernel_rfl) ?_; clear S M a; intro a w3 bO S M hB
  refine st_go [1] S rfl (by kernel_rfl) ?_; clear S a; intro a S
  refine nxC ?_
  refine wp_seq ?_
  refine nxD ?_
  refine st_y S rfl rfl rfl (y_loadAgg (cs := [_]) S (by kernel_rfl) rfl rfl (M.cellsAt (k := 1) 2 rfl rfl)) ?_; clear S a; intro a S
  refine st_call (xs := [(Operand.tmp 6)]) S (enters_of Try.func13 (by decide) rfl) rfl rfl rfl (check16_any _ cs ms _ (M.msW hv)) ?_
  rintro _ w4 ⟨rfl, hK⟩; refine ⟨_, rfl, ?_⟩; clear S a; intro a S; replace M := M.grow hK
  refine st_go [1, 1] S rfl (by kernel_rfl) ?_; clear S a; intro a S
  refine st_split (t := 9) S rfl ?_ ?_
  · clear S; intro h9 S
    refine st_go [0, 0, 0, 1] S rfl (by kernel_rfl) ?_; clear S a; intro a S
    refine nxC ?_
    refine st_condT S rfl ?_
    refine nxD ?_
    refine st_y S rfl rfl rfl (y_build (ps := []) (pl := [(0, 1)]) (z := [.slice none 0 0]) (cs := [_]) S (by kernel_rfl) rfl (rfl)) ?_; clear S a; intro a S
    refine st_store (sz := 1) (us := [_]) S M 0 rfl (by kernel_rfl) rfl rfl rfl rfl rfl rfl (by first | decide | (simp; done) | (simp; omega)) ?_; clear M; intro w5 M
    simp only [putL, List.set_cons_zero, List.set_cons_succ, Nat.reduceAdd] at M
    refine st_go [1] S rfl (by kernel_rfl) ?_; clear S a; intro a S
    refine nxC ?_
    refine wp_ret ?_
    refine then_ret ?_
    refine end_two S rfl (res_agg (cs := [_]) (by kernel_rfl) rfl rfl (M.cellsAt (k := 1) 0 rfl rfl)) (res_tmp rfl) ?_
    refine mail_eq (mail_no M 2) ?_
    unfold putF; rw [if_neg]
    rintro ⟨h1, h2⟩
    first
      | (rw [if_pos h1] at h9; simp at h9; done)
      | (rw [h2] at h13; cases h13; done)
      | (rw [h2] at h12; cases h12; done)
  clear S; intro h9 S
  refine st_y S rfl rfl rfl (y_loadAgg (cs := [_, _, _, _, _, _, _, _, _, _, _, _, _, _, _, _, _, _, _, _, _, _, _, _]) S (by kernel_rfl) rfl rfl (M.cellsAt (k := 24) 1 rfl rfl)) ?_; clear S a; intro a S
  refine st_call (xs := [(Operand.tmp 10)]) S (enters_of Try.func26 (by decide) rfl) rfl rfl rfl (mayM_any m xa _ xc x _ (M.argW hx)) ?_
  rintro _ w6 ⟨rfl, hK⟩; refine ⟨_, rfl, ?_⟩; clear S a; intro a S; replace M := M.grow hK
  refine st_go [1, 1] S rfl (by kernel_rfl) ?_; clear S a; intro a S
  refine nxC ?_
  refine st_if (t := 13) S rfl ?_ ?_
  · clear S; intro h13 S
    refine st_condT S rfl ?_
    refine nxD ?_
    refine st_y S rfl rfl rfl (y_build (ps := []) (pl := [(0, 1)]) (z := [.slice none 0 0]) (cs := [_]) S (by kernel_rfl) rfl (rfl)) ?_; clear S a; intro a S
    refine st_store (sz := 1) (us := [_]) S M 0 rfl (by kernel_rfl) rfl rfl rfl rfl rfl rfl (by first | decide | (simp; done) | (simp; omega)) ?_; clear M; intro w7 M
    simp only [putL, List.set_cons_zero, List.set_cons_succ, Nat.reduceAdd] at M
    refine st_go [1] S rfl (by kernel_rfl) ?_; clear S a; intro a S
    refine nxC ?_
    refine wp_ret ?_
    refine then_ret ?_
    refine end_two S rfl (res_agg (cs := [_]) (by kernel_rfl) rfl rfl (M.cellsAt (k := 1) 0 rfl rfl)) (res_tmp rfl) ?_
    refine mail_eq (mail_no M 2) ?_
    unfold putF; rw [if_neg]
    rintro ⟨h1, h2⟩
    first
      | (rw [if_pos h1] at h9; simp at h9; done)
      | (rw [h2] at h13; cases h13; done)
      | (rw [h2] at h12; cases h12; done)
  clear S; intro h13 S
  refine st_condF S rfl ?_
  refine wp_skip ?_
  refine then_normal ?_
  refine wp_seq ?_
  refine wp_seq ?_
  have hok : ms.ok = true := by
    cases h : ms.ok with
    | true => rfl
    | false => rw [h] at h9; simp at h9
  have hm : m.may x = true := by first | simpa using h13 | simpa using h12
  have hlen := (Ml.ok_iff.1 hok).1
  refine wp_region_lit ?_
  refine st_run [1, 3] S M rfl (by kernel_rfl) ?_; clear S a; intro a S
  refine st_y S rfl rfl rfl (y_lenR (E := 42) S rfl ((M.ms hv).1) (by kernel_rfl)) ?_; clear S a; intro a S
  refine st_go [1] S rfl (by kernel_rfl) ?_; clear S a; intro a S
  refine nxC ?_
  refine st_if (t := 18) S rfl ?_ ?_
  · clear S; intro h18 S
    refine st_condT S rfl ?_
    refine nxD ?_
    refine st_y S rfl rfl rfl (y_build (ps := []) (pl := [(0, 1)]) (z := [.slice none 0 0]) (cs := [_]) S (by kernel_rfl) rfl (rfl)) ?_; clear S a; intro a S
    refine st_store (sz := 1) (us := [_]) S M 0 rfl (by kernel_rfl) rfl rfl rfl rfl rfl rfl (by first | decide | (simp; done) | (simp; omega)) ?_; clear M; intro w8 M
    simp only [putL, List.set_cons_zero, List.set_cons_succ, Nat.reduceAdd] at M
    refine st_go [1] S rfl (by kernel_rfl) ?_; clear S a; intro a S
    refine nxC ?_
    refine wp_ret ?_
    refine then_ret ?_
    refine end_two S rfl (res_agg (cs := [_]) (by kernel_rfl) rfl rfl (M.cellsAt (k := 1) 0 rfl rfl)) (res_tmp rfl) ?_
    refine mail_eq (mail_no M 50) ?_
    unfold putF; rw [if_pos ⟨hok, hm⟩, if_pos (by omega)]
  clear S; intro h18 S
  refine st_condF S rfl ?_
  refine wp_skip ?_
  refine nxE ?_
  refine st_run [1, 3] S M rfl (by kernel_rfl) ?_; clear S a; intro a S
  refine st_y S rfl rfl rfl (y_loadAgg (cs := [_, _, _, _, _, _, _, _, _, _, _, _, _, _, _, _, _, _, _, _, _, _, _, _]) S (by kernel_rfl) rfl rfl (M.cellsAt (k := 24) 1 rfl rfl)) ?_; clear S a; intro a S
  refine st_lit (ps := [(0, (Operand.tmp 22))]) (e := 42) (sz := 24) (zl := [.int .i8 0, .int .i64 0, .int .i64 0, .int .i64 0, .int .i64 0, .int .i64 0, .int .i64 0, .int .i64 0, .int .i64 0, .int .i8 0, .int .i64 0, .int .u8 0, .int .u8 0, .int .u8 0, .int .u8 0, .int .u8 0, .int .u8 0, .int .u8 0, .int .u8 0, .int .i64 0, .bool false, .int .i64 0, .int .i64 0, .slice none 0 0]) (cs := (m.cells (.slice xa x.length xc)).toList) S M rfl rfl (by kernel_rfl) rfl (by kernel_rfl) ?_; clear S M a; intro a w9 bZ S M hB
  refine st_lit (ps := [(0, (Operand.tmp 21)), (1, (Operand.tmp 23))]) (e := 22) (sz := 1) (zl := [.slice none 0 0, .slice none 0 0]) (cs := [_, _]) S M rfl rfl (by kernel_rfl) rfl (rfl) ?_; clear S M a; intro a w10 bY S M hB
  refine st_call (xs := [(Operand.tmp 24)]) S (enters_of Try.func27 (by decide) rfl) rfl rfl rfl (joined_any _ [(.slice va vn vc, cs, ms), (.slice (some ⟨bZ, 0, none⟩) 1 1, (m.cells (.slice xa x.length xc)).toList, [(m, x)])] _ (M.sliceAt (m := 2) (cap := 2) 0 rfl (M.cellsAt (k := 2) 0 rfl rfl) rfl (Nat.le_refl _) two_max) (lsR_two (M.msW hv) (MsC.single (M.sliceAt 1 rfl (M.cellsAt (k := 24) 1 rfl rfl) rfl (Nat.le_refl _) one_max) (M.argW hx)) (ok_x hok) (x_one hm) (by simp; omega)) (by rw [ms_two]; simp; omega)) ?_
  rintro _ w11 ⟨ad, cp, cs', rfl, hK, hMs⟩; refine ⟨_, rfl, ?_⟩; clear S a; intro a S
  rw [ms_two] at S hMs
  obtain ⟨lo1, hi1, M⟩ := M.pushMs hK hMs
  refine st_store (sz := 1) (us := [_]) S M 3 rfl (by kernel_rfl) rfl rfl rfl rfl rfl rfl (by first | decide | (simp; done) | (simp; omega)) ?_; clear M; intro w12 M
  simp only [putL, List.set_cons_zero, List.set_cons_succ, Nat.reduceAdd] at M
  refine st_go [1] S rfl (by kernel_rfl) ?_; clear S a; intro a S
  replace S := S.sub [(0, _), (1, _), (2, _), (3, _), (4, _), (13, _), (18, _), (5, _)] rfl
  refine nxC ?_
  refine wp_ret ?_
  refine end_two S rfl (res_agg (cs := [_]) (by kernel_rfl) rfl rfl (M.cellsAt (k := 1) 3 rfl rfl)) (res_tmp rfl) ?_
  refine mail_eq (l := ms ++ [(m, x)]) (c := 0) ⟨ad, cp, cs', rfl, M.below, M.msNew 0 rfl⟩ ?_
  unfold putF; rw [if_pos ⟨hok, hm⟩, if_neg (by omega)]

theorem okC {ms : Ml} {c : Int} (h : (if ms.ok = true then (0 : Int) else 2) = c) : (ms.ok = true ∧ c = 0) ∨ (ms.ok = false ∧ c = 2) := by
  cases hk : ms.ok with
  | true => rw [hk] at h; exact .inl ⟨rfl, h.symm⟩
  | false => rw [hk] at h; exact .inr ⟨rfl, h.symm⟩
theorem check16_c (v : Value) (cs : List Value) (ms : Ml) (c : Int) (hc : (if ms.ok = true then (0 : Int) else 2) = c) (w : World) (hv : MsC cs 0 w.heap.size w v ms) :
    Calls Try.prog 13 #[.agg #[v]] w fun e w' => e = .returned (.int .i64 c) ∧ Below w.heap.size w w' := hc ▸ check16_any v cs ms w hv
/-- whether there is an n-th message -/
def thereC (ms : Ml) (n : Int) : Int := if ms.ok = true then (if 0 ≤ n ∧ n < (ms.length : Int) then 0 else 4) else 2
theorem thereC_cases {ms : Ml} {n c : Int} (h : thereC ms n = c) : (c ≠ 0) ∨ (c = 0 ∧ ms.ok = true ∧ ∃ (k : Nat) (q : Msg × List Wr), n = (k : Int) ∧ k < ms.length ∧ ms[k]? = some q) := by
  unfold thereC at h; split at h
  · rename_i hk; split at h
    · rename_i hn; exact .inr ⟨h.symm, hk, n.toNat, ms[n.toNat]'(by omega), by omega, by omega, List.getElem?_eq_getElem (by omega)⟩
    · exact .inl (by omega)
  · exact .inl (by omega)
theorem there_any (va : Option Addr) (vn vc : Nat) (cs : List Value) (ms : Ml) (n : Int) (w : World) (hv : MsC cs 0 w.heap.size w (.slice va vn vc) ms) :
    Calls Try.prog 28 #[.agg #[.slice va vn vc], .int .i64 n] w fun e w' => e = .returned (.int .i64 (thereC ms n)) ∧ Below w.heap.size w w' := by
  have M := Mem.start w
  obtain ⟨c, hc⟩ : ∃ c, (if ms.ok = true then (0 : Int) else 2) = c := ⟨_, rfl⟩
  have hc' := okC hc
  generalize hR : thereC ms n = R
  unfold thereC at hR
  refine calls_enter Try.func28 rfl 17 rfl rfl ?_; intro a S
  refine nxD ?_
  refine st_box S M rfl rfl rfl #[_] rfl ?_; clear S M a; intro a w1 bF S M hB
  refine st_go [1] S rfl (by kernel_rfl) ?_; clear S a; intro a S
  refine nxC ?_
  refine wp_seq ?_
  refine nxD ?_
  refine st_y S rfl rfl rfl (y_loadAgg (cs := [_]) S (by kernel_rfl) rfl rfl (M.cellsAt (k := 1) 0 rfl rfl)) ?_; clear S a; intro a S
  refine st_call (xs := [(Operand.tmp 5)]) S (enters_of Try.func13 (by decide) rfl) rfl rfl rfl (check16_c _ cs ms c hc _ (M.msW hv)) ?_
  rintro _ w2 ⟨rfl, hK⟩; refine ⟨_, rfl, ?_⟩; clear S a; intro a S; replace M := M.grow hK
  refine st_go [1] S rfl (by kernel_rfl) ?_; clear S a; intro a S
  refine nxC ?_
  refine st_if (t := 7) S rfl ?_ ?_
  · clear S; intro h7 S
    refine st_condT S rfl ?_
    refine nxD ?_
    refine st_go [1] S rfl (by kernel_rfl) ?_; clear S a; intro a S
    refine nxC ?_
    refine wp_ret ?_
    refine then_ret ?_
    refine end_one S rfl (res_tmp rfl) ?_
    refine ⟨?_, M.below⟩
    rcases hc' with ⟨h1, h2⟩ | ⟨h1, h2⟩
    · exact absurd h2 (by simpa using h7)
    · rw [if_neg (by simp [h1])] at hR; rw [hR]
  clear S; intro h7 S
  refine st_condF S rfl ?_
  refine wp_skip ?_
  refine then_normal ?_
  refine wp_seq ?_
  refine wp_seq ?_
  have hok : ms.ok = true := by
    rcases hc' with ⟨h1, h2⟩ | ⟨h1, h2⟩
    · exact h1
    · exfalso; simp [h2] at h7
  rw [if_pos hok] at hR
  refine wp_region_lit ?_
  refine st_go [1, 1, 1] S rfl (by kernel_rfl) ?_; clear S a; intro a S
  refine st_if (t := 10) S rfl ?_ ?_
  · clear S; intro h10 S
    refine st_go [0, 0, 0, 0, 0, 1] S rfl (by kernel_rfl) ?_; clear S a; intro a S
    refine nxC ?_
    refine st_condT S rfl ?_
    refine nxD ?_
    refine st_go [1] S rfl (by kernel_rfl) ?_; clear S a; intro a S
    refine nxC ?_
    refine wp_ret ?_
    refine then_ret ?_
    refine end_one S rfl (res_tmp rfl) ?_
    refine ⟨?_, M.below⟩
    rw [← hR, if_neg (by omega)]
  clear S; intro h10 S
  refine st_run [1, 1, 1] S M rfl (by kernel_rfl) ?_; clear S a; intro a S
  refine st_y S rfl rfl rfl (y_lenR (E := 42) S rfl ((M.ms hv).1) (by kernel_rfl)) ?_; clear S a; intro a S
  refine st_go [1, 1] S rfl (by kernel_rfl) ?_; clear S a; intro a S
  refine nxC ?_
  refine st_if (t := 16) S rfl ?_ ?_
  · clear S; intro h16 S
    refine st_condT S rfl ?_
    refine nxD ?_
    refine st_go [1] S rfl (by kernel_rfl) ?_; clear S a; intro a S
    refine nxC ?_
    refine wp_ret ?_
    refine then_ret ?_
    refine end_one S rfl (res_tmp rfl) ?_
    refine ⟨?_, M.below⟩
    rw [← hR, if_neg (by omega)]
  clear S; intro h16 S
  refine st_condF S rfl ?_
  refine wp_skip ?_
  refine nxE ?_
  refine st_go [1] S rfl (by kernel_rfl) ?_; clear S a; intro a S
  refine nxC ?_
  refine wp_ret ?_
  refine end_one S rfl (res_tmp rfl) ?_
  refine ⟨?_, M.below⟩
  rw [← hR, if_pos (by omega)]
theorem there_c (va : Option Addr) (vn vc : Nat) (cs : List Value) (ms : Ml) (n c : Int) (hc : thereC ms n = c) (w : World) (hv : MsC cs 0 w.heap.size w (.slice va vn vc) ms) :
    Calls Try.prog 28 #[.agg #[.slice va vn vc], .int .i64 n] w fun e w' => e = .returned (.int .i64 c) ∧ Below w.heap.size w w' := hc ▸ there_any va vn vc cs ms n w hv

/-- what is left, what is taken, a code -/
def TakePost (l : Ml) (q : Msg × List Wr) (c : Int) (w : World) (e : Ending) (w' : World) : Prop := ∃ ad cp cs ad2 cp2, e = .returned (.tuple #[.agg #[.slice ad l.length cp], .agg (q.1.cells (.slice ad2 q.2.length cp2)), .int .i64 c]) ∧ Below w.heap.size w w' ∧
  (∀ x, SameOn w.heap.size w'.heap.size w' x → MsC cs w.heap.size w'.heap.size x (.slice ad l.length cp) l ∧ Ws w.heap.size w'.heap.size x (.slice ad2 q.2.length cp2) q.2)
theorem MsC.cut2 {cs : List Value} {lo hi k : Nat} {w : World} {v : Value} {ms : Ml} (h : MsC cs lo hi w v ms) (hk : k ≤ ms.length) :
    MsC ((cs.drop 0).take (k * 24)) lo hi w (cutV v 0 k k 24) (ms.take k) := by
  have := h.cut (i := 0) (j := k) (mx := k) (Nat.zero_le _) hk (Nat.le_refl _) (by have := h.1.cap; omega)
  simpa using this
theorem MsC.behind {cs : List Value} {lo hi k : Nat} {w : World} {v : Value} {ms : Ml} (h : MsC cs lo hi w v ms) (hk : k ≤ ms.length) :
    MsC ((cs.drop (k * 24)).take ((ms.length - k) * 24)) lo hi w (cutV v k ms.length (capV v) 24) (ms.drop k) := by
  have := h.cut (i := k) (j := ms.length) (mx := capV v) hk (Nat.le_refl _) h.1.cap.1 (Nat.le_refl _)
  rwa [List.take_of_length_le (l := ms.drop k) (by rw [List.length_drop]; omega)] at this
theorem x_part {ms l : Ml} (h : ∀ q ∈ ms, q.2.length ≤ 1000) (hl : ∀ q ∈ l, q ∈ ms) : ∀ q ∈ l, q.2.length ≤ 1000 := fun q hq => h q (hl q hq)
theorem x_take {ms : Ml} (h : ∀ q ∈ ms, q.2.length ≤ 1000) (k : Nat) : ∀ q ∈ ms.take k, q.2.length ≤ 1000 := x_part h fun q h => List.mem_of_mem_take h
theorem x_drop {ms : Ml} (h : ∀ q ∈ ms, q.2.length ≤ 1000) (k : Nat) : ∀ q ∈ ms.drop k, q.2.length ≤ 1000 := x_part h fun q h => List.mem_of_mem_drop h
theorem x_get {ms : Ml} {k : Nat} {q : Msg × List Wr} (h : ∀ q ∈ ms, q.2.length ≤ 1000) (hq : ms[k]? = some q) : ∀ q' ∈ [q], q'.2.length ≤ 1000 := x_part h fun q' h => by rw [List.mem_singleton] at h; rw [h]; exact List.mem_of_getElem? hq
set_option maxHeartbeats 1000000 in
theorem take16_any (va : Option Addr) (vn vc : Nat) (cs : List Value) (ms : Ml) (n c : Int) (hc : thereC ms n = c) (w : World) (hv : MsC cs 0 w.heap.size w (.slice va vn vc) ms) :
    Calls Try.prog 15 #[.agg #[.slice va vn vc], .int .i64 n] w fun e w' => (c ≠ 0 ∧ TakePost [] (zM, []) c w e w') ∨ (c = 0 ∧ ∃ (k : Nat) (q : Msg × List Wr), n = (k : Int) ∧ ms[k]? = some q ∧ ms.ok = true ∧ TakePost (ms.eraseIdx k) q 0 w e w') := by
  have M := Mem.start w
  have hc' := thereC_cases hc
  refine calls_enter Try.func15 rfl 34 rfl rfl ?_; intro a S
  refine nxD ?_
  refine st_box S M rfl rfl rfl #[_] rfl ?_; clear S M a; intro a w1 bF S M hB
  refine st_alloc S M rfl rfl #[.slice none 0 0] (by kernel_rfl) ?_; clear S M a; intro a w2 bB S M hB
  refine st_alloc S M rfl rfl #[.int .i8 0, .int .i64 0, .int .i64 0, .int .i64 0, .int .i64 0, .int .i64 0, .int .i64 0, .int .i64 0, .int .i64 0, .int .i8 0, .int .i64 0, .int .u8 0, .int .u8 0, .int .u8 0, .int .u8 0, .int .u8 0, .int .u8 0, .int .u8 0, .int .u8 0, .int .i64 0, .bool false, .int .i64 0, .int .i64 0, .slice none 0 0] (by kernel_rfl) ?_; clear S M a; intro a w3 bO S M hB
  refine st_go [1] S rfl (by kernel_rfl) ?_; clear S a; intro a S
  refine nxC ?_
  refine wp_seq ?_
  refine nxD ?_
  refine st_y S rfl rfl rfl (y_loadAgg (cs := [_]) S (by kernel_rfl) rfl rfl (M.cellsAt (k := 1) 2 rfl rfl)) ?_; clear S a; intro a S
  refine st_go [1] S rfl (by kernel_rfl) ?_; clear S a; intro a S
  refine st_call (xs := [(Operand.tmp 8), (Operand.tmp 9)]) S (enters_of Try.func28 (by decide) rfl) rfl rfl rfl (there_c va vn vc cs ms n c hc _ (M.msW hv)) ?_
  rintro _ w4 ⟨rfl, hK⟩; refine ⟨_, rfl, ?_⟩; clear S a; intro a S; replace M := M.grow hK
  refine st_go [1] S rfl (by kernel_rfl) ?_; clear S a; intro a S
  refine nxA ?_
  refine st_go [1, 1] S rfl (by kernel_rfl) ?_; clear S a; intro a S
  refine nxC ?_
  refine st_if (t := 12) S rfl ?_ ?_
  · clear S; intro h12 S
    refine st_condT S rfl ?_
    refine nxD ?_
    refine st_y S rfl rfl rfl (y_build (ps := []) (pl := [(0, 1)]) (z := [.slice none 0 0]) (cs := [_]) S (by kernel_rfl) rfl (rfl)) ?_; clear S a; intro a S
    refine st_y S rfl rfl rfl (y_build (ps := []) (pl := [(0, 1), (1, 1), (2, 1), (3, 1), (4, 1), (5, 3), (8, 1), (9, 1), (10, 1), (11, 8), (19, 1), (20, 1), (21, 1), (22, 1), (23, 1)]) (z := [.int .i8 0, .int .i64 0, .int .i64 0, .int .i64 0, .int .i64 0, .int .i64 0, .int .i64 0, .int .i64 0, .int .i64 0, .int .i8 0, .int .i64 0, .int .u8 0, .int .u8 0, .int .u8 0, .int .u8 0, .int .u8 0, .int .u8 0, .int .u8 0, .int .u8 0, .int .i64 0, .bool false, .int .i64 0, .int .i64 0, .slice none 0 0]) (cs := [_, _, _, _, _, _, _, _, _, _, _, _, _, _, _, _, _, _, _, _, _, _, _, _]) S (by kernel_rfl) rfl (rfl)) ?_; clear S a; intro a S
    refine st_go [1] S rfl (by kernel_rfl) ?_; clear S a; intro a S
    refine st_store (sz := 1) (us := [_]) S M 1 rfl (by kernel_rfl) rfl rfl rfl rfl rfl rfl (by first | decide | (simp; done) | (simp; omega)) ?_; clear M; intro w5 M
    simp only [putL, List.set_cons_zero, List.set_cons_succ, Nat.reduceAdd] at M
    refine st_store (sz := 24) (us := [_, _, _, _, _, _, _, _, _, _, _, _, _, _, _, _, _, _, _, _, _, _, _, _]) S M 0 rfl (by kernel_rfl) rfl rfl rfl rfl rfl rfl (by first | decide | (simp; done) | (simp; omega)) ?_; clear M; intro w6 M
    simp only [putL, List.set_cons_zero, List.set_cons_succ, Nat.reduceAdd] at M
    refine st_go [1] S rfl (by kernel_rfl) ?_; clear S a; intro a S
    refine nxC ?_
    refine wp_ret ?_
    refine then_ret ?_
    refine end_three S rfl (res_agg (cs := [_]) (by kernel_rfl) rfl rfl (M.cellsAt (k := 1) 1 rfl rfl)) (res_agg (cs := [_, _, _, _, _, _, _, _, _, _, _, _, _, _, _, _, _, _, _, _, _, _, _, _]) (by kernel_rfl) rfl rfl (M.cellsAt (k := 24) 0 rfl rfl)) (res_tmp rfl) ?_
    refine .inl ⟨by simpa using h12, none, 0, [], none, 0, rfl, M.below, fun x _ => ⟨MsC.nil _ _ _, Rd.nil _ _ _ _⟩⟩
  clear S; intro h12 S
  refine st_condF S rfl ?_
  refine wp_skip ?_
  refine then_normal ?_
  refine wp_seq ?_
  rcases hc' with hc' | ⟨hc0, hok, k, q, rfl, hk, hq⟩
  · exfalso; simp [hc'] at h12
  have hlen := (Ml.ok_iff.1 hok).1
  have hx := ok_x hok
  obtain ⟨xa, xc, hrow, hws⟩ := hv.sl hq
  refine wp_regionK [18, 19] #[false, false, false, false, false, false, false, false, false, false, false, false, false, false, false, false, false, false, false, false, false] rfl M (by kernel_rfl) ?_; clear M; intro w7 M
  refine k_pure (listed' := #[true, false, false, false, false, false, false, false, false, false, false, false, false, false, false, false, false, false, false, false, false]) 0 S rfl rfl rfl rfl (by kernel_rfl) rfl (fun _ d _ _ _ h => by cases d <;> exact h) (fun w => y_fieldAddr (k := 0) S (by kernel_rfl) rfl) ?_; clear S a; intro a S
  refine k_read (listed' := #[true, true, false, false, false, false, false, false, false, false, false, false, false, false, false, false, false, false, false, false, false]) 1 S rfl rfl rfl rfl (by kernel_rfl) rfl (fun _ d _ _ _ h => by cases d <;> exact h) (fun w hW => have M := M.grow hW; y_load S (by kernel_rfl) rfl (M.cell 2 rfl rfl)) ?_; clear S a; intro a S
  refine k_pure (listed' := #[true, true, true, false, false, false, false, false, false, false, false, false, false, false, false, false, false, false, false, false, false]) 2 S rfl rfl rfl rfl (by kernel_rfl) rfl (fun _ d _ _ _ h => by cases d <;> exact h) (fun w => y_move S rfl) ?_; clear S a; intro a S
  refine k_pure (listed' := #[true, true, true, true, false, false, false, false, false, false, false, false, false, false, false, false, false, false, false, false, false]) 3 S rfl rfl rfl rfl (by kernel_rfl) rfl (fun _ d _ _ _ h => by cases d <;> exact h) (fun w => y_move S rfl) ?_; clear S a; intro a S
  refine k_read (listed' := #[true, true, true, true, true, false, false, false, false, false, false, false, false, false, false, false, false, false, false, false, false]) 4 S rfl rfl rfl rfl (by kernel_rfl) rfl (fun _ d _ _ _ h => by cases d <;> exact h) (fun w hW => have M := M.grow hW; y_slice03R (e := 42) (sz := 24) S (by kernel_rfl) rfl ((M.ms hv).1) rfl rfl (by first | omega | (simp; done) | (simp; omega))) ?_; clear S a; intro a S
  refine k_pure (listed' := #[true, true, true, true, true, true, false, false, false, false, false, false, false, false, false, false, false, false, false, false, false]) 5 S rfl rfl rfl rfl (by kernel_rfl) rfl (fun _ d _ _ _ h => by cases d <;> exact h) (fun w => y_fieldAddr (k := 0) S (by kernel_rfl) rfl) ?_; clear S a; intro a S
  refine k_read (listed' := #[true, true, true, true, true, true, true, false, false, false, false, false, false, false, false, false, false, false, false, false, false]) 6 S rfl rfl rfl rfl (by kernel_rfl) rfl (fun _ d _ _ _ h => by cases d <;> exact h) (fun w hW => have M := M.grow hW; y_load S (by kernel_rfl) rfl (M.cell 2 rfl rfl)) ?_; clear S a; intro a S
  refine k_pure (listed' := #[true, true, true, true, true, true, true, true, false, false, false, false, false, false, false, false, false, false, false, false, false]) 7 S rfl rfl rfl rfl (by kernel_rfl) rfl (fun _ d _ _ _ h => by cases d <;> exact h) (fun w => y_move S rfl) ?_; clear S a; intro a S
  (first | refine k_pure (listed' := #[true, true, true, true, true, true, true, true, true, false, false, false, false, false, false, false, false, false, false, false, false]) 8 S rfl rfl rfl rfl (by kernel_rfl) rfl (fun _ d _ _ _ h => by cases d <;> exact h) (fun w => y_addN S rfl rfl (by omega)) ?_ | refine k_pure (listed' := #[true, true, true, true, true, true, true, true, true, false, false, false, false, false, false, false, false, false, false, false, false]) 8 S rfl rfl rfl rfl (by kernel_rfl) rfl (fun _ d _ _ _ h => by cases d <;> exact h) (fun w => y_int S rfl rfl rfl) ?_); clear S a; intro a S
  refine k_read (listed' := #[true, true, true, true, true, true, true, true, true, true, false, false, false, false, false, false, false, false, false, false, false]) 9 S rfl rfl rfl rfl (by kernel_rfl) rfl (fun _ d _ _ _ h => by cases d <;> exact h) (fun w hW => have M := M.grow hW; y_slice1R (e := 42) (sz := 24) S (by kernel_rfl) rfl ((M.ms hv).1) rfl (by first | omega | (simp; done) | (simp; omega))) ?_; clear S a; intro a S
  refine k_pure (listed' := #[true, true, true, true, true, true, true, true, true, true, false, false, true, false, false, false, false, false, false, false, false]) 12 S rfl rfl rfl rfl (by kernel_rfl) rfl (fun _ d _ _ _ h => by cases d <;> exact h) (fun w => y_fieldAddr (k := 0) S (by kernel_rfl) rfl) ?_; clear S a; intro a S
  refine k_read (listed' := #[true, true, true, true, true, true, true, true, true, true, false, false, true, true, false, false, false, false, false, false, false]) 13 S rfl rfl rfl rfl (by kernel_rfl) rfl (fun _ d _ _ _ h => by cases d <;> exact h) (fun w hW => have M := M.grow hW; y_load S (by kernel_rfl) rfl (M.cell 2 rfl rfl)) ?_; clear S a; intro a S
  refine k_pure (listed' := #[true, true, true, true, true, true, true, true, true, true, false, false, true, true, true, false, false, false, false, false, false]) 14 S rfl rfl rfl rfl (by kernel_rfl) rfl (fun _ d _ _ _ h => by cases d <;> exact h) (fun w => y_move S rfl) ?_; clear S a; intro a S
  refine k_read (listed' := #[true, true, true, true, true, true, true, true, true, true, false, false, true, true, true, true, false, false, false, false, false]) 15 S rfl rfl rfl rfl (by kernel_rfl) rfl (fun _ d _ _ _ h => by cases d <;> exact h) (fun w hW => have M := M.grow hW; y_indexR (e := 42) (sz := 24) S (by kernel_rfl) rfl ((M.ms hv).1) rfl (by first | omega | (simp; done) | (simp; omega))) ?_; clear S a; intro a S
  try simp only [Int.toNat_natCast, Nat.mul_one, Nat.zero_add] at S
  refine k_read (listed' := #[true, true, true, true, true, true, true, true, true, true, false, false, true, true, true, true, true, false, false, false, false]) 16 S rfl rfl rfl rfl (by kernel_rfl) rfl (fun _ d _ _ _ h => by cases d <;> exact h) (fun w hW => have M := M.grow hW; y_loadAgg S (by kernel_rfl) rfl rfl ((M.ms hv).1.at_.row (i := k) hrow rfl)) ?_; clear S a; intro a S
  refine k_one (listed' := #[true, true, true, true, true, true, true, true, true, true, true, false, true, true, true, true, true, false, false, false, false]) 10 rfl (by kernel_rfl) rfl ?_
  refine st_lit (ps := [(0, (Operand.tmp 20)), (1, (Operand.tmp 25))]) (e := 22) (sz := 1) (zl := [.slice none 0 0, .slice none 0 0]) (cs := [_, _]) S M rfl rfl (by kernel_rfl) rfl (rfl) ?_; clear S M a; intro a w8 bY S M hB
  refine wpList_nil ?_; refine then_normal ?_; refine ⟨fun _ => hB, ?_⟩
  refine k_one (listed' := #[true, true, true, true, true, true, true, true, true, true, true, true, true, true, true, true, true, false, false, false, false]) 11 rfl (by kernel_rfl) rfl ?_
  refine st_call (xs := [(Operand.tmp 26)]) S (enters_of Try.func27 (by decide) rfl) rfl rfl rfl (joined_any _ [(cutV (.slice va vn vc) 0 k k 24, (cs.drop 0).take (k * 24), ms.take k), (cutV (.slice va vn vc) (k + 1) ms.length (capV (.slice va vn vc)) 24, (cs.drop ((k + 1) * 24)).take ((ms.length - (k + 1)) * 24), ms.drop (k + 1))] _ (M.sliceAt (m := 2) (cap := 2) 0 rfl (M.cellsAt (k := 2) 0 rfl rfl) rfl (Nat.le_refl _) two_max) (lsR_two ((M.msW hv).cut2 (by omega)) ((M.msW hv).behind (by omega)) (x_take hx k) (x_drop hx (k + 1)) (by rw [List.length_take, List.length_drop]; omega)) (by rw [ms_two, List.length_append, List.length_take, List.length_drop]; omega)) ?_
  rintro _ w9 ⟨ad, cp, cs', rfl, hK, hMs⟩; refine ⟨_, rfl, ?_⟩; clear S a; intro a S
  rw [ms_two, ← List.eraseIdx_eq_take_drop_succ] at S hMs
  obtain ⟨lo1, hi1, M⟩ := M.pushMs hK hMs
  refine wpList_nil ?_; refine then_normal ?_; refine ⟨fun _ => hK, ?_⟩
  refine k_one (listed' := #[true, true, true, true, true, true, true, true, true, true, true, true, true, true, true, true, true, true, false, false, false]) 17 rfl (by kernel_rfl) rfl ?_
  refine st_call (xs := [(Operand.tmp 32)]) S (enters_of Try.func29 (by decide) rfl) rfl rfl rfl (copied_any q.1 xa xc q.2 _ (M.argW hws) (hx q (List.mem_of_getElem? hq))) ?_
  rintro _ w10 ⟨ad2, cp2, rfl, hF⟩; refine ⟨_, rfl, ?_⟩; clear S a; intro a S; have hK := hF.below
  obtain ⟨lo2, hi2, -, M⟩ := M.pushFresh hF
  refine wpList_nil ?_; refine then_normal ?_; refine ⟨fun _ => hK, ?_⟩
  refine k_one (listed' := #[true, true, true, true, true, true, true, true, true, true, true, true, true, true, true, true, true, true, true, false, false]) 18 rfl (by kernel_rfl) rfl ?_
  refine st_store (sz := 1) (us := [_]) S M 4 rfl (by kernel_rfl) rfl rfl rfl rfl rfl rfl (by first | decide | (simp; done) | (simp; omega)) ?_; clear M; intro w11 M
  simp only [putL, List.set_cons_zero, List.set_cons_succ, Nat.reduceAdd] at M
  refine wpList_nil ?_; refine then_normal ?_; refine ⟨fun h => absurd h (by decide), ?_⟩
  refine k_one (listed' := #[true, true, true, true, true, true, true, true, true, true, true, true, true, true, true, true, true, true, true, true, false]) 19 rfl (by kernel_rfl) rfl ?_
  refine st_store (sz := 24) (us := [_, _, _, _, _, _, _, _, _, _, _, _, _, _, _, _, _, _, _, _, _, _, _, _]) S M 3 rfl (by kernel_rfl) rfl rfl rfl rfl rfl rfl (by first | decide | (simp; done) | (simp; omega)) ?_; clear M; intro w12 M
  simp only [putL, List.set_cons_zero, List.set_cons_succ, Nat.reduceAdd] at M
  refine wpList_nil ?_; refine then_normal ?_; refine ⟨fun h => absurd h (by decide), ?_⟩
  refine k_pure (listed' := #[true, true, true, true, true, true, true, true, true, true, true, true, true, true, true, true, true, true, true, true, true]) 20 S rfl rfl rfl rfl (by kernel_rfl) rfl (fun _ d _ _ _ h => by cases d <;> exact h) (fun w => y_assign S rfl) ?_; clear S a; intro a S
  refine k_end (by kernel_rfl) ?_
  replace S := S.sub [(0, _), (1, _), (2, _), (4, _), (5, _), (7, _), (12, _), (6, _)] rfl
  refine then_normal ?_
  refine wp_ret ?_
  refine end_three S rfl (res_agg (cs := [_]) (by kernel_rfl) rfl rfl (M.cellsAt (k := 1) 4 rfl rfl)) (res_agg (cs := [_, _, _, _, _, _, _, _, _, _, _, _, _, _, _, _, _, _, _, _, _, _, _, _]) (by kernel_rfl) rfl rfl (M.cellsAt (k := 24) 3 rfl rfl)) (res_tmp rfl) ?_
  refine .inr ⟨hc0, k, q, rfl, hq, hok, ad, cp, cs', ad2, cp2, rfl, M.below, fun x hs => ?_⟩
  have hq8 := hx q (List.mem_of_getElem? hq)
  have f1 : w.heap.size ≤ lo1 ∧ hi1 ≤ w12.heap.size := M.fits _ (List.mem_of_getElem? (show _[1]? = _ from rfl))
  have f2 : w.heap.size ≤ lo2 ∧ hi2 ≤ w12.heap.size := M.fits _ (List.mem_of_getElem? (show _[0]? = _ from rfl))
  exact ⟨((M.own 1 rfl).same (fun b h1 h2 => hs b (by omega) (by omega))).wide f1.1 f1.2, ((M.readRow 0 rfl (by unfold maxLen; omega)).same (fun b h1 h2 => hs b (by omega) (by omega))).wide f2.1 f2.2⟩

theorem one_cut {cs : List Value} {lo hi k : Nat} {w : World} {v : Value} {ms : Ml} {q : Msg × List Wr} (h : MsC cs lo hi w v ms) (hq : ms[k]? = some q) : MsC ((cs.drop (k * 24)).take ((k + 1 - k) * 24)) lo hi w (cutV v k (k + 1) (k + 1) 24) [q] := by
  obtain ⟨hlt, he⟩ := List.getElem?_eq_some_iff.1 hq
  have := h.cut (i := k) (j := k + 1) (mx := k + 1) (by omega) hlt (Nat.le_refl _) (by have := h.1.cap; omega)
  rw [Nat.add_sub_cancel_left] at this ⊢
  rwa [List.drop_eq_getElem_cons hlt, he, show (q :: List.drop (k + 1) ms).take 1 = [q] from rfl] at this
set_option maxHeartbeats 1000000 in
theorem twice16_any (va : Option Addr) (vn vc : Nat) (cs : List Value) (ms : Ml) (n c : Int) (hc : thereC ms n = c) (w : World) (hv : MsC cs 0 w.heap.size w (.slice va vn vc) ms) :
    Calls Try.prog 17 #[.agg #[.slice va vn vc], .int .i64 n] w fun e w' => ((c ≠ 0 ∨ ms.length = 200) ∧ ∃ c', c' ≠ 0 ∧ MailPost [] c' w e w') ∨ (c = 0 ∧ ∃ (k : Nat) (q : Msg × List Wr), n = (k : Int) ∧ ms[k]? = some q ∧ ms.ok = true ∧ ms.length < 200 ∧ MailPost (ms ++ [q]) 0 w e w') := by
  have M := Mem.start w
  have hc' := thereC_cases hc
  refine calls_enter Try.func17 rfl 31 rfl rfl ?_; intro a S
  refine nxD ?_
  refine st_box S M rfl rfl rfl #[_] rfl ?_; clear S M a; intro a w1 bF S M hB
  refine st_alloc S M rfl rfl #[.slice none 0 0] (by kernel_rfl) ?_; clear S M a; intro a w2 bB S M hB
  refine st_go [1] S rfl (by kernel_rfl) ?_; clear S a; intro a S
  refine nxC ?_
  refine wp_seq ?_
  refine nxD ?_
  refine st_y S rfl rfl rfl (y_loadAgg (cs := [_]) S (by kernel_rfl) rfl rfl (M.cellsAt (k := 1) 1 rfl rfl)) ?_; clear S a; intro a S
  refine st_go [1] S rfl (by kernel_rfl) ?_; clear S a; intro a S
  refine st_call (xs := [(Operand.tmp 7), (Operand.tmp 8)]) S (enters_of Try.func28 (by decide) rfl) rfl rfl rfl (there_c va vn vc cs ms n c hc _ (M.msW hv)) ?_
  rintro _ w3 ⟨rfl, hK⟩; refine ⟨_, rfl, ?_⟩; clear S a; intro a S; replace M := M.grow hK
  refine st_go [1] S rfl (by kernel_rfl) ?_; clear S a; intro a S
  refine nxA ?_
  refine st_go [1, 1] S rfl (by kernel_rfl) ?_; clear S a; intro a S
  refine nxC ?_
  refine st_if (t := 11) S rfl ?_ ?_
  · clear S; intro h11 S
    refine st_condT S rfl ?_
    refine nxD ?_
    refine st_y S rfl rfl rfl (y_build (ps := []) (pl := [(0, 1)]) (z := [.slice none 0 0]) (cs := [_]) S (by kernel_rfl) rfl (rfl)) ?_; clear S a; intro a S
    refine st_go [1] S rfl (by kernel_rfl) ?_; clear S a; intro a S
    refine st_store (sz := 1) (us := [_]) S M 0 rfl (by kernel_rfl) rfl rfl rfl rfl rfl rfl (by first | decide | (simp; done) | (simp; omega)) ?_; clear M; intro w4 M
    simp only [putL, List.set_cons_zero, List.set_cons_succ, Nat.reduceAdd] at M
    refine st_go [1] S rfl (by kernel_rfl) ?_; clear S a; intro a S
    refine nxC ?_
    refine wp_ret ?_
    refine then_ret ?_
    refine end_two S rfl (res_agg (cs := [_]) (by kernel_rfl) rfl rfl (M.cellsAt (k := 1) 0 rfl rfl)) (res_tmp rfl) ?_
    refine .inl ⟨.inl (by simpa using h11), c, by simpa using h11, mail_no M c⟩
  clear S; intro h11 S
  refine st_condF S rfl ?_
  refine wp_skip ?_
  refine then_normal ?_
  refine wp_seq ?_
  refine wp_seq ?_
  rcases hc' with hc' | ⟨hc0, hok, k, q, rfl, hk, hq⟩
  · exfalso; simp [hc'] at h11
  have hlen := (Ml.ok_iff.1 hok).1
  have hx := ok_x hok
  refine wp_region_lit ?_
  refine st_run [1, 2] S M rfl (by kernel_rfl) ?_; clear S a; intro a S
  refine st_y S rfl rfl rfl (y_lenR (E := 42) S rfl ((M.ms hv).1) (by kernel_rfl)) ?_; clear S a; intro a S
  refine st_go [1] S rfl (by kernel_rfl) ?_; clear S a; intro a S
  refine nxC ?_
  refine st_if (t := 17) S rfl ?_ ?_
  · clear S; intro h17 S
    refine st_condT S rfl ?_
    refine nxD ?_
    refine st_y S rfl rfl rfl (y_build (ps := []) (pl := [(0, 1)]) (z := [.slice none 0 0]) (cs := [_]) S (by kernel_rfl) rfl (rfl)) ?_; clear S a; intro a S
    refine st_store (sz := 1) (us := [_]) S M 0 rfl (by kernel_rfl) rfl rfl rfl rfl rfl rfl (by first | decide | (simp; done) | (simp; omega)) ?_; clear M; intro w5 M
    simp only [putL, List.set_cons_zero, List.set_cons_succ, Nat.reduceAdd] at M
    refine st_go [1] S rfl (by kernel_rfl) ?_; clear S a; intro a S
    refine nxC ?_
    refine wp_ret ?_
    refine then_ret ?_
    refine end_two S rfl (res_agg (cs := [_]) (by kernel_rfl) rfl rfl (M.cellsAt (k := 1) 0 rfl rfl)) (res_tmp rfl) ?_
    refine .inl ⟨.inr (by omega), 50, by omega, mail_no M 50⟩
  clear S; intro h17 S
  refine st_condF S rfl ?_
  refine wp_skip ?_
  refine then_normal ?_
  refine wp_seq ?_
  refine wp_regionK [12] #[false, false, false, false, false, false, false, false, false, false, false, false, false, false] rfl M (by kernel_rfl) ?_; clear M; intro w6 M
  refine k_pure (listed' := #[true, false, false, false, false, false, false, false, false, false, false, false, false, false]) 0 S rfl rfl rfl rfl (by kernel_rfl) rfl (fun _ d _ _ _ h => by cases d <;> exact h) (fun w => y_fieldAddr (k := 0) S (by kernel_rfl) rfl) ?_; clear S a; intro a S
  refine k_read (listed' := #[true, true, false, false, false, false, false, false, false, false, false, false, false, false]) 1 S rfl rfl rfl rfl (by kernel_rfl) rfl (fun _ d _ _ _ h => by cases d <;> exact h) (fun w hW => have M := M.grow hW; y_load S (by kernel_rfl) rfl (M.cell 1 rfl rfl)) ?_; clear S a; intro a S
  refine k_pure (listed' := #[true, true, true, false, false, false, false, false, false, false, false, false, false, false]) 2 S rfl rfl rfl rfl (by kernel_rfl) rfl (fun _ d _ _ _ h => by cases d <;> exact h) (fun w => y_fieldAddr (k := 0) S (by kernel_rfl) rfl) ?_; clear S a; intro a S
  refine k_read (listed' := #[true, true, true, true, false, false, false, false, false, false, false, false, false, false]) 3 S rfl rfl rfl rfl (by kernel_rfl) rfl (fun _ d _ _ _ h => by cases d <;> exact h) (fun w hW => have M := M.grow hW; y_load S (by kernel_rfl) rfl (M.cell 1 rfl rfl)) ?_; clear S a; intro a S
  refine k_pure (listed' := #[true, true, true, true, true, false, false, false, false, false, false, false, false, false]) 4 S rfl rfl rfl rfl (by kernel_rfl) rfl (fun _ d _ _ _ h => by cases d <;> exact h) (fun w => y_move S rfl) ?_; clear S a; intro a S
  refine k_pure (listed' := #[true, true, true, true, true, true, false, false, false, false, false, false, false, false]) 5 S rfl rfl rfl rfl (by kernel_rfl) rfl (fun _ d _ _ _ h => by cases d <;> exact h) (fun w => y_move S rfl) ?_; clear S a; intro a S
  (first | refine k_pure (listed' := #[true, true, true, true, true, true, true, false, false, false, false, false, false, false]) 6 S rfl rfl rfl rfl (by kernel_rfl) rfl (fun _ d _ _ _ h => by cases d <;> exact h) (fun w => y_addN S rfl rfl (by omega)) ?_ | refine k_pure (listed' := #[true, true, true, true, true, true, true, false, false, false, false, false, false, false]) 6 S rfl rfl rfl rfl (by kernel_rfl) rfl (fun _ d _ _ _ h => by cases d <;> exact h) (fun w => y_int S rfl rfl rfl) ?_); clear S a; intro a S
  refine k_pure (listed' := #[true, true, true, true, true, true, true, true, false, false, false, false, false, false]) 7 S rfl rfl rfl rfl (by kernel_rfl) rfl (fun _ d _ _ _ h => by cases d <;> exact h) (fun w => y_move S rfl) ?_; clear S a; intro a S
  (first | refine k_pure (listed' := #[true, true, true, true, true, true, true, true, true, false, false, false, false, false]) 8 S rfl rfl rfl rfl (by kernel_rfl) rfl (fun _ d _ _ _ h => by cases d <;> exact h) (fun w => y_addN S rfl rfl (by omega)) ?_ | refine k_pure (listed' := #[true, true, true, true, true, true, true, true, true, false, false, false, false, false]) 8 S rfl rfl rfl rfl (by kernel_rfl) rfl (fun _ d _ _ _ h => by cases d <;> exact h) (fun w => y_int S rfl rfl rfl) ?_); clear S a; intro a S
  refine k_read (listed' := #[true, true, true, true, true, true, true, true, true, true, false, false, false, false]) 9 S rfl rfl rfl rfl (by kernel_rfl) rfl (fun _ d _ _ _ h => by cases d <;> exact h) (fun w hW => have M := M.grow hW; y_slice3R (e := 42) (sz := 24) S (by kernel_rfl) rfl ((M.ms hv).1) rfl rfl rfl (by first | omega | (simp; done) | (simp; omega))) ?_; clear S a; intro a S
  refine k_one (listed' := #[true, true, true, true, true, true, true, true, true, true, true, false, false, false]) 10 rfl (by kernel_rfl) rfl ?_
  refine st_lit (ps := [(0, (Operand.tmp 20)), (1, (Operand.tmp 28))]) (e := 22) (sz := 1) (zl := [.slice none 0 0, .slice none 0 0]) (cs := [_, _]) S M rfl rfl (by kernel_rfl) rfl (rfl) ?_; clear S M a; intro a w7 bY S M hB
  refine wpList_nil ?_; refine then_normal ?_; refine ⟨fun _ => hB, ?_⟩
  refine k_one (listed' := #[true, true, true, true, true, true, true, true, true, true, true, true, false, false]) 11 rfl (by kernel_rfl) rfl ?_
  refine st_call (xs := [(Operand.tmp 29)]) S (enters_of Try.func27 (by decide) rfl) rfl rfl rfl (joined_any _ [(.slice va vn vc, cs, ms), (cutV (.slice va vn vc) k (k + 1) (k + 1) 24, (cs.drop (k * 24)).take ((k + 1 - k) * 24), [q])] _ (M.sliceAt (m := 2) (cap := 2) 0 rfl (M.cellsAt (k := 2) 0 rfl rfl) rfl (Nat.le_refl _) two_max) (lsR_two (M.msW hv) (one_cut (M.msW hv) hq) hx (x_get hx hq) (by simp; omega)) (by rw [ms_two]; simp; omega)) ?_
  rintro _ w8 ⟨ad, cp, cs', rfl, hK, hMs⟩; refine ⟨_, rfl, ?_⟩; clear S a; intro a S
  rw [ms_two] at S hMs
  obtain ⟨lo1, hi1, M⟩ := M.pushMs hK hMs
  refine wpList_nil ?_; refine then_normal ?_; refine ⟨fun _ => hK, ?_⟩
  refine k_one (listed' := #[true, true, true, true, true, true, true, true, true, true, true, true, true, false]) 12 rfl (by kernel_rfl) rfl ?_
  refine st_store (sz := 1) (us := [_]) S M 2 rfl (by kernel_rfl) rfl rfl rfl rfl rfl rfl (by first | decide | (simp; done) | (simp; omega)) ?_; clear M; intro w9 M
  simp only [putL, List.set_cons_zero, List.set_cons_succ, Nat.reduceAdd] at M
  refine wpList_nil ?_; refine then_normal ?_; refine ⟨fun h => absurd h (by decide), ?_⟩
  refine k_pure (listed' := #[true, true, true, true, true, true, true, true, true, true, true, true, true, true]) 13 S rfl rfl rfl rfl (by kernel_rfl) rfl (fun _ d _ _ _ h => by cases d <;> exact h) (fun w => y_assign S rfl) ?_; clear S a; intro a S
  refine k_end (by kernel_rfl) ?_
  replace S := S.sub [(0, _), (1, _), (2, _), (4, _), (6, _), (11, _), (17, _), (5, _)] rfl
  refine then_normal ?_
  refine wp_ret ?_
  refine end_two S rfl (res_agg (cs := [_]) (by kernel_rfl) rfl rfl (M.cellsAt (k := 1) 2 rfl rfl)) (res_tmp rfl) ?_
  exact .inr ⟨hc0, k, q, rfl, hq, hok, by omega, ad, cp, cs', rfl, M.below, M.msNew 0 rfl⟩

end Go.Proofs.Ytojgcgaoajfihaa
