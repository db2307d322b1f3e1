/-
  law16: FabricBack.
-/
import Derived.Test.YtojgcgaoajfihaaHd
import Derived.Test.YtojgcgaoajfihaaHe
namespace Go.Proofs.Ytojgcgaoajfihaa
open Go.RowKit Go.Sort

theorem bytes16_ok (v : Value) (cs : List Value) (ms : Ml) (hok : ms.ok = true) (w : World) (hv : MsC cs 0 w.heap.size w v ms) : Calls Try.prog 7 #[.agg #[v]] w fun e w' => ∃ v', e = .returned (.tuple #[v', .int .i64 0]) ∧ Fresh w w' 5 1 v' (mlB ms).length (bcells (mlB ms)) :=
  (bytes16_any v cs ms w hv).mono fun e w' ⟨v', h1, h2⟩ => by
    rw [if_pos hok] at h1
    rw [ifL_pos hok] at h2
    exact ⟨v', h1, h2⟩
theorem read16_ok (v : Value) (ms : Ml) (hok : ms.ok = true) (w : World) (hv : Bs 0 w.heap.size w v (mlB ms)) (hl : (mlB ms).length ≤ 70000000000000) : Calls Try.prog 9 #[v] w (MailPost ms 0 w) :=
  (readF_any' v _ w hv hl).mono fun e w' ⟨l, c, h1, h2⟩ => by
    obtain ⟨rfl, rfl⟩ := h2.one (l' := ms) (c' := 0) (.inl ⟨rfl, hok, rfl⟩)
    exact h1
theorem more_ok {ms : Ml} {k : Nat} {q : Msg × List Wr} (h : ms.ok = true) (hl : ms.length < 200) (hq : ms[k]? = some q) : Ml.ok (ms ++ [q]) = true := by
  obtain ⟨-, h2⟩ := Ml.ok_iff.1 h
  exact Ml.ok_iff.2 ⟨by simp; omega, Ml.all_append.2 ⟨h2, by rw [Ml.all_cons]; exact ⟨Ml.all_get h2 hq, rfl⟩⟩⟩

theorem get_more {ms : Ml} {k : Nat} {q q' : Msg × List Wr} (h : ms[k]? = some q) : (ms ++ [q'])[k]? = some q := by
  rw [List.getElem?_append_left (List.getElem?_eq_some_iff.1 h).1]; exact h
theorem twice16_c (va : Option Addr) (vn vc : Nat) (cs : List Value) (ms : Ml) (n : Int) (w : World) (hv : MsC cs 0 w.heap.size w (.slice va vn vc) ms) :
    Calls Try.prog 17 #[.agg #[.slice va vn vc], .int .i64 n] w fun e w' => ∃ l c, MailPost l c w e w' ∧ ((c = 0 ∧ ∃ (k : Nat) (q : Msg × List Wr), n = (k : Int) ∧ ms[k]? = some q ∧ ms.length < 200 ∧ l = ms ++ [q]) ∨ c ≠ 0) :=
  (twice16_any va vn vc cs ms n _ rfl w hv).mono fun e w' h => by
    rcases h with ⟨-, c', h1, h2⟩ | ⟨-, k, q, h1, h2, -, h3, h4⟩
    · exact ⟨_, _, h2, .inr h1⟩
    · exact ⟨_, _, h4, .inl ⟨rfl, k, q, h1, h2, h3, rfl⟩⟩
set_option maxHeartbeats 1000000 in
theorem fback_any (va : Option Addr) (vn vc : Nat) (cs : List Value) (ms : Ml) (m : Msg) (xa : Option Addr) (xc : Nat) (x : List Wr) (n : Int) (w : World) (hv : MsC cs 0 w.heap.size w (.slice va vn vc) ms) (hx : Ws 0 w.heap.size w (.slice xa x.length xc) x) :
    Calls Try.prog 4 #[.agg #[.slice va vn vc], .agg (m.cells (.slice xa x.length xc)), .int .i64 n] w fun e w' => e = .returned (.bool true) ∧ Below w.heap.size w w' := by
  have M := Mem.start w
  obtain rfl : vn = ms.length := by
    obtain ⟨_, _, hf, -, -⟩ := hv.1.form
    simp only [Value.slice.injEq] at hf; exact hf.2.1
  obtain ⟨c0, hc0⟩ : ∃ c, (if ms.ok = true then (0 : Int) else 2) = c := ⟨_, rfl⟩
  have hc0' := okC hc0
  refine calls_enter Try.func4 rfl 133 rfl rfl ?_; intro a S
  refine nxD ?_
  refine st_box S M rfl rfl rfl #[_] rfl ?_; clear S M a; intro a w1 bF S M hB
  refine st_box S M rfl rfl rfl #[_, _, _, _, _, _, _, _, _, _, _, _, _, _, _, _, _, _, _, _, _, _, _, _] rfl ?_; clear S M a; intro a w2 bG S M hB
  refine st_go [1] S rfl (by kernel_rfl) ?_; clear S a; intro a S
  refine nxC ?_
  refine wp_seq ?_
  refine nxD ?_
  refine st_y S rfl rfl rfl (y_loadAgg (cs := [_]) S (by kernel_rfl) rfl rfl (M.cellsAt (k := 1) 1 rfl rfl)) ?_; clear S a; intro a S
  refine st_call (xs := [(Operand.tmp 24)]) S (enters_of Try.func5 (by decide) rfl) rfl rfl rfl (great16_any va _ vc cs ms _ (M.msW hv)) ?_
  rintro _ w3 ⟨b1, rfl, hK⟩; refine ⟨_, rfl, ?_⟩; clear S a; intro a S; replace M := M.grow hK
  refine st_go [1] S rfl (by kernel_rfl) ?_; clear S a; intro a S
  refine st_if (t := 26) S rfl ?_ ?_
  · clear S; intro h26 S
    refine st_go [0, 0, 1, 1, 0, 0, 0, 1] S rfl (by kernel_rfl) ?_; clear S a; intro a S
    refine nxC ?_
    refine st_condT S rfl ?_
    refine nxD ?_
    refine st_call (xs := []) S (enters_of Try.func6 (by decide) rfl) rfl rfl rfl (wakes16_any _) ?_
    rintro _ w4 ⟨rfl, hK⟩; refine ⟨_, rfl, ?_⟩; clear S a; intro a S; replace M := M.grow hK
    refine st_go [1] S rfl (by kernel_rfl) ?_; clear S a; intro a S
    refine nxC ?_
    refine wp_ret ?_
    refine then_ret ?_
    refine end_one S rfl (res_tmp rfl) ?_
    exact ⟨rfl, M.below⟩
  clear S; intro h26 S
  refine st_y S rfl rfl rfl (y_loadAgg (cs := [_, _, _, _, _, _, _, _, _, _, _, _, _, _, _, _, _, _, _, _, _, _, _, _]) S (by kernel_rfl) rfl rfl (M.cellsAt (k := 24) 0 rfl rfl)) ?_; clear S a; intro a S
  refine st_call (xs := [(Operand.tmp 27)]) S (enters_of Try.func12 (by decide) rfl) rfl rfl rfl (great15_any m _ _ _ _) ?_
  rintro _ w5 ⟨rfl, hK⟩; refine ⟨_, rfl, ?_⟩; clear S a; intro a S; replace M := M.grow hK
  refine st_go [1, 1] S rfl (by kernel_rfl) ?_; clear S a; intro a S
  refine st_if (t := 30) S rfl ?_ ?_
  · clear S; intro h30 S
    refine st_go [0, 0, 0, 1] S rfl (by kernel_rfl) ?_; clear S a; intro a S
    refine nxC ?_
    refine st_condT S rfl ?_
    refine nxD ?_
    refine st_call (xs := []) S (enters_of Try.func6 (by decide) rfl) rfl rfl rfl (wakes16_any _) ?_
    rintro _ w6 ⟨rfl, hK⟩; refine ⟨_, rfl, ?_⟩; clear S a; intro a S; replace M := M.grow hK
    refine st_go [1] S rfl (by kernel_rfl) ?_; clear S a; intro a S
    refine nxC ?_
    refine wp_ret ?_
    refine then_ret ?_
    refine end_one S rfl (res_tmp rfl) ?_
    exact ⟨rfl, M.below⟩
  clear S; intro h30 S
  refine st_y S rfl rfl rfl (y_loadAgg (cs := [_]) S (by kernel_rfl) rfl rfl (M.cellsAt (k := 1) 1 rfl rfl)) ?_; clear S a; intro a S
  refine st_call (xs := [(Operand.tmp 31)]) S (enters_of Try.func13 (by decide) rfl) rfl rfl rfl (check16_c _ cs ms c0 hc0 _ (M.msW hv)) ?_
  rintro _ w7 ⟨rfl, hK⟩; refine ⟨_, rfl, ?_⟩; clear S a; intro a S; replace M := M.grow hK
  refine st_go [1, 1] S rfl (by kernel_rfl) ?_; clear S a; intro a S
  refine nxC ?_
  refine st_split (t := 34) S rfl ?_ ?_
  · clear S; intro h34 S
    refine st_condT S rfl ?_
    refine nxD ?_
    refine st_call (xs := []) S (enters_of Try.func6 (by decide) rfl) rfl rfl rfl (wakes16_any _) ?_
    rintro _ w8 ⟨rfl, hK⟩; refine ⟨_, rfl, ?_⟩; clear S a; intro a S; replace M := M.grow hK
    refine st_go [1] S rfl (by kernel_rfl) ?_; clear S a; intro a S
    refine nxC ?_
    refine wp_ret ?_
    refine then_ret ?_
    refine end_one S rfl (res_tmp rfl) ?_
    exact ⟨rfl, M.below⟩
  clear S; intro h34 S
  refine st_condF S rfl ?_
  refine wp_skip ?_
  refine then_normal ?_
  refine wp_seq ?_
  have hok : ms.ok = true := by
    rcases hc0' with ⟨h1, h2⟩ | ⟨h1, h2⟩
    · exact h1
    · exfalso; simp [h2] at h34
  have hlen := (Ml.ok_iff.1 hok).1
  have hbl := mlB_len (Ml.ok_iff.1 hok).2
  refine wp_region_lit ?_
  refine st_y S rfl rfl rfl (y_loadAgg (cs := [_]) S (by kernel_rfl) rfl rfl (M.cellsAt (k := 1) 1 rfl rfl)) ?_; clear S a; intro a S
  refine st_call (xs := [(Operand.tmp 37)]) S (enters_of Try.func7 (by decide) rfl) rfl rfl rfl (bytes16_ok _ cs ms hok _ (M.msW hv)) ?_
  rintro _ w9 ⟨v1, rfl, hF⟩; refine ⟨_, rfl, ?_⟩; clear S a; intro a S
  obtain ⟨lo1, hi1, -, M⟩ := M.pushFresh hF
  refine st_go [1, 1, 1, 1, 1] S rfl (by kernel_rfl) ?_; clear S a; intro a S
  replace S := S.sub [(0, _), (1, _), (2, _), (3, _), (4, _), (6, _), (34, _), (7, _), (8, _)] rfl
  refine nxA ?_
  refine st_go [1] S rfl (by kernel_rfl) ?_; clear S a; intro a S
  refine st_call (xs := [(Operand.tmp 42)]) S (enters_of Try.func9 (by decide) rfl) rfl rfl rfl (read16_ok _ ms hok _ (M.readAll 0 rfl (by unfold maxLen; omega)) (by omega)) ?_
  rintro _ w10 ⟨ad2, cp2, cs2, rfl, hK, hMs⟩; refine ⟨_, rfl, ?_⟩; clear S a; intro a S
  obtain ⟨lo2, hi2, M⟩ := M.pushMs hK hMs
  refine st_go [1, 1, 1] S rfl (by kernel_rfl) ?_; clear S a; intro a S
  refine st_alloc S M rfl rfl #[.slice none 0 0] (by kernel_rfl) ?_; clear S M a; intro a w11 b1 S M hB
  refine st_store (sz := 1) (us := [_]) S M 0 rfl (by kernel_rfl) rfl rfl rfl rfl rfl rfl (by first | decide | (simp; done) | (simp; omega)) ?_; clear M; intro w12 M
  simp only [putL, List.set_cons_zero, List.set_cons_succ, Nat.reduceAdd] at M
  refine st_go [1] S rfl (by kernel_rfl) ?_; clear S a; intro a S
  refine nxC ?_
  refine wp_seq ?_
  refine nxD ?_
  refine st_go [1, 1, 1] S rfl (by kernel_rfl) ?_; clear S a; intro a S
  refine st_if (t := 48) S rfl ?_ ?_
  · clear S; intro h48 S
    simp at h48
  clear S; intro h48 S
  refine st_go [1, 1, 1, 1] S rfl (by kernel_rfl) ?_; clear S a; intro a S
  refine st_if (t := 52) S rfl ?_ ?_
  · clear S; intro h52 S
    simp at h52
  clear S; intro h52 S
  refine st_y S rfl rfl rfl (y_loadAgg (cs := [_]) S (by kernel_rfl) rfl rfl (M.cellsAt (k := 1) 0 rfl rfl)) ?_; clear S a; intro a S
  refine st_y S rfl rfl rfl (y_loadAgg (cs := [_]) S (by kernel_rfl) rfl rfl (M.cellsAt (k := 1) 4 rfl rfl)) ?_; clear S a; intro a S
  refine st_call (xs := [(Operand.tmp 53), (Operand.tmp 54)]) S (enters_of Try.func11 (by decide) rfl) rfl rfl rfl (same16_any _ _ _ _ _ _ cs2 cs ms _ (M.msAll 1 rfl) (M.msW hv)) ?_
  rintro _ w13 ⟨rfl, hK⟩; refine ⟨_, rfl, ?_⟩; clear S a; intro a S; replace M := M.grow hK
  refine st_go [1, 1] S rfl (by kernel_rfl) ?_; clear S a; intro a S
  replace S := S.sub [(0, _), (1, _), (2, _), (3, _), (4, _), (6, _), (34, _), (7, _), (8, _), (9, _), (10, _), (57, _)] rfl
  refine nxC ?_
  refine st_if (t := 57) S rfl ?_ ?_
  · clear S; intro h57 S
    simp at h57
  clear S; intro h57 S
  refine st_condF S rfl ?_
  refine wp_skip ?_
  refine nxE ?_
  refine st_y S rfl rfl rfl (y_loadAgg (cs := [_]) S (by kernel_rfl) rfl rfl (M.cellsAt (k := 1) 4 rfl rfl)) ?_; clear S a; intro a S
  refine st_y S rfl rfl rfl (y_loadAgg (cs := [_, _, _, _, _, _, _, _, _, _, _, _, _, _, _, _, _, _, _, _, _, _, _, _]) S (by kernel_rfl) rfl rfl (M.cellsAt (k := 24) 3 rfl rfl)) ?_; clear S a; intro a S
  refine st_call (xs := [(Operand.tmp 59), (Operand.tmp 60)]) S (enters_of Try.func14 (by decide) rfl) rfl rfl rfl (put16_c va _ vc cs ms m xa xc x _ (M.msW hv) (M.argW hx)) ?_
  rintro _ w14 ⟨l, c, ⟨ad3, cp3, cs3, rfl, hK, hMs⟩, hc⟩; refine ⟨_, rfl, ?_⟩; clear S a; intro a S
  obtain ⟨lo3, hi3, M⟩ := M.pushMs hK hMs
  refine st_go [1, 1, 1] S rfl (by kernel_rfl) ?_; clear S a; intro a S
  refine st_alloc S M rfl rfl #[.slice none 0 0] (by kernel_rfl) ?_; clear S M a; intro a w15 b2 S M hB
  refine st_store (sz := 1) (us := [_]) S M 0 rfl (by kernel_rfl) rfl rfl rfl rfl rfl rfl (by first | decide | (simp; done) | (simp; omega)) ?_; clear M; intro w16 M
  simp only [putL, List.set_cons_zero, List.set_cons_succ, Nat.reduceAdd] at M
  refine st_go [1] S rfl (by kernel_rfl) ?_; clear S a; intro a S
  refine nxC ?_
  refine wp_cut (fun a w' => Sees 133 a [(2, .int .i64 n), (3, .pointer (some ⟨bF, 0, none⟩))] ∧ Mem w w' [.blk bF #[.slice va ms.length vc] 24]) ?_ ?_
  · skip
    refine nxD ?_
    refine st_go [1, 1] S rfl (by kernel_rfl) ?_; clear S a; intro a S
    refine nxC ?_
    refine st_fi (t := 65) S rfl ?_ ?_
    · clear S; intro h65 S
      refine st_condF S rfl ?_
      refine wp_skip ?_
      refine then_normal ?_
      replace M := M.front 6 rfl
      simp only [List.eraseIdx_cons_succ, List.eraseIdx_cons_zero] at M
      exact ⟨S.sub _ rfl, M.sub (by simp)⟩
    clear S; intro h65 S
    refine st_condT S rfl ?_
    refine wp_seq ?_
    obtain ⟨hop, rfl⟩ : okPut ms (m, x) ∧ l = ms ++ [(m, x)] := by
      rcases hc with ⟨-, h⟩ | ⟨h, -⟩
      · exact h
      · exfalso; exact h (by simpa using h65)
    refine wp_region_lit ?_
    refine st_y S rfl rfl rfl (y_loadAgg (cs := [_]) S (by kernel_rfl) rfl rfl (M.cellsAt (k := 1) 0 rfl rfl)) ?_; clear S a; intro a S
    refine st_run [1, 7] S M rfl (by kernel_rfl) ?_; clear S a; intro a S
    refine st_y S rfl rfl rfl (y_lenS (E := 42) S rfl (by kernel_rfl)) ?_; clear S a; intro a S
    refine st_call (xs := [(Operand.tmp 67), (Operand.tmp 70)]) S (enters_of Try.func15 (by decide) rfl) rfl rfl rfl (take16_last ad3 _ cp3 cs3 ms (m, x) hop.ok _ (M.msAll 1 rfl)) ?_
    rintro _ w17 ⟨ad4, cp4, cs4, ad5, cp5, rfl, hK, hh⟩; refine ⟨_, rfl, ?_⟩; clear S a; intro a S
    obtain ⟨lo4, hi4, M⟩ := M.pushTake hK hh
    refine st_go [1, 1, 1, 1] S rfl (by kernel_rfl) ?_; clear S a; intro a S
    refine st_alloc S M rfl rfl #[.slice none 0 0] (by kernel_rfl) ?_; clear S M a; intro a w18 b3 S M hB
    refine st_alloc S M rfl rfl #[.int .i8 0, .int .i64 0, .int .i64 0, .int .i64 0, .int .i64 0, .int .i64 0, .int .i64 0, .int .i64 0, .int .i64 0, .int .i8 0, .int .i64 0, .int .u8 0, .int .u8 0, .int .u8 0, .int .u8 0, .int .u8 0, .int .u8 0, .int .u8 0, .int .u8 0, .int .i64 0, .bool false, .int .i64 0, .int .i64 0, .slice none 0 0] (by kernel_rfl) ?_; clear S M a; intro a w19 b4 S M hB
    refine st_store (sz := 1) (us := [_]) S M 1 rfl (by kernel_rfl) rfl rfl rfl rfl rfl rfl (by first | decide | (simp; done) | (simp; omega)) ?_; clear M; intro w20 M
    simp only [putL, List.set_cons_zero, List.set_cons_succ, Nat.reduceAdd] at M
    refine st_store (sz := 24) (us := [_, _, _, _, _, _, _, _, _, _, _, _, _, _, _, _, _, _, _, _, _, _, _, _]) S M 0 rfl (by kernel_rfl) rfl rfl rfl rfl rfl rfl (by first | decide | (simp; done) | (simp; omega)) ?_; clear M; intro w21 M
    simp only [putL, List.set_cons_zero, List.set_cons_succ, Nat.reduceAdd] at M
    refine st_go [1] S rfl (by kernel_rfl) ?_; clear S a; intro a S
    replace S := S.sub [(0, _), (1, _), (2, _), (3, _), (4, _), (6, _), (34, _), (7, _), (8, _), (9, _), (10, _), (57, _), (11, _), (12, _), (65, _), (13, _), (14, _), (15, _)] rfl
    refine nxA ?_
    refine st_go [1, 1, 1] S rfl (by kernel_rfl) ?_; clear S a; intro a S
    refine st_if (t := 77) S rfl ?_ ?_
    · clear S; intro h77 S
      simp at h77
    clear S; intro h77 S
    refine st_y S rfl rfl rfl (y_loadAgg (cs := [_, _, _, _, _, _, _, _, _, _, _, _, _, _, _, _, _, _, _, _, _, _, _, _]) S (by kernel_rfl) rfl rfl (M.cellsAt (k := 24) 0 rfl rfl)) ?_; clear S a; intro a S
    refine st_y S rfl rfl rfl (y_loadAgg (cs := [_, _, _, _, _, _, _, _, _, _, _, _, _, _, _, _, _, _, _, _, _, _, _, _]) S (by kernel_rfl) rfl rfl (M.cellsAt (k := 24) 8 rfl rfl)) ?_; clear S a; intro a S
    refine st_call (xs := [(Operand.tmp 78), (Operand.tmp 79)]) S (enters_of Try.func16 (by decide) rfl) rfl rfl rfl (fSame_any m m _ _ x x _ (M.tkWs 2 rfl) (M.argW hx)) ?_
    rintro _ w22 ⟨rfl, hK⟩; refine ⟨_, rfl, ?_⟩; clear S a; intro a S; replace M := M.grow hK
    rw [Msg.same_iff.2 ⟨rfl, rfl⟩] at S
    refine st_go [1, 1, 1] S rfl (by kernel_rfl) ?_; clear S a; intro a S
    refine st_if (t := 83) S rfl ?_ ?_
    · clear S; intro h83 S
      simp at h83
    clear S; intro h83 S
    refine st_y S rfl rfl rfl (y_loadAgg (cs := [_]) S (by kernel_rfl) rfl rfl (M.cellsAt (k := 1) 1 rfl rfl)) ?_; clear S a; intro a S
    refine st_y S rfl rfl rfl (y_loadAgg (cs := [_]) S (by kernel_rfl) rfl rfl (M.cellsAt (k := 1) 9 rfl rfl)) ?_; clear S a; intro a S
    refine st_call (xs := [(Operand.tmp 84), (Operand.tmp 85)]) S (enters_of Try.func11 (by decide) rfl) rfl rfl rfl (same16_any _ _ _ _ _ _ cs4 cs ms _ (M.tkMs 2 rfl) (M.msW hv)) ?_
    rintro _ w23 ⟨rfl, hK⟩; refine ⟨_, rfl, ?_⟩; clear S a; intro a S; replace M := M.grow hK
    refine st_go [1, 1] S rfl (by kernel_rfl) ?_; clear S a; intro a S
    refine nxC ?_
    refine st_if (t := 88) S rfl ?_ ?_
    · clear S; intro h88 S
      simp at h88
    clear S; intro h88 S
    refine st_condF S rfl ?_
    refine wp_skip ?_
    refine then_normal ?_
    replace M := M.front 9 rfl
    simp only [List.eraseIdx_cons_succ, List.eraseIdx_cons_zero] at M
    exact ⟨S.sub _ rfl, M.sub (by simp)⟩
  clear S a M; intro a wc
  rintro ⟨S, M⟩
  refine nxD ?_
  refine st_y S rfl rfl rfl (y_loadAgg (cs := [_]) S (by kernel_rfl) rfl rfl (M.cellsAt (k := 1) 0 rfl rfl)) ?_; clear S a; intro a S
  refine st_go [1] S rfl (by kernel_rfl) ?_; clear S a; intro a S
  refine st_call (xs := [(Operand.tmp 90), (Operand.tmp 91)]) S (enters_of Try.func17 (by decide) rfl) rfl rfl rfl (twice16_c va _ vc cs ms n _ (M.msW hv)) ?_
  rintro _ w24 ⟨l, c, ⟨ad6, cp6, cs6, rfl, hK, hMs⟩, hc⟩; refine ⟨_, rfl, ?_⟩; clear S a; intro a S
  obtain ⟨lo6, hi6, M⟩ := M.pushMs hK hMs
  refine st_go [1, 1, 1] S rfl (by kernel_rfl) ?_; clear S a; intro a S
  refine st_alloc S M rfl rfl #[.slice none 0 0] (by kernel_rfl) ?_; clear S M a; intro a w25 b5 S M hB
  refine st_store (sz := 1) (us := [_]) S M 0 rfl (by kernel_rfl) rfl rfl rfl rfl rfl rfl (by first | decide | (simp; done) | (simp; omega)) ?_; clear M; intro w26 M
  simp only [putL, List.set_cons_zero, List.set_cons_succ, Nat.reduceAdd] at M
  refine st_go [1] S rfl (by kernel_rfl) ?_; clear S a; intro a S
  refine nxC ?_
  refine wp_seq ?_
  refine nxD ?_
  refine st_go [1, 1] S rfl (by kernel_rfl) ?_; clear S a; intro a S
  refine nxC ?_
  refine st_if (t := 96) S rfl ?_ ?_
  · clear S; intro h96 S
    refine st_condT S rfl ?_
    refine nxD ?_
    refine st_call (xs := []) S (enters_of Try.func6 (by decide) rfl) rfl rfl rfl (wakes16_any _) ?_
    rintro _ w27 ⟨rfl, hK⟩; refine ⟨_, rfl, ?_⟩; clear S a; intro a S; replace M := M.grow hK
    refine st_go [1] S rfl (by kernel_rfl) ?_; clear S a; intro a S
    refine nxC ?_
    refine wp_ret ?_
    refine then_ret ?_
    refine end_one S rfl (res_tmp rfl) ?_
    exact ⟨rfl, M.below⟩
  clear S; intro h96 S
  refine st_condF S rfl ?_
  refine wp_skip ?_
  refine then_normal ?_
  refine wp_seq ?_
  obtain ⟨k, q, rfl, hq, hl2, rfl⟩ : ∃ (k : Nat) (q : Msg × List Wr), n = (k : Int) ∧ ms[k]? = some q ∧ ms.length < 200 ∧ l = ms ++ [q] := by
    rcases hc with ⟨-, h⟩ | h
    · exact h
    · exfalso; exact h (by simpa using h96)
  have hok2 := more_ok hok hl2 hq
  refine wp_region_lit ?_
  refine st_y S rfl rfl rfl (y_loadAgg (cs := [_]) S (by kernel_rfl) rfl rfl (M.cellsAt (k := 1) 0 rfl rfl)) ?_; clear S a; intro a S
  refine st_run [1, 3] S M rfl (by kernel_rfl) ?_; clear S a; intro a S
  refine st_y S rfl rfl rfl (y_lenR (E := 42) S rfl ((M.ms hv).1) (by kernel_rfl)) ?_; clear S a; intro a S
  refine st_call (xs := [(Operand.tmp 99), (Operand.tmp 102)]) S (enters_of Try.func15 (by decide) rfl) rfl rfl rfl (take16_last ad6 _ cp6 cs6 ms q hok2 _ (M.msAll 1 rfl)) ?_
  rintro _ w28 ⟨ad7, cp7, cs7, ad8, cp8, rfl, hK, hh⟩; refine ⟨_, rfl, ?_⟩; clear S a; intro a S
  obtain ⟨lo7, hi7, M⟩ := M.pushTake hK hh
  refine st_go [1, 1, 1, 1] S rfl (by kernel_rfl) ?_; clear S a; intro a S
  refine st_alloc S M rfl rfl #[.slice none 0 0] (by kernel_rfl) ?_; clear S M a; intro a w29 b6 S M hB
  refine st_alloc S M rfl rfl #[.int .i8 0, .int .i64 0, .int .i64 0, .int .i64 0, .int .i64 0, .int .i64 0, .int .i64 0, .int .i64 0, .int .i64 0, .int .i8 0, .int .i64 0, .int .u8 0, .int .u8 0, .int .u8 0, .int .u8 0, .int .u8 0, .int .u8 0, .int .u8 0, .int .u8 0, .int .i64 0, .bool false, .int .i64 0, .int .i64 0, .slice none 0 0] (by kernel_rfl) ?_; clear S M a; intro a w30 b7 S M hB
  refine st_store (sz := 1) (us := [_]) S M 1 rfl (by kernel_rfl) rfl rfl rfl rfl rfl rfl (by first | decide | (simp; done) | (simp; omega)) ?_; clear M; intro w31 M
  simp only [putL, List.set_cons_zero, List.set_cons_succ, Nat.reduceAdd] at M
  refine st_store (sz := 24) (us := [_, _, _, _, _, _, _, _, _, _, _, _, _, _, _, _, _, _, _, _, _, _, _, _]) S M 0 rfl (by kernel_rfl) rfl rfl rfl rfl rfl rfl (by first | decide | (simp; done) | (simp; omega)) ?_; clear M; intro w32 M
  simp only [putL, List.set_cons_zero, List.set_cons_succ, Nat.reduceAdd] at M
  refine st_go [1] S rfl (by kernel_rfl) ?_; clear S a; intro a S
  replace S := S.sub [(2, _), (3, _), (16, _), (17, _), (96, _), (18, _), (19, _), (20, _)] rfl
  refine nxA ?_
  refine st_y S rfl rfl rfl (y_loadAgg (cs := [_]) S (by kernel_rfl) rfl rfl (M.cellsAt (k := 1) 3 rfl rfl)) ?_; clear S a; intro a S
  refine st_go [1] S rfl (by kernel_rfl) ?_; clear S a; intro a S
  refine st_call (xs := [(Operand.tmp 108), (Operand.tmp 109)]) S (enters_of Try.func15 (by decide) rfl) rfl rfl rfl (take16_at ad6 _ cp6 cs6 (ms ++ [q]) k q hok2 (get_more hq) _ (M.msAll 4 rfl)) ?_
  rintro _ w33 ⟨ad9, cp9, cs9, ad10, cp10, rfl, hK, hh⟩; refine ⟨_, rfl, ?_⟩; clear S a; intro a S
  obtain ⟨lo9, hi9, M⟩ := M.pushTake hK hh
  refine st_go [1, 1, 1, 1] S rfl (by kernel_rfl) ?_; clear S a; intro a S
  refine st_alloc S M rfl rfl #[.slice none 0 0] (by kernel_rfl) ?_; clear S M a; intro a w34 b8 S M hB
  refine st_alloc S M rfl rfl #[.int .i8 0, .int .i64 0, .int .i64 0, .int .i64 0, .int .i64 0, .int .i64 0, .int .i64 0, .int .i64 0, .int .i64 0, .int .i8 0, .int .i64 0, .int .u8 0, .int .u8 0, .int .u8 0, .int .u8 0, .int .u8 0, .int .u8 0, .int .u8 0, .int .u8 0, .int .i64 0, .bool false, .int .i64 0, .int .i64 0, .slice none 0 0] (by kernel_rfl) ?_; clear S M a; intro a w35 b9 S M hB
  refine st_store (sz := 1) (us := [_]) S M 1 rfl (by kernel_rfl) rfl rfl rfl rfl rfl rfl (by first | decide | (simp; done) | (simp; omega)) ?_; clear M; intro w36 M
  simp only [putL, List.set_cons_zero, List.set_cons_succ, Nat.reduceAdd] at M
  refine st_store (sz := 24) (us := [_, _, _, _, _, _, _, _, _, _, _, _, _, _, _, _, _, _, _, _, _, _, _, _]) S M 0 rfl (by kernel_rfl) rfl rfl rfl rfl rfl rfl (by first | decide | (simp; done) | (simp; omega)) ?_; clear M; intro w37 M
  simp only [putL, List.set_cons_zero, List.set_cons_succ, Nat.reduceAdd] at M
  refine st_go [1] S rfl (by kernel_rfl) ?_; clear S a; intro a S
  refine nxA ?_
  refine st_go [1, 1, 1] S rfl (by kernel_rfl) ?_; clear S a; intro a S
  refine st_fi (t := 116) S rfl ?_ ?_
  · clear S; intro h116 S
    simp at h116
  clear S; intro h116 S
  refine st_go [1, 1, 1, 1] S rfl (by kernel_rfl) ?_; clear S a; intro a S
  refine st_fi (t := 120) S rfl ?_ ?_
  · clear S; intro h120 S
    simp at h120
  clear S; intro h120 S
  refine st_y S rfl rfl rfl (y_loadAgg (cs := [_, _, _, _, _, _, _, _, _, _, _, _, _, _, _, _, _, _, _, _, _, _, _, _]) S (by kernel_rfl) rfl rfl (M.cellsAt (k := 24) 3 rfl rfl)) ?_; clear S a; intro a S
  refine st_y S rfl rfl rfl (y_loadAgg (cs := [_, _, _, _, _, _, _, _, _, _, _, _, _, _, _, _, _, _, _, _, _, _, _, _]) S (by kernel_rfl) rfl rfl (M.cellsAt (k := 24) 0 rfl rfl)) ?_; clear S a; intro a S
  refine st_call (xs := [(Operand.tmp 121), (Operand.tmp 122)]) S (enters_of Try.func16 (by decide) rfl) rfl rfl rfl (fSame_any q.1 q.1 _ _ q.2 q.2 _ (M.tkWs 5 rfl) (M.tkWs 2 rfl)) ?_
  rintro _ w38 ⟨rfl, hK⟩; refine ⟨_, rfl, ?_⟩; clear S a; intro a S; replace M := M.grow hK
  rw [Msg.same_iff.2 ⟨rfl, rfl⟩] at S
  refine st_go [1, 1] S rfl (by kernel_rfl) ?_; clear S a; intro a S
  refine st_fi (t := 125) S rfl ?_ ?_
  · clear S; intro h125 S
    simp at h125
  clear S; intro h125 S
  refine st_y S rfl rfl rfl (y_loadAgg (cs := [_]) S (by kernel_rfl) rfl rfl (M.cellsAt (k := 1) 4 rfl rfl)) ?_; clear S a; intro a S
  refine st_y S rfl rfl rfl (y_loadAgg (cs := [_]) S (by kernel_rfl) rfl rfl (M.cellsAt (k := 1) 8 rfl rfl)) ?_; clear S a; intro a S
  refine st_call (xs := [(Operand.tmp 126), (Operand.tmp 127)]) S (enters_of Try.func11 (by decide) rfl) rfl rfl rfl (same16_any _ _ _ _ _ _ cs7 cs ms _ (M.tkMs 5 rfl) (M.msW hv)) ?_
  rintro _ w39 ⟨rfl, hK⟩; refine ⟨_, rfl, ?_⟩; clear S a; intro a S; replace M := M.grow hK
  refine st_go [1, 1] S rfl (by kernel_rfl) ?_; clear S a; intro a S
  refine st_fi (t := 130) S rfl ?_ ?_
  · clear S; intro h130 S
    simp at h130
  clear S; intro h130 S
  refine st_call (xs := []) S (enters_of Try.func6 (by decide) rfl) rfl rfl rfl (wakes16_any _) ?_
  rintro _ w40 ⟨rfl, hK⟩; refine ⟨_, rfl, ?_⟩; clear S a; intro a S; replace M := M.grow hK
  refine st_go [1, 1] S rfl (by kernel_rfl) ?_; clear S a; intro a S
  replace S := S.sub [(2, _), (3, _), (16, _), (17, _), (96, _), (18, _), (19, _), (20, _), (22, _), (23, _), (6, _)] rfl
  refine nxC ?_
  refine wp_ret ?_
  refine end_one S rfl (res_tmp rfl) ?_
  exact ⟨rfl, M.below⟩

end Go.Proofs.Ytojgcgaoajfihaa
