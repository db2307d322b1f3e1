/-
  law15: WireReads, WireBack.
-/
import Derived.Test.YtcpobgjoicadjaaWq
import Derived.Test.YtcpobgjoicadjaaWf
import Derived.Test.YtcpobgjoicadjaaBurst
namespace Go.Proofs.Ytcpobgjoicadjaa
open Go.RowKit Go.Sort

/-- what bytes read as is one thing -/
def RdIs (bs : List UInt8) (m : Msg) (x : List Wr) (c : Int) : Prop :=
  (c = 0 ∧ m.may x = true ∧ sealB (m.enc x) = bs) ∨ (c = 40 ∧ m = zM ∧ x = [] ∧ ∀ (m : Msg) (x : List Wr), m.may x = true → sealB (m.enc x) ≠ bs)
theorem rdIs_one {bs : List UInt8} {m m' : Msg} {x x' : List Wr} {c c' : Int} (h : RdIs bs m x c) (h' : RdIs bs m' x' c') : m = m' ∧ x = x' ∧ c = c' := by
  rcases h with ⟨rfl, hm, he⟩ | ⟨rfl, rfl, rfl, hn⟩
  · rcases h' with ⟨rfl, hm', he'⟩ | ⟨rfl, rfl, rfl, hn'⟩
    · obtain ⟨rfl, rfl⟩ := encM_inj hm hm' (sealB_inj (he.trans he'.symm))
      exact ⟨rfl, rfl, rfl⟩
    · exact absurd he (hn' m x hm)
  · rcases h' with ⟨rfl, hm', he'⟩ | ⟨rfl, rfl, rfl, hn'⟩
    · exact absurd he' (hn m' x' hm')
    · exact ⟨rfl, rfl, rfl⟩
def RdPostM (bs : List UInt8) (w : World) (e : Ending) (w' : World) : Prop :=
  ∃ (m : Msg) (x : List Wr) (ad : Option Addr) (cp : Nat) (c : Int), e = .returned (.tuple #[.agg (m.cells (.slice ad x.length cp)), .int .i64 c]) ∧ Fresh w w' 71 9 (.slice ad x.length cp) x.length (wcells x) ∧ x.length ≤ 256 ∧ RdIs bs m x c
theorem readM_post {bs : List UInt8} {w w' : World} {e : Ending} (h : ReadMPost bs w e w') : RdPostM bs w e w' := by
  obtain ⟨m, x, v', c, rfl, hF, hx, hc⟩ := h
  obtain ⟨ad, cp, rfl, -, -⟩ := (hF.rd0 (by unfold maxLen; omega)).form
  refine ⟨m, x, ad, cp, c, rfl, hF, hx, ?_⟩
  rcases hc with hc | ⟨h1, h2, h3, -, h4⟩
  · exact .inl hc
  · exact .inr ⟨h1, h2, h3, h4⟩
theorem readP_any (v : Value) (bs : List UInt8) (w : World) (hv : Bs 0 w.heap.size w v bs) (hb : bs.length ≤ 100000) : Calls Try.prog 10 #[v] w (RdPostM bs w) := (readM_any v bs w hv hb).mono fun _ _ h => readM_post h
theorem readQ_any (v : Value) (bs : List UInt8) (w : World) (hv : Bs 0 w.heap.size w v bs) (hb : bs.length ≤ 100000) : Calls Try.prog 11 #[v] w (RdPostM bs w) := (readF_any v bs w hv hb).mono fun _ _ h => readM_post h

theorem reads_law (v : Value) (bs : List UInt8) (w : World) (hv : Bs 0 w.heap.size w v bs) : Calls Try.prog 4 #[v] w fun e w' => e = .returned (.bool true) ∧ Below w.heap.size w w' := by
  have M := Mem.start w
  refine calls_enter Try.func4 rfl 32 rfl rfl ?_; intro a S
  refine nxD ?_
  refine st_go [1] S rfl (by kernel_rfl) ?_; clear S a; intro a S
  refine nxC ?_
  refine wp_seq ?_
  refine nxD ?_
  refine st_go [1] S rfl (by kernel_rfl) ?_; clear S a; intro a S
  refine st_y S rfl rfl rfl (y_lenR (E := 5) S rfl (M.arg hv) (by kernel_rfl)) ?_; clear S a; intro a S
  refine st_go [1] S rfl (by kernel_rfl) ?_; clear S a; intro a S
  refine nxC ?_
  refine st_if (t := 9) S rfl ?_ ?_
  · clear S; intro h9 S
    refine st_condT S rfl ?_
    refine nxD ?_
    refine st_call (xs := []) S (enters_of Try.func8 (by decide) rfl) rfl rfl rfl (wakes_any _) ?_
    rintro _ w1 ⟨rfl, hK⟩; refine ⟨_, rfl, ?_⟩; clear S a; intro a S; replace M := M.grow hK
    refine st_go [1] S rfl (by kernel_rfl) ?_; clear S a; intro a S
    refine nxC ?_
    refine wp_ret ?_
    refine then_ret ?_
    refine end_one S rfl (res_tmp rfl) ?_
    exact ⟨rfl, M.below⟩
  clear S; intro h9 S
  refine st_condF S rfl ?_
  refine wp_skip ?_
  refine nxE ?_
  refine st_go [1] S rfl (by kernel_rfl) ?_; clear S a; intro a S
  refine st_call (xs := [(Operand.tmp 12)]) S (enters_of Try.func10 (by decide) rfl) rfl rfl rfl (readP_any _ bs _ (M.argW hv) (by omega)) ?_
  rintro _ w2 ⟨m, x, ad, cp, c, rfl, hF, hxl, hc⟩; refine ⟨_, rfl, ?_⟩; clear S a; intro a S
  obtain ⟨lo1, hi1, -, M⟩ := M.pushFresh hF
  refine st_go [1, 1, 1] S rfl (by kernel_rfl) ?_; clear S a; intro a S
  refine st_alloc S M rfl rfl #[.int .i8 0, .int .i64 0, .int .i64 0, .int .i64 0, .int .i64 0, .int .i64 0, .int .i64 0, .int .i64 0, .int .i64 0, .int .i8 0, .int .i64 0, .int .u8 0, .int .u8 0, .int .u8 0, .int .u8 0, .int .u8 0, .int .u8 0, .int .u8 0, .int .u8 0, .int .i64 0, .bool false, .int .i64 0, .int .i64 0, .slice none 0 0] (by kernel_rfl) ?_; clear S M a; intro a w3 b1 S M hB
  refine st_store (sz := 24) (us := [_, _, _, _, _, _, _, _, _, _, _, _, _, _, _, _, _, _, _, _, _, _, _, _]) S M 0 rfl (by kernel_rfl) rfl rfl rfl rfl rfl rfl (by first | decide | (simp; done) | (simp; omega)) ?_; clear M; intro w4 M
  simp only [putL, List.set_cons_zero, List.set_cons_succ, Nat.reduceAdd] at M
  refine st_go [1] S rfl (by kernel_rfl) ?_; clear S a; intro a S
  refine nxA ?_
  refine st_go [1] S rfl (by kernel_rfl) ?_; clear S a; intro a S
  refine st_call (xs := [(Operand.tmp 17)]) S (enters_of Try.func11 (by decide) rfl) rfl rfl rfl (readQ_any _ bs _ (M.argW hv) (by omega)) ?_
  rintro _ w5 ⟨m', x', ad', cp', c', rfl, hF', hxl', hc'⟩; refine ⟨_, rfl, ?_⟩; clear S a; intro a S
  obtain ⟨rfl, rfl, rfl⟩ := rdIs_one hc hc'
  obtain ⟨lo2, hi2, -, M⟩ := M.pushFresh hF'
  refine st_go [1, 1, 1] S rfl (by kernel_rfl) ?_; clear S a; intro a S
  refine st_alloc S M rfl rfl #[.int .i8 0, .int .i64 0, .int .i64 0, .int .i64 0, .int .i64 0, .int .i64 0, .int .i64 0, .int .i64 0, .int .i64 0, .int .i8 0, .int .i64 0, .int .u8 0, .int .u8 0, .int .u8 0, .int .u8 0, .int .u8 0, .int .u8 0, .int .u8 0, .int .u8 0, .int .i64 0, .bool false, .int .i64 0, .int .i64 0, .slice none 0 0] (by kernel_rfl) ?_; clear S M a; intro a w6 b2 S M hB
  refine st_store (sz := 24) (us := [_, _, _, _, _, _, _, _, _, _, _, _, _, _, _, _, _, _, _, _, _, _, _, _]) S M 0 rfl (by kernel_rfl) rfl rfl rfl rfl rfl rfl (by first | decide | (simp; done) | (simp; omega)) ?_; clear M; intro w7 M
  simp only [putL, List.set_cons_zero, List.set_cons_succ, Nat.reduceAdd] at M
  refine st_go [1] S rfl (by kernel_rfl) ?_; clear S a; intro a S
  refine nxA ?_
  refine st_y S rfl rfl rfl (y_loadAgg (cs := [_, _, _, _, _, _, _, _, _, _, _, _, _, _, _, _, _, _, _, _, _, _, _, _]) S (by kernel_rfl) rfl rfl (M.cellsAt (k := 24) 2 rfl rfl)) ?_; clear S a; intro a S
  refine st_y S rfl rfl rfl (y_loadAgg (cs := [_, _, _, _, _, _, _, _, _, _, _, _, _, _, _, _, _, _, _, _, _, _, _, _]) S (by kernel_rfl) rfl rfl (M.cellsAt (k := 24) 0 rfl rfl)) ?_; clear S a; intro a S
  refine st_call (xs := [(Operand.tmp 21), (Operand.tmp 22)]) S (enters_of Try.func12 (by decide) rfl) rfl rfl rfl (fSame_any m m _ _ x x _ (M.readAll 3 rfl (by unfold maxLen; omega)) (M.readAll 1 rfl (by unfold maxLen; omega))) ?_
  rintro _ w8 ⟨rfl, hK⟩; refine ⟨_, rfl, ?_⟩; clear S a; intro a S; replace M := M.grow hK
  rw [Msg.same_iff.2 ⟨rfl, rfl⟩] at S
  refine st_go [1] S rfl (by kernel_rfl) ?_; clear S a; intro a S
  refine st_fi (t := 24) S rfl ?_ ?_
  · clear S; intro h24 S
    simp at h24
  clear S; intro h24 S
  refine st_go [1, 1, 1, 1, 1] S rfl (by kernel_rfl) ?_; clear S a; intro a S
  refine st_fi (t := 29) S rfl ?_ ?_
  · clear S; intro h29 S
    simp at h29
  clear S; intro h29 S
  refine st_call (xs := []) S (enters_of Try.func8 (by decide) rfl) rfl rfl rfl (wakes_any _) ?_
  rintro _ w9 ⟨rfl, hK⟩; refine ⟨_, rfl, ?_⟩; clear S a; intro a S; replace M := M.grow hK
  refine st_go [1, 1] S rfl (by kernel_rfl) ?_; clear S a; intro a S
  replace S := S.sub [(0, _), (9, _), (3, _), (4, _), (5, _), (6, _), (2, _)] rfl
  refine nxC ?_
  refine wp_ret ?_
  refine end_one S rfl (res_tmp rfl) ?_
  exact ⟨rfl, M.below⟩

/-! ### WireBack -/
theorem back_any (v : Value) (m : Msg) (x : List Wr) (hm : m.may x = true) (w : World) (hv : Bs 0 w.heap.size w v (sealB (m.enc x))) (hb : (sealB (m.enc x)).length ≤ 100000) : Calls Try.prog 10 #[v] w fun e w' => ∃ ad cp, e = .returned (.tuple #[.agg (m.cells (.slice ad x.length cp)), .int .i64 0]) ∧ Fresh w w' 71 9 (.slice ad x.length cp) x.length (wcells x) ∧ x.length ≤ 256 :=
  (readP_any v _ w hv hb).mono fun e w' ⟨m', x', ad, cp, c, h1, h2, h3, h4⟩ => by
    obtain ⟨rfl, rfl, rfl⟩ := rdIs_one h4 (.inl ⟨rfl, hm, rfl⟩)
    exact ⟨ad, cp, h1, h2, h3⟩
theorem none_any (v : Value) (bs : List UInt8) (hn : ¬ openOk bs) (w : World) (hv : Bs 0 w.heap.size w v bs) (hb : bs.length ≤ 100000) : Calls Try.prog 10 #[v] w fun e w' => e = .returned (.tuple #[.agg (zM.cells (.slice none 0 0)), .int .i64 40]) ∧ Below w.heap.size w w' :=
  (readM_any v _ w hv hb).mono fun e w' ⟨m', x', v', c, h1, h2, h3, h4⟩ => by
    rcases h4 with ⟨-, -, he⟩ | ⟨rfl, rfl, rfl, rfl, -⟩
    · exact absurd ⟨_, he.symm⟩ hn
    · exact ⟨h1, h2.below⟩
theorem turned {s : List UInt8} {K : Nat} {b : UInt8} (hs : openOk s) (hK : K < 8 * s.length) (hb : s[K / 8]? = some b) : ¬ openOk (s.set (K / 8) (b ^^^ bitB (K % 8))) := by
  have h := turn_bit (r := 4294967295#32) (bs := s) (k := K) (j := 0) (b := b) (c := bitB (K % 8)) (by omega) (by omega) (by simpa using hb) (by simpa using bitB_toNat (Nat.mod_lt K (by omega)))
  simp only [Nat.add_zero] at h
  exact burst hs h (by decide)

set_option maxHeartbeats 1000000 in
theorem wback_any (m : Msg) (va : Option Addr) (vc : Nat) (x : List Wr) (vb : Value) (bs : List UInt8) (bit : Int) (w : World) (hv : Ws 0 w.heap.size w (.slice va x.length vc) x) (hb : Bs 0 w.heap.size w vb bs) :
    Calls Try.prog 5 #[.agg (m.cells (.slice va x.length vc)), vb, .int .i64 bit] w fun e w' => e = .returned (.bool true) ∧ Below w.heap.size w w' := by
  have M := Mem.start w
  refine calls_enter Try.func5 rfl 109 rfl rfl ?_; intro a S
  refine nxD ?_
  refine st_box S M rfl rfl rfl #[_, _, _, _, _, _, _, _, _, _, _, _, _, _, _, _, _, _, _, _, _, _, _, _] rfl ?_; clear S M a; intro a w1 bA S M hB
  refine st_go [1] S rfl (by kernel_rfl) ?_; clear S a; intro a S
  refine nxC ?_
  refine wp_seq ?_
  refine nxD ?_
  refine st_y S rfl rfl rfl (y_loadAgg (cs := [_, _, _, _, _, _, _, _, _, _, _, _, _, _, _, _, _, _, _, _, _, _, _, _]) S (by kernel_rfl) rfl rfl (M.cellsAt (k := 24) 0 rfl rfl)) ?_; clear S a; intro a S
  refine st_call (xs := [(Operand.tmp 16)]) S (enters_of Try.func6 (by decide) rfl) rfl rfl rfl (great15_any m _ _ _ _) ?_
  rintro _ w2 ⟨rfl, hK⟩; refine ⟨_, rfl, ?_⟩; clear S a; intro a S; replace M := M.grow hK
  refine st_go [1] S rfl (by kernel_rfl) ?_; clear S a; intro a S
  refine st_if (t := 18) S rfl ?_ ?_
  · clear S; intro h18 S
    refine st_go [0, 0, 0, 1] S rfl (by kernel_rfl) ?_; clear S a; intro a S
    refine nxC ?_
    refine st_condT S rfl ?_
    refine nxD ?_
    refine st_call (xs := []) S (enters_of Try.func8 (by decide) rfl) rfl rfl rfl (wakes_any _) ?_
    rintro _ w3 ⟨rfl, hK⟩; refine ⟨_, rfl, ?_⟩; clear S a; intro a S; replace M := M.grow hK
    refine st_go [1] S rfl (by kernel_rfl) ?_; clear S a; intro a S
    refine nxC ?_
    refine wp_ret ?_
    refine then_ret ?_
    refine end_one S rfl (res_tmp rfl) ?_
    exact ⟨rfl, M.below⟩
  clear S; intro h18 S
  refine st_go [1] S rfl (by kernel_rfl) ?_; clear S a; intro a S
  refine st_y S rfl rfl rfl (y_lenR (E := 5) S rfl (M.arg hb) (by kernel_rfl)) ?_; clear S a; intro a S
  refine st_go [1, 1] S rfl (by kernel_rfl) ?_; clear S a; intro a S
  refine nxC ?_
  refine st_if (t := 22) S rfl ?_ ?_
  · clear S; intro h22 S
    refine st_condT S rfl ?_
    refine nxD ?_
    refine st_call (xs := []) S (enters_of Try.func8 (by decide) rfl) rfl rfl rfl (wakes_any _) ?_
    rintro _ w4 ⟨rfl, hK⟩; refine ⟨_, rfl, ?_⟩; clear S a; intro a S; replace M := M.grow hK
    refine st_go [1] S rfl (by kernel_rfl) ?_; clear S a; intro a S
    refine nxC ?_
    refine wp_ret ?_
    refine then_ret ?_
    refine end_one S rfl (res_tmp rfl) ?_
    exact ⟨rfl, M.below⟩
  clear S; intro h22 S
  refine st_condF S rfl ?_
  refine wp_skip ?_
  refine nxE ?_
  refine st_y S rfl rfl rfl (y_loadAgg (cs := [_, _, _, _, _, _, _, _, _, _, _, _, _, _, _, _, _, _, _, _, _, _, _, _]) S (by kernel_rfl) rfl rfl (M.cellsAt (k := 24) 0 rfl rfl)) ?_; clear S a; intro a S
  refine st_call (xs := [(Operand.tmp 25)]) S (enters_of Try.func13 (by decide) rfl) rfl rfl rfl (bytesM_any m va _ vc x _ (M.argW hv) (by omega)) ?_
  rintro _ w5 ⟨v1, rfl, hF⟩; refine ⟨_, rfl, ?_⟩; clear S a; intro a S
  obtain ⟨lo1, hi1, -, M⟩ := M.pushFresh hF
  refine st_go [1, 1, 1, 1, 1] S rfl (by kernel_rfl) ?_; clear S a; intro a S
  refine nxC ?_
  refine wp_cut (fun a w' => Sees 109 a [(1, vb)] ∧ Mem w w' []) ?_ ?_
  · skip
    refine nxD ?_
    refine st_go [1, 1] S rfl (by kernel_rfl) ?_; clear S a; intro a S
    refine nxC ?_
    refine st_tils (t := 30) S rfl ?_ ?_
    · clear S; intro h30 S
      refine st_condF S rfl ?_
      refine wp_skip ?_
      refine then_normal ?_
      exact ⟨S.sub _ rfl, M.sub (by simp)⟩
    clear S; intro h30 S
    refine st_condT S rfl ?_
    refine wp_seq ?_
    have hm : m.may x = true := by
      cases h : m.may x with
      | true => rfl
      | false => rw [h] at h30; simp at h30
    rw [ifL_pos hm] at M
    obtain ⟨s, hs⟩ : ∃ s, sealB (m.enc x) = s := ⟨_, rfl⟩
    have hsl : 13 ≤ s.length ∧ s.length ≤ 90104 := by
      have := encS_len (khas m.kind) m x (k := 10) (Nat.le_refl _) (by omega)
      have h2 : (m.enc x).length = 9 + (bodyP (khas m.kind) m x 10).length := by unfold Msg.enc; rw [List.length_append, hdB_len]
      rw [← hs, sealB_len]; unfold Msg.enc at *; omega
    rw [hs] at M
    refine wp_region_lit ?_
    refine st_go [1] S rfl (by kernel_rfl) ?_; clear S a; intro a S
    refine st_call (xs := [(Operand.tmp 32)]) S (enters_of Try.func10 (by decide) rfl) rfl rfl rfl (back_any _ m x hm _ (by rw [hs]; exact M.readAll 0 rfl (by unfold maxLen; omega)) (by rw [hs]; omega)) ?_
    rintro _ w6 ⟨ad2, cp2, rfl, hF2, hx2⟩; refine ⟨_, rfl, ?_⟩; clear S a; intro a S
    obtain ⟨lo2, hi2, -, M⟩ := M.pushFresh hF2
    refine st_go [1, 1, 1] S rfl (by kernel_rfl) ?_; clear S a; intro a S
    refine st_alloc S M rfl rfl #[.int .i8 0, .int .i64 0, .int .i64 0, .int .i64 0, .int .i64 0, .int .i64 0, .int .i64 0, .int .i64 0, .int .i64 0, .int .i8 0, .int .i64 0, .int .u8 0, .int .u8 0, .int .u8 0, .int .u8 0, .int .u8 0, .int .u8 0, .int .u8 0, .int .u8 0, .int .i64 0, .bool false, .int .i64 0, .int .i64 0, .slice none 0 0] (by kernel_rfl) ?_; clear S M a; intro a w7 b1 S M hB
    refine st_store (sz := 24) (us := [_, _, _, _, _, _, _, _, _, _, _, _, _, _, _, _, _, _, _, _, _, _, _, _]) S M 0 rfl (by kernel_rfl) rfl rfl rfl rfl rfl rfl (by first | decide | (simp; done) | (simp; omega)) ?_; clear M; intro w8 M
    simp only [putL, List.set_cons_zero, List.set_cons_succ, Nat.reduceAdd] at M
    refine st_go [1] S rfl (by kernel_rfl) ?_; clear S a; intro a S
    replace S := S.sub [(0, _), (1, _), (2, _), (3, _), (6, _), (22, _), (7, _), (8, _), (30, _), (9, _), (10, _)] rfl
    refine nxC ?_
    refine wp_seq ?_
    refine nxD ?_
    refine st_go [1, 1, 1] S rfl (by kernel_rfl) ?_; clear S a; intro a S
    refine st_if (t := 38) S rfl ?_ ?_
    · clear S; intro h38 S
      simp at h38
    clear S; intro h38 S
    refine st_y S rfl rfl rfl (y_loadAgg (cs := [_, _, _, _, _, _, _, _, _, _, _, _, _, _, _, _, _, _, _, _, _, _, _, _]) S (by kernel_rfl) rfl rfl (M.cellsAt (k := 24) 0 rfl rfl)) ?_; clear S a; intro a S
    refine st_y S rfl rfl rfl (y_loadAgg (cs := [_, _, _, _, _, _, _, _, _, _, _, _, _, _, _, _, _, _, _, _, _, _, _, _]) S (by kernel_rfl) rfl rfl (M.cellsAt (k := 24) 3 rfl rfl)) ?_; clear S a; intro a S
    refine st_call (xs := [(Operand.tmp 39), (Operand.tmp 40)]) S (enters_of Try.func14 (by decide) rfl) rfl rfl rfl (sameM_any m m _ _ x x _ (M.readAll 1 rfl (by unfold maxLen; omega)) (M.argW hv)) ?_
    rintro _ w9 ⟨rfl, hK⟩; refine ⟨_, rfl, ?_⟩; clear S a; intro a S; replace M := M.grow hK
    rw [Msg.same_iff.2 ⟨rfl, rfl⟩] at S
    refine st_go [1, 1, 1] S rfl (by kernel_rfl) ?_; clear S a; intro a S
    refine st_if (t := 44) S rfl ?_ ?_
    · clear S; intro h44 S
      simp at h44
    clear S; intro h44 S
    refine st_y S rfl rfl rfl (y_loadAgg (cs := [_, _, _, _, _, _, _, _, _, _, _, _, _, _, _, _, _, _, _, _, _, _, _, _]) S (by kernel_rfl) rfl rfl (M.cellsAt (k := 24) 0 rfl rfl)) ?_; clear S a; intro a S
    refine st_call (xs := [(Operand.tmp 45)]) S (enters_of Try.func7 (by decide) rfl) rfl rfl rfl (mayM_any m ad2 _ cp2 x _ (M.readAll 1 rfl (by unfold maxLen; omega))) ?_
    rintro _ w10 ⟨rfl, hK⟩; refine ⟨_, rfl, ?_⟩; clear S a; intro a S; replace M := M.grow hK
    rw [hm] at S
    refine st_go [1, 1, 1] S rfl (by kernel_rfl) ?_; clear S a; intro a S
    refine st_if (t := 49) S rfl ?_ ?_
    · clear S; intro h49 S
      simp at h49
    clear S; intro h49 S
    refine st_go [1] S rfl (by kernel_rfl) ?_; clear S a; intro a S
    refine st_y S rfl rfl rfl (y_lenR (E := 5) S rfl (M.readAll 2 rfl (by unfold maxLen; omega)) (by kernel_rfl)) ?_; clear S a; intro a S
    refine st_go [1, 1] S rfl (by kernel_rfl) ?_; clear S a; intro a S
    replace S := S.sub [(0, _), (1, _), (2, _), (3, _), (6, _), (22, _), (7, _), (8, _), (30, _), (9, _), (10, _), (53, _)] rfl
    refine nxC ?_
    refine st_if (t := 53) S rfl ?_ ?_
    · clear S; intro h53 S
      exfalso; omega
    clear S; intro h53 S
    refine st_condF S rfl ?_
    refine wp_skip ?_
    refine nxE ?_
    refine st_go [1, 1] S rfl (by kernel_rfl) ?_; clear S a; intro a S
    refine st_y S rfl rfl rfl (y_lenR (E := 5) S rfl (M.readAll 2 rfl (by unfold maxLen; omega)) (by kernel_rfl)) ?_; clear S a; intro a S
    (first | refine st_y S rfl rfl rfl (y_mulN S rfl rfl (by omega)) ?_ | refine st_y S rfl rfl rfl (y_int S rfl rfl rfl) ?_); clear S a; intro a S
    (first | refine st_y S rfl rfl rfl (y_remN S rfl rfl (by omega)) ?_ | refine st_y S rfl rfl rfl (y_remZ S rfl rfl (by omega)) ?_); clear S a; intro a S
    have ht : -(8 * (s.length : Int)) < bit.tmod (8 * (s.length : Int)) ∧ bit.tmod (8 * (s.length : Int)) < 8 * (s.length : Int) := ⟨Int.lt_tmod_of_pos bit (by omega), Int.tmod_lt_of_pos bit (by omega)⟩
    generalize bit.tmod (8 * (s.length : Int)) = z at *
    refine st_y S rfl rfl rfl (y_move S rfl) ?_; clear S a; intro a S
    refine st_y S rfl rfl rfl (y_lenR (E := 5) S rfl (M.readAll 2 rfl (by unfold maxLen; omega)) (by kernel_rfl)) ?_; clear S a; intro a S
    (first | refine st_y S rfl rfl rfl (y_mulN S rfl rfl (by omega)) ?_ | refine st_y S rfl rfl rfl (y_int S rfl rfl rfl) ?_); clear S a; intro a S
    (first | refine st_y S rfl rfl rfl (y_addN S rfl rfl (by omega)) ?_ | refine st_y S rfl rfl rfl (y_int S rfl rfl rfl) ?_); clear S a; intro a S
    refine st_go [1] S rfl (by kernel_rfl) ?_; clear S a; intro a S
    refine st_y S rfl rfl rfl (y_lenR (E := 5) S rfl (M.readAll 2 rfl (by unfold maxLen; omega)) (by kernel_rfl)) ?_; clear S a; intro a S
    (first | refine st_y S rfl rfl rfl (y_mulN S rfl rfl (by omega)) ?_ | refine st_y S rfl rfl rfl (y_int S rfl rfl rfl) ?_); clear S a; intro a S
    (first | refine st_y S rfl rfl rfl (y_remN S rfl rfl (by omega)) ?_ | refine st_y S rfl rfl rfl (y_remZ S rfl rfl (by omega)) ?_); clear S a; intro a S
    obtain ⟨K, hKe, hKl⟩ : ∃ K : Nat, (z + 8 * (s.length : Int)) % (8 * (s.length : Int)) = (K : Int) ∧ K < 8 * s.length := ⟨((z + 8 * (s.length : Int)) % (8 * (s.length : Int))).toNat, by have := Int.emod_nonneg (z + 8 * (s.length : Int)) (b := 8 * (s.length : Int)) (by omega); omega, by have := Int.emod_nonneg (z + 8 * (s.length : Int)) (b := 8 * (s.length : Int)) (by omega); have := Int.emod_lt_of_pos (z + 8 * (s.length : Int)) (b := 8 * (s.length : Int)) (by omega); omega⟩
    rw [hKe] at S
    refine st_y S rfl rfl rfl (y_assign S rfl) ?_; clear S a; intro a S
    refine nxC ?_
    refine wp_seq ?_
    replace M := M.front 2 rfl
    simp only [List.eraseIdx_cons_succ, List.eraseIdx_cons_zero] at M
    obtain ⟨g, cp, more, hvE, hc1, hc2, hc3, M1⟩ := M.ofRow (by omega)
    subst hvE
    clear M
    have M := M1
    clear M1
    obtain ⟨b, hb1⟩ : ∃ b, s[K / 8]? = some b := ⟨_, List.getElem?_eq_getElem (by omega)⟩
    have hix : ((K : Int) / 8).toNat = K / 8 := by omega
    have hrx : ((K : Int) % 8).toNat = K % 8 := by omega
    have hb' : (bcells s ++ more).toArray[((K : Int) / 8).toNat]? = some (.int .u8 (b.toNat : Int)) := by
      rw [hix, List.getElem?_toArray, List.getElem?_append_left (by rw [bcells_length]; omega)]
      unfold bcells; rw [List.getElem?_map, hb1]; rfl
    refine wp_regionK [13] #[false, false, false, false, false, false, false, false, false, false, false, false, false, false] rfl M (by kernel_rfl) ?_; clear M; intro w11 M
    refine k_pure (listed' := #[true, false, false, false, false, false, false, false, false, false, false, false, false, false]) 0 S rfl rfl rfl rfl (by kernel_rfl) rfl (fun _ d _ _ _ h => by cases d <;> exact h) (fun w => y_move S rfl) ?_; clear S a; intro a S
    refine k_pure (listed' := #[true, true, false, false, false, false, false, false, false, false, false, false, false, false]) 1 S rfl rfl rfl rfl (by kernel_rfl) rfl (fun _ d _ _ _ h => by cases d <;> exact h) (fun w => y_move S rfl) ?_; clear S a; intro a S
    refine k_pure (listed' := #[true, true, true, false, false, false, false, false, false, false, false, false, false, false]) 2 S rfl rfl rfl rfl (by kernel_rfl) rfl (fun _ d _ _ _ h => by cases d <;> exact h) (fun w => y_quoN S rfl rfl (by omega)) ?_; clear S a; intro a S
    refine k_pure (listed' := #[true, true, true, true, false, false, false, false, false, false, false, false, false, false]) 3 S rfl rfl rfl rfl (by kernel_rfl) rfl (fun _ d _ _ _ h => by cases d <;> exact h) (fun w => y_move S rfl) ?_; clear S a; intro a S
    refine k_pure (listed' := #[true, true, true, true, true, false, false, false, false, false, false, false, false, false]) 4 S rfl rfl rfl rfl (by kernel_rfl) rfl (fun _ d _ _ _ h => by cases d <;> exact h) (fun w => y_move S rfl) ?_; clear S a; intro a S
    refine k_pure (listed' := #[true, true, true, true, true, true, false, false, false, false, false, false, false, false]) 5 S rfl rfl rfl rfl (by kernel_rfl) rfl (fun _ d _ _ _ h => by cases d <;> exact h) (fun w => y_quoN S rfl rfl (by omega)) ?_; clear S a; intro a S
    refine k_pure (listed' := #[true, true, true, true, true, true, true, false, false, false, false, false, false, false]) 6 S rfl rfl rfl rfl (by kernel_rfl) rfl (fun _ d _ _ _ h => by cases d <;> exact h) (fun w => y_indexS (e := 5) (sz := 1) S (by kernel_rfl) rfl rfl (by first | omega | (simp; done) | (simp; omega))) ?_; clear S a; intro a S
    try simp only [Int.toNat_natCast, Nat.mul_one, Nat.zero_add] at S
    refine k_read (listed' := #[true, true, true, true, true, true, true, true, false, false, false, false, false, false]) 7 S rfl rfl rfl rfl (by kernel_rfl) rfl (fun _ d _ _ _ h => by cases d <;> exact h) (fun w hW => have M := M.grow hW; y_load S (by kernel_rfl) rfl (M.cell 0 rfl (hb'))) ?_; clear S a; intro a S
    refine k_pure (listed' := #[true, true, true, true, true, true, true, true, true, false, false, false, false, false]) 8 S rfl rfl rfl rfl (by kernel_rfl) rfl (fun _ d _ _ _ h => by cases d <;> exact h) (fun w => y_move S rfl) ?_; clear S a; intro a S
    (first | refine k_pure (listed' := #[true, true, true, true, true, true, true, true, true, true, false, false, false, false]) 9 S rfl rfl rfl rfl (by kernel_rfl) rfl (fun _ d _ _ _ h => by cases d <;> exact h) (fun w => y_remN S rfl rfl (by omega)) ?_ | refine k_pure (listed' := #[true, true, true, true, true, true, true, true, true, true, false, false, false, false]) 9 S rfl rfl rfl rfl (by kernel_rfl) rfl (fun _ d _ _ _ h => by cases d <;> exact h) (fun w => y_remZ S rfl rfl (by omega)) ?_); clear S a; intro a S
    refine k_pure (listed' := #[true, true, true, true, true, true, true, true, true, true, true, false, false, false]) 10 S rfl rfl rfl rfl (by kernel_rfl) rfl (fun _ d _ _ _ h => by cases d <;> exact h) (fun w => y_shl8 S rfl rfl (by omega)) ?_; clear S a; intro a S
    refine k_pure (listed' := #[true, true, true, true, true, true, true, true, true, true, true, true, false, false]) 11 S rfl rfl rfl rfl (by kernel_rfl) rfl (fun _ d _ _ _ h => by cases d <;> exact h) (fun w => y_xor8 S rfl rfl) ?_; clear S a; intro a S
    refine k_pure (listed' := #[true, true, true, true, true, true, true, true, true, true, true, true, true, false]) 12 S rfl rfl rfl rfl (by kernel_rfl) rfl (fun _ d _ _ _ h => by cases d <;> exact h) (fun w => y_indexS (e := 5) (sz := 1) S (by kernel_rfl) rfl rfl (by first | omega | (simp; done) | (simp; omega))) ?_; clear S a; intro a S
    try simp only [Int.toNat_natCast, Nat.mul_one, Nat.zero_add] at S
    refine k_one (listed' := #[true, true, true, true, true, true, true, true, true, true, true, true, true, true]) 13 rfl (by kernel_rfl) rfl ?_
    refine st_store (o := ((K : Int) / 8).toNat) (l := bcells s ++ more) (sz := 1) (us := [.int .u8 ((b ^^^ bitB ((K : Int) % 8).toNat).toNat : Int)]) S M 0 rfl (by kernel_rfl) rfl rfl rfl rfl rfl rfl (by simp only [List.length_cons, List.length_nil, List.length_append, bcells_length]; omega) ?_; clear M; intro wz M
    simp only [List.set_cons_zero, List.set_cons_succ] at M
    rw [hix, hrx, bcells_set s more (by omega)] at M
    refine wpList_nil ?_; refine then_normal ?_; refine ⟨fun h => absurd h (by decide), ?_⟩
    refine k_end (by kernel_rfl) ?_
    replace S := S.sub [(0, _), (1, _), (2, _), (3, _), (6, _), (22, _), (7, _), (8, _), (30, _), (9, _), (10, _), (53, _), (11, _)] rfl
    refine then_normal ?_
    refine wp_seq ?_
    have hbad : ¬ openOk (s.set (K / 8) (b ^^^ bitB (K % 8))) := turned ⟨_, hs.symm⟩ hKl hb1
    have hbd : Bs 0 wz.heap.size wz (.slice (some ⟨g, 0, none⟩) s.length cp) (s.set (K / 8) (b ^^^ bitB (K % 8))) := by
      have B := M.blk 0 rfl
      have h1 := Rd.of_blk (sz := 1) (m := s.length) (cap := cp) (xs := bcells (s.set (K / 8) (b ^^^ bitB (K % 8)))) B (by rw [bcells_length, List.length_set]; omega) (by omega) hc2 (by rw [List.toList_toArray, Nat.mul_one]; rw [show s.length = (bcells (s.set (K / 8) (b ^^^ bitB (K % 8)))).length by rw [bcells_length, List.length_set]]; exact List.take_left)
      unfold Bs; rw [List.length_set]
      exact h1.wide (Nat.zero_le _) B.lt
    refine wp_region_lit ?_
    refine st_go [1] S rfl (by kernel_rfl) ?_; clear S a; intro a S
    refine st_call (xs := [(Operand.tmp 81)]) S (enters_of Try.func10 (by decide) rfl) rfl rfl rfl (none_any _ _ hbad _ hbd (by rw [List.length_set]; omega)) ?_
    rintro _ w12 ⟨rfl, hK⟩; refine ⟨_, rfl, ?_⟩; clear S a; intro a S; replace M := M.grow hK
    refine st_go [1, 1, 1, 1] S rfl (by kernel_rfl) ?_; clear S a; intro a S
    refine nxA ?_
    refine st_go [1, 1] S rfl (by kernel_rfl) ?_; clear S a; intro a S
    refine nxC ?_
    refine st_if (t := 86) S rfl ?_ ?_
    · clear S; intro h86 S
      simp at h86
    clear S; intro h86 S
    refine st_condF S rfl ?_
    refine wp_skip ?_
    refine then_normal ?_
    exact ⟨S.sub _ rfl, M.sub (by simp)⟩
  clear S a M; intro a wc
  rintro ⟨S, M⟩
  refine nxD ?_
  refine st_go [1] S rfl (by kernel_rfl) ?_; clear S a; intro a S
  refine st_call (xs := [(Operand.tmp 88)]) S (enters_of Try.func10 (by decide) rfl) rfl rfl rfl (readP_any _ bs _ (M.argW hb) (by omega)) ?_
  rintro _ w13 ⟨m3, x3, ad3, cp3, c3, rfl, hF3, hx3, hc3⟩; refine ⟨_, rfl, ?_⟩; clear S a; intro a S
  obtain ⟨lo3, hi3, -, M⟩ := M.pushFresh hF3
  refine st_go [1, 1, 1] S rfl (by kernel_rfl) ?_; clear S a; intro a S
  refine st_alloc S M rfl rfl #[.int .i8 0, .int .i64 0, .int .i64 0, .int .i64 0, .int .i64 0, .int .i64 0, .int .i64 0, .int .i64 0, .int .i64 0, .int .i8 0, .int .i64 0, .int .u8 0, .int .u8 0, .int .u8 0, .int .u8 0, .int .u8 0, .int .u8 0, .int .u8 0, .int .u8 0, .int .i64 0, .bool false, .int .i64 0, .int .i64 0, .slice none 0 0] (by kernel_rfl) ?_; clear S M a; intro a w14 b2 S M hB
  refine st_store (sz := 24) (us := [_, _, _, _, _, _, _, _, _, _, _, _, _, _, _, _, _, _, _, _, _, _, _, _]) S M 0 rfl (by kernel_rfl) rfl rfl rfl rfl rfl rfl (by first | decide | (simp; done) | (simp; omega)) ?_; clear M; intro w15 M
  simp only [putL, List.set_cons_zero, List.set_cons_succ, Nat.reduceAdd] at M
  refine st_go [1] S rfl (by kernel_rfl) ?_; clear S a; intro a S
  refine nxC ?_
  refine wp_seq ?_
  refine nxD ?_
  refine st_go [1, 1] S rfl (by kernel_rfl) ?_; clear S a; intro a S
  refine nxC ?_
  refine st_fi (t := 93) S rfl ?_ ?_
  · clear S; intro h93 S
    refine st_condF S rfl ?_
    refine wp_skip ?_
    refine nxE ?_
    refine st_call (xs := []) S (enters_of Try.func8 (by decide) rfl) rfl rfl rfl (wakes_any _) ?_
    rintro _ w18 ⟨rfl, hK⟩; refine ⟨_, rfl, ?_⟩; clear S a; intro a S; replace M := M.grow hK
    refine st_go [1] S rfl (by kernel_rfl) ?_; clear S a; intro a S
    refine nxC ?_
    refine wp_ret ?_
    refine end_one S rfl (res_tmp rfl) ?_
    exact ⟨rfl, M.below⟩
  clear S; intro h93 S
  refine st_condT S rfl ?_
  refine wp_seq ?_
  have hm3 : m3.may x3 = true ∧ sealB (m3.enc x3) = bs := by
    rcases hc3 with ⟨-, h1, h2⟩ | ⟨rfl, -⟩
    · exact ⟨h1, h2⟩
    · exfalso; simp at h93
  refine wp_region_lit ?_
  refine st_y S rfl rfl rfl (y_loadAgg (cs := [_, _, _, _, _, _, _, _, _, _, _, _, _, _, _, _, _, _, _, _, _, _, _, _]) S (by kernel_rfl) rfl rfl (M.cellsAt (k := 24) 0 rfl rfl)) ?_; clear S a; intro a S
  refine st_call (xs := [(Operand.tmp 95)]) S (enters_of Try.func13 (by decide) rfl) rfl rfl rfl (bytesM_ok m3 ad3 _ cp3 x3 _ (M.readAll 1 rfl (by unfold maxLen; omega)) (by omega) hm3.1) ?_
  rintro _ w16 ⟨v4, rfl, hF4⟩; refine ⟨_, rfl, ?_⟩; clear S a; intro a S
  rw [hm3.2] at hF4
  obtain ⟨lo4, hi4, -, M⟩ := M.pushFresh hF4
  refine st_go [1, 1, 1, 1, 1] S rfl (by kernel_rfl) ?_; clear S a; intro a S
  refine nxA ?_
  refine st_go [1, 1, 1] S rfl (by kernel_rfl) ?_; clear S a; intro a S
  refine st_if (t := 101) S rfl ?_ ?_
  · clear S; intro h101 S
    simp at h101
  clear S; intro h101 S
  refine st_go [1] S rfl (by kernel_rfl) ?_; clear S a; intro a S
  refine st_y S rfl rfl rfl (y_bytesStr (e := 5) S rfl (by kernel_rfl) (by kernel_rfl) (by kernel_rfl) (M.readAll 0 rfl (by unfold maxLen; omega))) ?_; clear S a; intro a S
  refine st_go [1] S rfl (by kernel_rfl) ?_; clear S a; intro a S
  refine st_y S rfl rfl rfl (y_bytesStr (e := 5) S rfl (by kernel_rfl) (by kernel_rfl) (by kernel_rfl) (M.arg hb)) ?_; clear S a; intro a S
  refine st_y S rfl rfl rfl (y_neqStr S rfl rfl) ?_; clear S a; intro a S
  refine st_go [1] S rfl (by kernel_rfl) ?_; clear S a; intro a S
  replace S := S.sub [(1, _), (12, _), (13, _), (93, _), (14, _), (15, _), (107, _)] rfl
  refine nxC ?_
  refine st_if (t := 107) S rfl ?_ ?_
  · clear S; intro h107 S
    exfalso; simp at h107
  clear S; intro h107 S
  refine st_condF S rfl ?_
  refine wp_skip ?_
  refine nxE ?_
  refine st_call (xs := []) S (enters_of Try.func8 (by decide) rfl) rfl rfl rfl (wakes_any _) ?_
  rintro _ w17 ⟨rfl, hK⟩; refine ⟨_, rfl, ?_⟩; clear S a; intro a S; replace M := M.grow hK
  refine st_go [1] S rfl (by kernel_rfl) ?_; clear S a; intro a S
  refine nxC ?_
  refine wp_ret ?_
  refine end_one S rfl (res_tmp rfl) ?_
  exact ⟨rfl, M.below⟩

end Go.Proofs.Ytcpobgjoicadjaa
